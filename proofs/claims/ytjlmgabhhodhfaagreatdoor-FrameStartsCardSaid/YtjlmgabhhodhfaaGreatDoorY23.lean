import Derived.Test.YtjlmgabhhodhfaaGreatDoorY20Y22
import Derived.Test.YtjlmgabhhodhfaaGreatDoorY23a
import Derived.Test.YtjlmgabhhodhfaaGreatDoorTieB1Y23c
import Derived.Test.YtjlmgabhhodhfaaGreatDoorTieB5Y23d
import Derived.Test.YtjlmgabhhodhfaaGreatDoorRows
import Derived.WalkKit
import Derived.ProofKit
import Derived.OpenShut
import Derived.ShutString
import Derived.ChangeOld
import Derived.Below
import Derived.SizedLaws
import Derived.LaidMore
import Derived.Stop.Joined
import Derived.Lib.LaidTab
import Derived.MakeChecks
set_option linter.unusedSimpArgs false
set_option linter.unusedVariables false
namespace Go.Proofs.YtjlmgabhhodhfaaGreatDoor.frameStarts
open Go.ChangeShapes Go.WideShapes Go.ChangeAt Go.RowKit
open Go.Ev
theorem own : ownKnob Tryz.prog.godebug = none := by kernel_rfl
theorem laidOut : laidOutB Tryz.prog = true := by kernel_rfl
set_option maxRecDepth 100000 in
theorem lifted (os : Os) (started : os.Started) (H : Type) (enc : TypeId × Value → H) :
    ReturnsInHanded {} Tryz.checked os 8 .any (fun w args => (Rows.frameStartsSpec.pre enc Tryz.prog Tryz.f8 [] false w args ∧ laidMetH Tryz.prog Rows.frameStartsRow.laid w) ∧ sizedMet enc Tryz.prog Tryz.f8 (OpenSpec.ofChange Rows.frameStartsSpec) false w args)
      (Rows.frameStartsSpec.post enc Tryz.prog Tryz.f8 false true false false) := by
  refine returnsInHanded_of_change_and (C := Tryz.checked) (X := fun w _ => laidMetH Tryz.prog Rows.frameStartsRow.laid w) (fun _ _ _ hh h => h.of_heap hh) own started (by kernel_rfl) Tryz.func8
    (ChangeSpec.witness_shaped (enc := enc) (C := Tryz.checked) (os := os) (X := fun w _ => laidMetH Tryz.prog Rows.frameStartsRow.laid w) false (World.doorLaid Tryz.prog 400 os) args0 8 rfl (wit1 os) (wit2 os) (wit3 os enc) (wit4 os enc) (door_met os _)) ?_
  intro W base args ds gs before hval0 hW hcnd hsz0 hX _
  have hsz : (DataW.weightsEach Tryz.prog (Tryz.f8.params.toList ++ Rows.frameStartsSpec.plain.varTypes Tryz.prog) (ds ++ gs)).all (· ≤ reachBytes) = true := hsz0
  have hval : ∀ (j : Nat) t v, Tryz.f8.params[j]? = some t → args[j]? = some v → Value.okWide Tryz.prog W .any base t v := hval0
  have hW' := hW
  obtain ⟨p, q, hA0, hV, rfl, hfz, hnd⟩ := hW
  have hA : DataW.TrodAll enc Tryz.prog W 0 (fun _ => true) true Tryz.f8.params.toList args.toList ds p := hA0
  rw [Tryz.params8] at hA hval hsz
  obtain ⟨v0, vs0, d0, ds0, p0, q0, hargs, rfl, rfl, h0, r0⟩ := trodAll_cons hA
  obtain ⟨v1, vs1, d1, ds1, p1, q1, rfl, rfl, rfl, h1, r1⟩ := trodAll_cons r0
  obtain ⟨v2, vs2, d2, ds2, p2, q2, rfl, rfl, rfl, h2, r2⟩ := trodAll_cons r1
  obtain ⟨rfl, rfl, rfl⟩ := trodAll_nil r2
  obtain rfl : args = #[v0, v1, v2] := by cases args; simp_all
  obtain ⟨rfl, rfl⟩ := trodVars_none hV
  have hVal0 := hval 0 27 v0 rfl rfl
  obtain ⟨a1, rfl, rfl, rfl, w1⟩ := open_int Tryz.underlying3 (hval 1 3 v1 rfl rfl) h1
  obtain ⟨a2, len2, cap2, rfl⟩ := okWide_slice Tryz.underlying24 (hval 2 24 v2 rfl rfl)
  have lt0 : ∀ x ∈ p0, x.block < W.heap.size := by obtain ⟨m, hm⟩ := h0; exact DataW.trod_lt m _ _ _ hm
  have lt2 : ∀ x ∈ p2, x.block < W.heap.size := by obtain ⟨m, hm⟩ := h2; exact DataW.trod_lt m _ _ _ hm
  have k0 := h0
  have k2 := h2
  obtain ⟨fuel0, hf0⟩ := h0
  obtain ⟨fuel2, hf2⟩ := h2
  have hw0 : (d0.weights Tryz.prog 27).all (· ≤ reachBytes) = true := List.all_eq_true.2 fun x hx => List.all_eq_true.1 hsz _ (DataW.weights_mem_each (j := 0) rfl rfl x hx)
  have hw2 : (d2.weights Tryz.prog 24).all (· ≤ reachBytes) = true := List.all_eq_true.2 fun x hx => List.all_eq_true.1 hsz _ (DataW.weights_mem_each (j := 2) rfl rfl x hx)
  obtain ⟨cs0, hrep0, hshp0⟩ := shp_of_trod Tryz.prog (E := E0) T.lay_all (fun _ => rfl) fuel0 27 _ d0 p0 (of_decide_eq_true (by kernel_rfl)) hf0 hw0
  obtain ⟨cs2, hrep2, hshp2⟩ := shp_of_trod Tryz.prog (E := E0) T.lay_all (fun _ => rfl) fuel2 24 _ d2 p2 (of_decide_eq_true (by kernel_rfl)) hf2 hw2
  obtain ⟨m, v, L, rfl, hv, hlen, hL, _, _⟩ := T.shp_slice T.und24 T.cells34 T.bytes34 (by decide) hshp2
  obtain ⟨w0, rfl, hw0s⟩ := okWide_struct T.und27 hVal0
  obtain ⟨vF, vG, vI, vH, LF, LG, LI, LH, rfl, hcod⟩ := T.cod_of (N := fuel0 + fuel2 + 1 + 1) hshp0 (by omega)
  clear hA0 hval0 hsz0 hsz
  have e0 : (Value.agg w0).cells.toList = w0.toList := rfl
  rw [e0] at hrep0
  have ha0 : Rep (memOf W) E0 (.agg [vF, vG, vI, vH]) (.agg w0) := by
    have := Rep.agg _ _ hrep0
    simpa using this
  have hr : RepL (memOf W) E0 [.agg [vF, vG, vI, vH], .int .i64 a1, v] [.agg w0, .int .i64 a1, .slice a2 len2 cap2] := by
    cases hrep2 with
    | cons _ _ _ _ hh _ => exact .cons _ _ _ _ ha0 (.cons _ _ _ _ (.int _ _) (.cons _ _ _ _ hh .nil))
  refine (law_calls' (P := Tryz.prog) (W := W) (f := 8) (by kernel_rfl) M0 (glOk_of hX) hr ?_).mono fun e W' ⟨he, bel⟩ => ?_
  · exact T.starts_ok (n := fuel0 + fuel2 + 1) hcod hv (fun c hc => T.vt_le (T.vt_of _ _ (hL c hc)) (by omega)) (fun c hc => T.vs_of _ _ _ (hL c hc)) (by simp only [reachBytes] at hlen; omega) a1
  · subst he
    exact ⟨_, rfl, _, _, _, [], _, [], hW', trodAll_mk1 (shut_bool Tryz.underlying4 _), trodAll_cons_mk (Below.trod laidOut (by kernel_rfl) (of_decide_eq_true (by kernel_rfl)) k0 bel lt0) (trodAll_cons_mk (shut_int Tryz.underlying3 w1) (trodAll_mk1 (Below.trod laidOut (by kernel_rfl) (of_decide_eq_true (by kernel_rfl)) k2 bel lt2))), rfl, bel.frame _, fun h => by cases h⟩
end Go.Proofs.YtjlmgabhhodhfaaGreatDoor.frameStarts
