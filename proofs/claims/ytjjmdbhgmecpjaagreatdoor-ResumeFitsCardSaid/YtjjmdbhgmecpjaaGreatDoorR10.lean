/- The law ResumeFits: for every call that the row lets in, workflowlaw29.ResumeFits returns true and its arguments read as before. Conditions: those of the given row (the five listed package variables read as the program's text lays them; the card ties them), nothing else. -/
import Derived.Test.YtjjmdbhgmecpjaaGreatDoorR9
import Derived.Test.YtjjmdbhgmecpjaaGreatDoorRows
import Derived.WalkKit
import Derived.ProofKit
import Derived.OpenShut
import Derived.ShutString
import Derived.ChangeOld
import Derived.Below
import Derived.SizedLaws
import Derived.LaidMore
import Derived.Stop.Joined
set_option linter.unusedSimpArgs false
set_option linter.unusedVariables false
namespace Go.Proofs.YtjjmdbhgmecpjaaGreatDoor.resumeFits
open Go.ChangeShapes Go.WideShapes Go.ChangeAt Go.RowKit
open Go.Ev
theorem own : ownKnob Tryz.prog.godebug = none := by kernel_rfl
theorem laidOut : laidOutB Tryz.prog = true := by kernel_rfl
/-- The door's own heap meets the condition. -/
theorem met1 (os : Os) (args : Array Value) : laidMet Tryz.prog (Rows.resumeFitsRow.laid.filter fun x => x.2.handleName?.isNone) ((World.doorLaid Tryz.prog 400 os).forCall (fun _ _ => 0) ⟨#[], args, []⟩).memory := laidMet_of_run' 8 (by kernel_rfl) (by kernel_rfl)
theorem door_met (os : Os) (args : Array Value) : laidMetH Tryz.prog Rows.resumeFitsRow.laid ((World.doorLaid Tryz.prog 400 os).forCall (fun _ _ => 0) ⟨#[], args, []⟩).memory :=
  laidMetH_of_parts3 (fuel := 8) (met1 os args) (by kernel_rfl) (by kernel_rfl)
def args0 : Array Value := #[.slice none 0 0, .int .i64 0, .bool false]
theorem wit1 (os : Os) : World.Shaped Tryz.prog ((World.doorLaid Tryz.prog 400 os).forCall (fun _ _ => 0) ⟨#[], args0, []⟩) := World.shaped_of_RefB (by kernel_rfl) (by kernel_rfl)
theorem wit2 (os : Os) : Input.okWideB Tryz.prog ((World.doorLaid Tryz.prog 400 os).forCall (fun _ _ => 0) ⟨#[], args0, []⟩) 3 ⟨#[], args0, []⟩ = true := by kernel_rfl
theorem wit3 (os : Os) {H : Type} (enc : TypeId × Value → H) : Rows.resumeFitsSpec.preB enc Tryz.prog Tryz.f3 [] false ((World.doorLaid Tryz.prog 400 os).forCall (fun _ _ => 0) ⟨#[], args0, []⟩).memory args0 8 = true := by kernel_rfl
theorem wit4 (os : Os) {H : Type} (enc : TypeId × Value → H) : Rows.resumeFitsSpec.sizedB enc Tryz.prog Tryz.f3 false ((World.doorLaid Tryz.prog 400 os).forCall (fun _ _ => 0) ⟨#[], args0, []⟩).memory args0 8 = true := by kernel_rfl
set_option maxRecDepth 100000 in
theorem lifted (os : Os) (started : os.Started) (H : Type) (enc : TypeId × Value → H) :
    ReturnsInHanded {} Tryz.checked os 3 .any (fun w args => (Rows.resumeFitsSpec.pre enc Tryz.prog Tryz.f3 [] false w args ∧ laidMetH Tryz.prog Rows.resumeFitsRow.laid w) ∧ sizedMet enc Tryz.prog Tryz.f3 (OpenSpec.ofChange Rows.resumeFitsSpec) false w args)
      (Rows.resumeFitsSpec.post enc Tryz.prog Tryz.f3 false true false false) := by
  refine returnsInHanded_of_change_and (C := Tryz.checked) (X := fun w _ => laidMetH Tryz.prog Rows.resumeFitsRow.laid w) (fun _ _ _ hh h => h.of_heap hh) own started (by kernel_rfl) Tryz.func3
    (ChangeSpec.witness_shaped (enc := enc) (C := Tryz.checked) (os := os) (X := fun w _ => laidMetH Tryz.prog Rows.resumeFitsRow.laid w) false (World.doorLaid Tryz.prog 400 os) args0 8 rfl (wit1 os) (wit2 os) (wit3 os enc) (wit4 os enc) (door_met os _)) ?_
  intro W base args ds gs before hval0 hW hcnd hsz0 _ _
  have hsz : (DataW.weightsEach Tryz.prog (Tryz.f3.params.toList ++ Rows.resumeFitsSpec.plain.varTypes Tryz.prog) (ds ++ gs)).all (· ≤ reachBytes) = true := hsz0
  have hval : ∀ (j : Nat) t v, Tryz.f3.params[j]? = some t → args[j]? = some v → Value.okWide Tryz.prog W .any base t v := hval0
  have hW' := hW
  obtain ⟨p, q, hA0, hV, rfl, hfz, hnd⟩ := hW
  have hA : DataW.TrodAll enc Tryz.prog W 0 (fun _ => true) true Tryz.f3.params.toList args.toList ds p := hA0
  rw [Tryz.params3] at hA hval hsz
  obtain ⟨v0, vs0, d0, ds0, p0, q0, hargs, rfl, rfl, h0, r0⟩ := trodAll_cons hA
  obtain ⟨v1, vs1, d1, ds1, p1, q1, rfl, rfl, rfl, h1, r1⟩ := trodAll_cons r0
  obtain ⟨v2, vs2, d2, ds2, p2, q2, rfl, rfl, rfl, h2, r2⟩ := trodAll_cons r1
  obtain ⟨rfl, rfl, rfl⟩ := trodAll_nil r2
  obtain rfl : args = #[v0, v1, v2] := by cases args; simp_all
  obtain ⟨rfl, rfl⟩ := trodVars_none hV
  obtain ⟨a0, len0, cap0, rfl⟩ := okWide_slice Tryz.underlying22 (hval 0 22 v0 rfl rfl)
  obtain ⟨a1, rfl, rfl, rfl, w1⟩ := open_int Tryz.underlying3 (hval 1 3 v1 rfl rfl) h1
  obtain ⟨a2, rfl, rfl, rfl⟩ := open_bool Tryz.underlying4 (hval 2 4 v2 rfl rfl) h2
  have lt0 : ∀ x ∈ p0, x.block < W.heap.size := by obtain ⟨m, hm⟩ := h0; exact DataW.trod_lt m _ _ _ hm
  have k0 := h0
  obtain ⟨fuel, hf⟩ := h0
  have hw0 : (d0.weights Tryz.prog 22).all (· ≤ reachBytes) = true := List.all_eq_true.2 fun x hx => List.all_eq_true.1 hsz _ (DataW.weights_mem_each (j := 0) rfl rfl x hx)
  obtain ⟨cs, hrep, hshp⟩ := shp_of_trod Tryz.prog (E := E0) T.lay_all (fun _ => rfl) fuel 22 _ d0 p0 (of_decide_eq_true (by kernel_rfl)) hf hw0
  obtain ⟨m, v, L, rfl, hv, hlen, hL, _, _⟩ := T.shp_slice T.und22 T.cells46 T.bytes46 (by decide) hshp
  clear hA0 hval0 hsz0 hsz
  have hr : RepL (memOf W) E0 [v, .int .i64 a1, .bool a2] [.slice a0 len0 cap0, .int .i64 a1, .bool a2] := by
    cases hrep with
    | cons _ _ _ _ hh _ => exact .cons _ _ _ _ hh (.cons _ _ _ _ (.int _ _) (.cons _ _ _ _ (.bool _) .nil))
  refine (law_calls' (P := Tryz.prog) (W := W) (f := 3) (by kernel_rfl) M0 hr ?_).mono fun e W' ⟨he, bel⟩ => ?_
  · exact T.law_ok hv (fun c hc => T.evt_of (hL c hc)) (by simp only [reachBytes] at hlen; omega) a1 a2
  · subst he
    exact ⟨_, rfl, _, _, _, [], _, [], hW', trodAll_mk1 (shut_bool Tryz.underlying4 _), trodAll_cons_mk (Below.trod laidOut (by kernel_rfl) (of_decide_eq_true (by kernel_rfl)) k0 bel lt0) (trodAll_cons_mk (shut_int Tryz.underlying3 w1) (trodAll_mk1 (shut_bool Tryz.underlying4 _))), rfl, bel.frame _, fun h => by cases h⟩
end Go.Proofs.YtjjmdbhgmecpjaaGreatDoor.resumeFits
