/- The law OutboxVoid: for every call that the row lets in, workflowlaw42.OutboxVoid returns true and its arguments read as before. Conditions: those of the given row, nothing else. -/
import Derived.Test.YtlllflmjpclobaaW22
import Derived.Test.YtlllflmjpclobaaW23
import Derived.Test.YtlllflmjpclobaaRows
import Derived.WalkKit
import Derived.ProofKit
import Derived.OpenShut
import Derived.ShutString
import Derived.ChangeOld
import Derived.Below
import Derived.SizedLaws
set_option linter.unusedSimpArgs false
set_option linter.unusedVariables false
namespace Go.Proofs.Ytlllflmjpclobaa.outboxVoid
open Go.ChangeShapes Go.WideShapes Go.ChangeAt Go.RowKit
open Go.ChangeMaps (open_string shut_string)
open Go.Ev
theorem own : ownKnob Try.prog.godebug = none := by kernel_rfl
theorem laidOut : laidOutB Try.prog = true := by kernel_rfl
set_option maxRecDepth 100000 in
theorem lifted (os : Os) (started : os.Started) (H : Type) (enc : TypeId × Value → H) :
    ReturnsInHanded {} Try.checked os 6 .any (Rows.outboxVoidSpec.pre6 enc Try.prog Try.f6 Rows.outboxVoidRow.domain false) (Rows.outboxVoidSpec.post enc Try.prog Try.f6 false true false false) := by
  refine returnsInHanded_of_change_sized (C := Try.checked) own started (by kernel_rfl) Try.func6
    (ChangeSpec.witness6 (enc := enc) (C := Try.checked) false ⟨#[], #[.slice none 0 0, .agg #[.int .i64 0, .int .i64 0, .int .i64 0, .int .i64 0, .int .i64 0, .int .i64 0, .string ByteArray.empty, .string ByteArray.empty, .string ByteArray.empty], .agg #[.int .i64 0, .int .i64 0, .string ByteArray.empty, .int .i64 0, .int .i64 0, .string ByteArray.empty, .slice none 0 0, .slice none 0 0, .string ByteArray.empty, .int .i64 0, .int .i64 0, .int .i64 0, .int .i64 0, .int .i64 0, .int .i64 0, .int .i64 0, .int .i64 0, .slice none 0 0, .int .i64 0, .int .i64 0, .int .i64 0, .int .i64 0, .int .i64 0, .int .i64 0, .int .i64 0, .bool false, .int .i64 0, .int .i64 0, .string ByteArray.empty, .slice none 0 0, .slice none 0 0, .string ByteArray.empty]], []⟩ 12 (by kernel_rfl) (by kernel_rfl) (by kernel_rfl) (by kernel_rfl)) ?_
  intro W base args ds gs before hval0 hW hcnd hsz0 _
  have hsz : (DataW.weightsEach Try.prog (Try.f6.params.toList ++ Rows.outboxVoidSpec.plain.varTypes Try.prog) (ds ++ gs)).all (· ≤ reachBytes) = true := hsz0
  have hval : ∀ (j : Nat) t v, Try.f6.params[j]? = some t → args[j]? = some v → Value.okWide Try.prog W .any base t v := hval0
  have hW' := hW
  obtain ⟨p, q, hA0, hV, rfl, hfz, hnd⟩ := hW
  have hA : DataW.TrodAll enc Try.prog W 0 (fun _ => true) true Try.f6.params.toList args.toList ds p := hA0
  rw [Try.params6] at hA hval hsz
  obtain ⟨v0, vs0, d0, ds0, p0, q0, hargs, rfl, rfl, h0, r0⟩ := trodAll_cons hA
  obtain ⟨v1, vs1, d1, ds1, p1, q1, rfl, rfl, rfl, h1, r1⟩ := trodAll_cons r0
  obtain ⟨v2, vs2, d2, ds2, p2, q2, rfl, rfl, rfl, h2, r2⟩ := trodAll_cons r1
  obtain ⟨rfl, rfl, rfl⟩ := trodAll_nil r2
  obtain rfl : args = #[v0, v1, v2] := by cases args; simp_all
  obtain ⟨rfl, rfl⟩ := trodVars_none hV
  obtain ⟨a0, len0, cap0, rfl⟩ := okWide_slice Try.underlying22 (hval 0 22 v0 rfl rfl)
  obtain ⟨a1, rfl, _⟩ := okWide_struct Try.underlying51 (hval 1 51 v1 rfl rfl)
  obtain ⟨a2, rfl, _⟩ := okWide_struct Try.underlying60 (hval 2 60 v2 rfl rfl)
  have lt0 : ∀ x ∈ p0, x.block < W.heap.size := by obtain ⟨m, hm⟩ := h0; exact DataW.trod_lt m _ _ _ hm
  have lt1 : ∀ x ∈ p1, x.block < W.heap.size := by obtain ⟨m, hm⟩ := h1; exact DataW.trod_lt m _ _ _ hm
  have lt2 : ∀ x ∈ p2, x.block < W.heap.size := by obtain ⟨m, hm⟩ := h2; exact DataW.trod_lt m _ _ _ hm
  have k0 := h0
  have k1 := h1
  have k2 := h2
  obtain ⟨fuel0, hf0⟩ := h0
  obtain ⟨fuel1, hf1⟩ := h1
  obtain ⟨fuel2, hf2⟩ := h2
  have hw0 : (d0.weights Try.prog 22).all (· ≤ reachBytes) = true := List.all_eq_true.2 fun x hx => List.all_eq_true.1 hsz _ (DataW.weights_mem_each (j := 0) rfl rfl x hx)
  have hw1 : (d1.weights Try.prog 51).all (· ≤ reachBytes) = true := List.all_eq_true.2 fun x hx => List.all_eq_true.1 hsz _ (DataW.weights_mem_each (j := 1) rfl rfl x hx)
  have hw2 : (d2.weights Try.prog 60).all (· ≤ reachBytes) = true := List.all_eq_true.2 fun x hx => List.all_eq_true.1 hsz _ (DataW.weights_mem_each (j := 2) rfl rfl x hx)
  obtain ⟨cs0, hrep0, hshp0⟩ := shp_of_trod Try.prog (E := E0) T.lay_all (fun _ => rfl) fuel0 22 _ d0 p0 (of_decide_eq_true (by kernel_rfl)) hf0 hw0
  obtain ⟨cs1, hrep1, hshp1⟩ := shp_of_trod Try.prog (E := E0) T.lay_all (fun _ => rfl) fuel1 51 _ d1 p1 (of_decide_eq_true (by kernel_rfl)) hf1 hw1
  obtain ⟨cs2, hrep2, hshp2⟩ := shp_of_trod Try.prog (E := E0) T.lay_all (fun _ => rfl) fuel2 60 _ d2 p2 (of_decide_eq_true (by kernel_rfl)) hf2 hw2
  obtain ⟨m, v, L, rfl, hv, hlen, hL, _, _⟩ := T.shp_slice T.und22 T.cells63 T.bytes63 (by decide) hshp0
  obtain ⟨tid, k, ev, sq, due, att, wf, rn, q, rfl⟩ := T.task_of hshp1
  obtain ⟨s, aev, nm, d, o, x5, x6, x7, x8, x9, x10, x11, cn, dt, fl, n1, n2, rfl, c1, c2, c3, c4, c5⟩ := T.act_of hshp2
  clear hA0 hval0 hsz0 hsz
  have hrr : RepL (memOf W) E0 [v, .agg (T.task tid k ev sq due att wf rn q), .agg (T.actC s aev nm d o x5 x6 x7 x8 x9 x10 x11 cn dt fl)] [.slice a0 len0 cap0, .agg a1, .agg a2] := by
    cases hrep0 with
    | cons _ _ _ _ hh _ => exact .cons _ _ _ _ hh (.cons _ _ _ _ (by simpa [Value.cells] using Rep.agg _ _ hrep1) (.cons _ _ _ _ (by simpa [Value.cells] using Rep.agg _ _ hrep2) .nil))
  refine (law_calls (P := Try.prog) (W := W) (f := 6) (by kernel_rfl) hrr ?_).mono fun e W' ⟨he, bel⟩ => ?_
  · exact T.f6_ok free_H0 hv (fun c hc => T.evB_of (hL c hc)) (by simp only [reachBytes] at hlen; omega) c1 c2 c3 c4 c5 _ (fun _ _ _ => rfl)
  · subst he
    exact ⟨_, rfl, _, _, _, [], _, [], hW', trodAll_mk1 (shut_bool Try.underlying4 _), trodAll_cons_mk (Below.trod laidOut (by kernel_rfl) (of_decide_eq_true (by kernel_rfl)) k0 bel lt0) (trodAll_cons_mk (Below.trod laidOut (by kernel_rfl) (of_decide_eq_true (by kernel_rfl)) k1 bel lt1) (trodAll_cons_mk (Below.trod laidOut (by kernel_rfl) (of_decide_eq_true (by kernel_rfl)) k2 bel lt2) trodAll_mk0)), rfl, bel.frame _, fun h => by cases h⟩
theorem over : Rows.outboxVoidRow.holds Try.pinned (OpenSpec.ofChange Rows.outboxVoidSpec) :=
  OpenClaim.holds_of_wide 6 Try.f6 rfl rfl rfl rfl rfl rfl rfl ⟨rfl, rfl, rfl, rfl, rfl⟩ rfl rfl rfl rfl rfl (by kernel_rfl) Try.func6 (by kernel_rfl)
    (of_decide_eq_true (by kernel_rfl)) (by unfold Func.isWrapper; first | (rw [if_pos (by decide +kernel)]; kernel_rfl) | (rw [if_neg (by decide +kernel)]; exact ⟨rfl, rfl⟩))
    (fun os started H enc _ => lifted os started H enc)
theorem proved : Rows.OutboxVoidSaid := over
end Go.Proofs.Ytlllflmjpclobaa.outboxVoid
namespace Go.Proofs.Ytlllflmjpclobaa
/-- The law's row, for the claim. -/
theorem outboxVoid_holds : Rows.OutboxVoidSaid := outboxVoid.proved
end Go.Proofs.Ytlllflmjpclobaa
