/- The law OutboxFresh: for every call that the row lets in, workflowlaw42.OutboxFresh returns true and its argument reads as before. Conditions: those of the given row, nothing else. -/
import Derived.Test.YtlllflmjpclobaaW25
import Derived.Test.YtlllflmjpclobaaW23
import Derived.Test.YtlllflmjpclobaaRows
import Derived.WalkKit
import Derived.ProofKit
import Derived.OpenShut
import Derived.ShutString
import Derived.ChangeOld
import Derived.Below
import Derived.SizedLaws
set_option linter.unusedSimpArgs false
set_option linter.unusedVariables false
namespace Go.Proofs.Ytlllflmjpclobaa.outboxFresh
open Go.ChangeShapes Go.WideShapes Go.ChangeAt Go.RowKit
open Go.ChangeMaps (open_string shut_string)
open Go.Ev
theorem own : ownKnob Try.prog.godebug = none := by kernel_rfl
theorem laidOut : laidOutB Try.prog = true := by kernel_rfl
set_option maxRecDepth 100000 in
theorem lifted (os : Os) (started : os.Started) (H : Type) (enc : TypeId × Value → H) :
    ReturnsInHanded {} Try.checked os 7 .any (Rows.outboxFreshSpec.pre6 enc Try.prog Try.f7 Rows.outboxFreshRow.domain false) (Rows.outboxFreshSpec.post enc Try.prog Try.f7 false true false false) := by
  refine returnsInHanded_of_change_sized (C := Try.checked) own started (by kernel_rfl) Try.func7
    (ChangeSpec.witness6 (enc := enc) (C := Try.checked) false ⟨#[], #[.slice none 0 0], []⟩ 8 (by kernel_rfl) (by kernel_rfl) (by kernel_rfl) (by kernel_rfl)) ?_
  intro W base args ds gs before hval0 hW hcnd hsz0 _
  have hsz : (DataW.weightsEach Try.prog (Try.f7.params.toList ++ Rows.outboxFreshSpec.plain.varTypes Try.prog) (ds ++ gs)).all (· ≤ reachBytes) = true := hsz0
  have hval : ∀ (j : Nat) t v, Try.f7.params[j]? = some t → args[j]? = some v → Value.okWide Try.prog W .any base t v := hval0
  have hW' := hW
  obtain ⟨p, q, hA0, hV, rfl, hfz, hnd⟩ := hW
  have hA : DataW.TrodAll enc Try.prog W 0 (fun _ => true) true Try.f7.params.toList args.toList ds p := hA0
  rw [Try.params7] at hA hval hsz
  obtain ⟨v0, vs0, d0, ds0, p0, q0, hargs, rfl, rfl, h0, r0⟩ := trodAll_cons hA
  obtain ⟨rfl, rfl, rfl⟩ := trodAll_nil r0
  obtain rfl : args = #[v0] := by cases args; simp_all
  obtain ⟨rfl, rfl⟩ := trodVars_none hV
  obtain ⟨a0, len0, cap0, rfl⟩ := okWide_slice Try.underlying22 (hval 0 22 v0 rfl rfl)
  have lt0 : ∀ x ∈ p0, x.block < W.heap.size := by obtain ⟨m, hm⟩ := h0; exact DataW.trod_lt m _ _ _ hm
  have k0 := h0
  obtain ⟨fuel0, hf0⟩ := h0
  have hw0 : (d0.weights Try.prog 22).all (· ≤ reachBytes) = true := List.all_eq_true.2 fun x hx => List.all_eq_true.1 hsz _ (DataW.weights_mem_each (j := 0) rfl rfl x hx)
  obtain ⟨cs0, hrep0, hshp0⟩ := shp_of_trod Try.prog (E := E0) T.lay_all (fun _ => rfl) fuel0 22 _ d0 p0 (of_decide_eq_true (by kernel_rfl)) hf0 hw0
  obtain ⟨m, v, L, rfl, hv, hlen, hL, _, _⟩ := T.shp_slice T.und22 T.cells63 T.bytes63 (by decide) hshp0
  clear hA0 hval0 hsz0 hsz
  have hrr : RepL (memOf W) E0 [v] [.slice a0 len0 cap0] := by
    cases hrep0 with
    | cons _ _ _ _ hh _ => exact .cons _ _ _ _ hh .nil
  refine (law_calls (P := Try.prog) (W := W) (f := 7) (by kernel_rfl) hrr ?_).mono fun e W' ⟨he, bel⟩ => ?_
  · exact T.f7_ok free_H0 hv (fun c hc => T.evB_of (hL c hc)) (by simp only [reachBytes] at hlen; omega) _ (fun _ _ _ => rfl)
  · subst he
    exact ⟨_, rfl, _, _, _, [], _, [], hW', trodAll_mk1 (shut_bool Try.underlying4 _), trodAll_cons_mk (Below.trod laidOut (by kernel_rfl) (of_decide_eq_true (by kernel_rfl)) k0 bel lt0) trodAll_mk0, rfl, bel.frame _, fun h => by cases h⟩
theorem over : Rows.outboxFreshRow.holds Try.pinned (OpenSpec.ofChange Rows.outboxFreshSpec) :=
  OpenClaim.holds_of_wide 7 Try.f7 rfl rfl rfl rfl rfl rfl rfl ⟨rfl, rfl, rfl, rfl, rfl⟩ rfl rfl rfl rfl rfl (by kernel_rfl) Try.func7 (by kernel_rfl)
    (of_decide_eq_true (by kernel_rfl)) (by unfold Func.isWrapper; first | (rw [if_pos (by decide +kernel)]; kernel_rfl) | (rw [if_neg (by decide +kernel)]; exact ⟨rfl, rfl⟩))
    (fun os started H enc _ => lifted os started H enc)
theorem proved : Rows.OutboxFreshSaid := over
end Go.Proofs.Ytlllflmjpclobaa.outboxFresh
namespace Go.Proofs.Ytlllflmjpclobaa
/-- The law's row, for the claim. -/
theorem outboxFresh_holds : Rows.OutboxFreshSaid := outboxFresh.proved
end Go.Proofs.Ytlllflmjpclobaa
