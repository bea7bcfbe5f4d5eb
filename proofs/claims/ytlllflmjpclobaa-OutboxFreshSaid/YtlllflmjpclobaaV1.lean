import Derived.Test.YtlllflmjpclobaaUb
set_option linter.unusedVariables false
set_option linter.unusedSimpArgs false
set_option linter.unusedVariables false
set_option linter.unusedSimpArgs false
set_option maxRecDepth 100000
namespace Go.Proofs.T
open Go.Ev

/-- A value's cells, in a heap. -/
def VR : Nat → Heap → List AV → Prop
  | 0, _, _ => False
  | n + 1, H, cs => ∃ (k i : Int) (s : List Nat) (v w : AV) (L M : List (List AV)), cs = [.int .i64 k, .int .i64 i, .str s, v, w] ∧ Holds H 5 v L ∧ L.length < 2 ^ 60 ∧ (∀ c ∈ L, VR n H c) ∧ Holds H 1 w M ∧ M.length < 2 ^ 60 ∧ ∀ c ∈ M, ∃ s, c = [.str s]

theorem VR.up : ∀ {n : Nat} {H G : Heap} {cs : List AV}, VR n H cs → Up H G → VR n G cs
  | 0, _, _, _, h, _ => h
  | n + 1, _, _, _, ⟨k, i, s, v, w, L, M, e, hv, hl, hL, hw, hm, hM⟩, hu => ⟨k, i, s, v, w, L, M, e, hv.up hu, hl, fun c hc => (hL c hc).up hu, hw.up hu, hm, hM⟩
theorem VR.len {n : Nat} {H : Heap} {cs : List AV} (h : VR n H cs) : cs.length = 5 := by
  cases n with
  | zero => exact h.elim
  | succ n => obtain ⟨k, i, s, v, w, L, M, rfl, _⟩ := h; rfl

def StrL (M : List (List AV)) : Prop := ∀ c ∈ M, ∃ s, c = [.str s]
theorem lt_int {a b : Nat} (h : a < b) : ((a : Int) < (b : Int)) = True := by simp; exact h
theorem wrap_pred {i : Nat} (h0 : 1 ≤ i) (h : i < 2 ^ 62) : IntKind.i64.wrap ((i : Int) - 1) = ((i - 1 : Nat) : Int) := by
  rw [IntWalk.i64_in _ (by omega)]; omega

theorem f93_ok {w : AV} {M : List (List AV)} (H : Heap) (hF : Free H) (hw : Holds H 1 w M) (hm : M.length < 2 ^ 60) (hM : StrL M) (K : AV → Heap → Prop) (hK : ∀ b, K (.bool b) H) : WF Try.prog 93 [w] H K := by
  refine WF_body Try.func93 (by kernel_rfl) rfl Try.ntmps93 (by rw [Try.results93]) (of_decide_eq_true (by kernel_rfl)) ?_
  simp (maxSteps := 1000000) only [sx, fx, implies_true, evBuildSlice, fillE, fillA, AV.isCell, here, plain, laid, evOp, avOf, avCell, strOf, evBin, evInt, evStr, evUn, evResults, evResultsL, AV.isUndef, AV.cells, Heap.store, wbool_off, after_scope, Nat.reduceMul, Nat.reducePow, Nat.reduceSub, Nat.reduceBEq, UInt8.reduceToNat, Nat.reduceEqDiff, Nat.reduceLT, reduceCtorEq, Nat.reduceAdd, Nat.reduceLeDiff]
  refine loopStep' (fun env H' => H' = H ∧ ∃ (i : Nat), 1 ≤ i ∧ i ≤ M.length + 1 ∧ env.at (.tmp 3) = .int .i64 i ∧ env.at (.tmp 0) = w)
    (fun env H' => match env.at (.tmp 3) with | .int _ i => ((M.length : Int) + 1 - i).toNat | _ => 0) ?_ ?_
  · refine ⟨rfl, 1, Nat.le_refl _, by omega, ?_, ?_⟩
    · simp only [sx, fx, implies_true, evBuildSlice, fillE, fillA, AV.isCell, here, plain, laid, evOp, avOf, avCell, strOf, evBin, evInt, evStr, evUn, evResults, evResultsL, AV.isUndef, AV.cells, Heap.store, wbool_off, after_scope, Nat.reduceMul, Nat.reducePow, Nat.reduceSub, Nat.reduceBEq, UInt8.reduceToNat, Nat.reduceEqDiff, Nat.reduceLT, reduceCtorEq, Nat.reduceAdd, Nat.reduceLeDiff]; rfl
    · simp only [sx, fx, implies_true, evBuildSlice, fillE, fillA, AV.isCell, here, plain, laid, evOp, avOf, avCell, strOf, evBin, evInt, evStr, evUn, evResults, evResultsL, AV.isUndef, AV.cells, Heap.store, wbool_off, after_scope, Nat.reduceMul, Nat.reducePow, Nat.reduceSub, Nat.reduceBEq, UInt8.reduceToNat, Nat.reduceEqDiff, Nat.reduceLT, reduceCtorEq, Nat.reduceAdd, Nat.reduceLeDiff]
  · rintro env H' ⟨rfl, i, h1, hi, e3, e0⟩
    by_cases hlt : i < M.length
    · obtain ⟨c, hc⟩ : ∃ c, M[i]? = some c := ⟨_, List.getElem?_eq_getElem hlt⟩
      obtain ⟨s, rfl⟩ := hM c (List.mem_of_getElem? hc)
      obtain ⟨d, hd⟩ : ∃ d, M[i - 1]? = some d := ⟨_, List.getElem?_eq_getElem (by omega)⟩
      obtain ⟨t, rfl⟩ := hM d (List.mem_of_getElem? hd)
      obtain ⟨p, hp, hload, _⟩ := hw.index und24 sz9 .i64 hc
      obtain ⟨q, hq, hload2, _⟩ := hw.index und24 sz9 .i64 hd
      simp (maxSteps := 1000000) only [sx, fx, implies_true, evBuildSlice, fillE, fillA, AV.isCell, here, plain, laid, evOp, avOf, avCell, strOf, evBin, evInt, evStr, evUn, evResults, evResultsL, AV.isUndef, AV.cells, Heap.store, wbool_off, after_scope, Nat.reduceMul, Nat.reducePow, Nat.reduceSub, Nat.reduceBEq, UInt8.reduceToNat, Nat.reduceEqDiff, Nat.reduceLT, reduceCtorEq, Nat.reduceAdd, Nat.reduceLeDiff, e3, e0, hw.lenAt und24, lt_true hlt]
      refine drawStep [] [0, 1, 2, 3, 4, 5, 6, 7, 8, 9] _ rfl (by kernel_rfl) ?_
      cases hb : !(lessA t s) with
      | true =>
        simp (maxSteps := 1000000) only [sx, fx, implies_true, evBuildSlice, fillE, fillA, AV.isCell, here, plain, laid, evOp, avOf, avCell, strOf, evBin, evInt, evStr, evUn, evResults, evResultsL, AV.isUndef, AV.cells, Heap.store, wbool_off, after_scope, Nat.reduceMul, Nat.reducePow, Nat.reduceSub, Nat.reduceBEq, UInt8.reduceToNat, Nat.reduceEqDiff, Nat.reduceLT, reduceCtorEq, Nat.reduceAdd, Nat.reduceLeDiff, e3, e0, wrap_pred h1 (by omega), hp, hq, hload _ (Up.refl _), hload2 _ (Up.refl _), hb]
        exact hK _
      | false =>
        simp (maxSteps := 1000000) only [sx, fx, implies_true, evBuildSlice, fillE, fillA, AV.isCell, here, plain, laid, evOp, avOf, avCell, strOf, evBin, evInt, evStr, evUn, evResults, evResultsL, AV.isUndef, AV.cells, Heap.store, wbool_off, after_scope, Nat.reduceMul, Nat.reducePow, Nat.reduceSub, Nat.reduceBEq, UInt8.reduceToNat, Nat.reduceEqDiff, Nat.reduceLT, reduceCtorEq, Nat.reduceAdd, Nat.reduceLeDiff, e3, e0, wrap_pred h1 (by omega), hp, hq, hload _ (Up.refl _), hload2 _ (Up.refl _), hb, wrap_succ (i := i) (by omega)]
        refine ⟨⟨i + 1, by omega, by omega, rfl⟩, ?_⟩
        omega
    · simp (maxSteps := 1000000) only [sx, fx, implies_true, evBuildSlice, fillE, fillA, AV.isCell, here, plain, laid, evOp, avOf, avCell, strOf, evBin, evInt, evStr, evUn, evResults, evResultsL, AV.isUndef, AV.cells, Heap.store, wbool_off, after_scope, Nat.reduceMul, Nat.reducePow, Nat.reduceSub, Nat.reduceBEq, UInt8.reduceToNat, Nat.reduceEqDiff, Nat.reduceLT, reduceCtorEq, Nat.reduceAdd, Nat.reduceLeDiff, e3, e0, hw.lenAt und24, lt_false hlt]
      exact hK _
end Go.Proofs.T
