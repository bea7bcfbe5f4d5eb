import Derived.Test.YtlllflmjpclobaaV3
set_option linter.unusedVariables false
set_option linter.unusedSimpArgs false
set_option linter.unusedVariables false
set_option linter.unusedSimpArgs false
set_option maxRecDepth 100000
namespace Go.Proofs.T
open Go.Ev

theorem f46_ok (a b c : Int) (H : Heap) (K : AV → Heap → Prop) (hK : K (.bool (decide (b ≤ a) && decide (a ≤ c))) H) : WF Try.prog 46 [.int .i64 a, .int .i64 b, .int .i64 c] H K := by
  refine WF_body Try.func46 (by kernel_rfl) rfl Try.ntmps46 (by rw [Try.results46]) (of_decide_eq_true (by kernel_rfl)) ?_
  by_cases h1 : b ≤ a
  · have g1 : a ≥ b := h1
    by_cases h2 : a ≤ c
    · simp (maxSteps := 1000000) only [sx, fx, implies_true, evBuildSlice, fillE, fillA, AV.isCell, here, plain, laid, evOp, avOf, avCell, strOf, evBin, evInt, evStr, evUn, evResults, evResultsL, AV.isUndef, AV.cells, Heap.store, wbool_off, after_scope, Nat.reduceMul, Nat.reducePow, Nat.reduceSub, Nat.reduceBEq, UInt8.reduceToNat, Nat.reduceEqDiff, Nat.reduceLT, reduceCtorEq, Nat.reduceAdd, Nat.reduceLeDiff, g1, h2]; simpa [h1, h2] using hK
    · simp (maxSteps := 1000000) only [sx, fx, implies_true, evBuildSlice, fillE, fillA, AV.isCell, here, plain, laid, evOp, avOf, avCell, strOf, evBin, evInt, evStr, evUn, evResults, evResultsL, AV.isUndef, AV.cells, Heap.store, wbool_off, after_scope, Nat.reduceMul, Nat.reducePow, Nat.reduceSub, Nat.reduceBEq, UInt8.reduceToNat, Nat.reduceEqDiff, Nat.reduceLT, reduceCtorEq, Nat.reduceAdd, Nat.reduceLeDiff, g1, h2]; simpa [h1, h2] using hK
  · have g1 : ¬ a ≥ b := h1
    simp (maxSteps := 1000000) only [sx, fx, implies_true, evBuildSlice, fillE, fillA, AV.isCell, here, plain, laid, evOp, avOf, avCell, strOf, evBin, evInt, evStr, evUn, evResults, evResultsL, AV.isUndef, AV.cells, Heap.store, wbool_off, after_scope, Nat.reduceMul, Nat.reducePow, Nat.reduceSub, Nat.reduceBEq, UInt8.reduceToNat, Nat.reduceEqDiff, Nat.reduceLT, reduceCtorEq, Nat.reduceAdd, Nat.reduceLeDiff, g1]; simpa [h1] using hK

theorem f71_ok (a b c : Int) (H : Heap) (K : AV → Heap → Prop) (hK : K (.bool (decide (b ≤ a) && decide (a ≤ c))) H) : WF Try.prog 71 [.int .i64 a, .int .i64 b, .int .i64 c] H K := by
  refine WF_body Try.func71 (by kernel_rfl) rfl Try.ntmps71 (by rw [Try.results71]) (of_decide_eq_true (by kernel_rfl)) ?_
  by_cases h1 : b ≤ a
  · have g1 : a ≥ b := h1
    by_cases h2 : a ≤ c
    · simp (maxSteps := 1000000) only [sx, fx, implies_true, evBuildSlice, fillE, fillA, AV.isCell, here, plain, laid, evOp, avOf, avCell, strOf, evBin, evInt, evStr, evUn, evResults, evResultsL, AV.isUndef, AV.cells, Heap.store, wbool_off, after_scope, Nat.reduceMul, Nat.reducePow, Nat.reduceSub, Nat.reduceBEq, UInt8.reduceToNat, Nat.reduceEqDiff, Nat.reduceLT, reduceCtorEq, Nat.reduceAdd, Nat.reduceLeDiff, g1, h2]; simpa [h1, h2] using hK
    · simp (maxSteps := 1000000) only [sx, fx, implies_true, evBuildSlice, fillE, fillA, AV.isCell, here, plain, laid, evOp, avOf, avCell, strOf, evBin, evInt, evStr, evUn, evResults, evResultsL, AV.isUndef, AV.cells, Heap.store, wbool_off, after_scope, Nat.reduceMul, Nat.reducePow, Nat.reduceSub, Nat.reduceBEq, UInt8.reduceToNat, Nat.reduceEqDiff, Nat.reduceLT, reduceCtorEq, Nat.reduceAdd, Nat.reduceLeDiff, g1, h2]; simpa [h1, h2] using hK
  · have g1 : ¬ a ≥ b := h1
    simp (maxSteps := 1000000) only [sx, fx, implies_true, evBuildSlice, fillE, fillA, AV.isCell, here, plain, laid, evOp, avOf, avCell, strOf, evBin, evInt, evStr, evUn, evResults, evResultsL, AV.isUndef, AV.cells, Heap.store, wbool_off, after_scope, Nat.reduceMul, Nat.reducePow, Nat.reduceSub, Nat.reduceBEq, UInt8.reduceToNat, Nat.reduceEqDiff, Nat.reduceLT, reduceCtorEq, Nat.reduceAdd, Nat.reduceLeDiff, g1]; simpa [h1] using hK

theorem f88_ok {n : Nat} {H : Heap} {cs : List AV} (h : VR n H cs) (hF : Free H) (K : AV → Heap → Prop) (hK : ∀ b H', Up H H' → Free H' → K (.bool b) H') : WF Try.prog 88 [.agg cs] H K := by
  have hl := h.len
  refine WF_body Try.func88 (by kernel_rfl) rfl Try.ntmps88 (by rw [Try.results88]) (of_decide_eq_true (by kernel_rfl)) ?_
  simp (maxSteps := 1000000) only [sx, fx, implies_true, evBuildSlice, fillE, fillA, AV.isCell, here, plain, laid, evOp, avOf, avCell, strOf, evBin, evInt, evStr, evUn, evResults, evResultsL, AV.isUndef, AV.cells, Heap.store, wbool_off, after_scope, Nat.reduceMul, Nat.reducePow, Nat.reduceSub, Nat.reduceBEq, UInt8.reduceToNat, Nat.reduceEqDiff, Nat.reduceLT, reduceCtorEq, Nat.reduceAdd, Nat.reduceLeDiff, hF.at, hF.hp, hl]
  generalize hH1 : HP H [Blk.row 26 5 [cs] 0 0] = H1
  have hb : H1.blk H.next = some (.row 26 5 [cs] 0 0) := by rw [← hH1, hp_blk0]; rfl
  have hF1 : Free H1 := hH1 ▸ hF.hpF _
  have hU1 : Up H H1 := hH1 ▸ hF.hpU _
  have htk : cs.take 5 = cs := by rw [← hl]; exact List.take_length
  simp (maxSteps := 1000000) only [sx, fx, implies_true, evBuildSlice, fillE, fillA, AV.isCell, here, plain, laid, evOp, avOf, avCell, strOf, evBin, evInt, evStr, evUn, evResults, evResultsL, AV.isUndef, AV.cells, Heap.store, wbool_off, after_scope, Nat.reduceMul, Nat.reducePow, Nat.reduceSub, Nat.reduceBEq, UInt8.reduceToNat, Nat.reduceEqDiff, Nat.reduceLT, reduceCtorEq, Nat.reduceAdd, Nat.reduceLeDiff, hb, htk]
  refine callStep (f94_ok n H1 cs (h.up hU1) hF1 _ fun b H2 hU2 hF2 => ?_)
  have hb2 := hU2 _ _ hb
  cases b
  · simp (maxSteps := 1000000) only [sx, fx, implies_true, evBuildSlice, fillE, fillA, AV.isCell, here, plain, laid, evOp, avOf, avCell, strOf, evBin, evInt, evStr, evUn, evResults, evResultsL, AV.isUndef, AV.cells, Heap.store, wbool_off, after_scope, Nat.reduceMul, Nat.reducePow, Nat.reduceSub, Nat.reduceBEq, UInt8.reduceToNat, Nat.reduceEqDiff, Nat.reduceLT, reduceCtorEq, Nat.reduceAdd, Nat.reduceLeDiff]; exact hK _ _ (hU1.trans hU2) hF2
  simp (maxSteps := 1000000) only [sx, fx, implies_true, evBuildSlice, fillE, fillA, AV.isCell, here, plain, laid, evOp, avOf, avCell, strOf, evBin, evInt, evStr, evUn, evResults, evResultsL, AV.isUndef, AV.cells, Heap.store, wbool_off, after_scope, Nat.reduceMul, Nat.reducePow, Nat.reduceSub, Nat.reduceBEq, UInt8.reduceToNat, Nat.reduceEqDiff, Nat.reduceLT, reduceCtorEq, Nat.reduceAdd, Nat.reduceLeDiff, hb2, htk]
  refine callStep (f95_ok n H2 cs (h.up (hU1.trans hU2)) hF2 _ fun x H3 hU3 hF3 => ?_)
  have hb3 := hU3 _ _ hb2
  by_cases hx : x ≤ 16
  · simp (maxSteps := 1000000) only [sx, fx, implies_true, evBuildSlice, fillE, fillA, AV.isCell, here, plain, laid, evOp, avOf, avCell, strOf, evBin, evInt, evStr, evUn, evResults, evResultsL, AV.isUndef, AV.cells, Heap.store, wbool_off, after_scope, Nat.reduceMul, Nat.reducePow, Nat.reduceSub, Nat.reduceBEq, UInt8.reduceToNat, Nat.reduceEqDiff, Nat.reduceLT, reduceCtorEq, Nat.reduceAdd, Nat.reduceLeDiff, hx, hb3, htk]
    refine callStep (f96_ok n H3 cs (h.up (hU1.trans (hU2.trans hU3))) hF3 _ fun y H4 hU4 hF4 => ?_)
    simp (maxSteps := 1000000) only [sx, fx, implies_true, evBuildSlice, fillE, fillA, AV.isCell, here, plain, laid, evOp, avOf, avCell, strOf, evBin, evInt, evStr, evUn, evResults, evResultsL, AV.isUndef, AV.cells, Heap.store, wbool_off, after_scope, Nat.reduceMul, Nat.reducePow, Nat.reduceSub, Nat.reduceBEq, UInt8.reduceToNat, Nat.reduceEqDiff, Nat.reduceLT, reduceCtorEq, Nat.reduceAdd, Nat.reduceLeDiff]
    exact hK _ _ (hU1.trans (hU2.trans (hU3.trans hU4))) hF4
  · simp (maxSteps := 1000000) only [sx, fx, implies_true, evBuildSlice, fillE, fillA, AV.isCell, here, plain, laid, evOp, avOf, avCell, strOf, evBin, evInt, evStr, evUn, evResults, evResultsL, AV.isUndef, AV.cells, Heap.store, wbool_off, after_scope, Nat.reduceMul, Nat.reducePow, Nat.reduceSub, Nat.reduceBEq, UInt8.reduceToNat, Nat.reduceEqDiff, Nat.reduceLT, reduceCtorEq, Nat.reduceAdd, Nat.reduceLeDiff, hx]
    exact hK _ _ (hU1.trans (hU2.trans hU3)) hF3

theorem f68_ok {n : Nat} {H : Heap} {cs : List AV} (h : VR n H cs) (hF : Free H) (K : AV → Heap → Prop) (hK : ∀ b H', (b = true → KeysFit cs) → Up H H' → Free H' → K (.bool b) H') : WF Try.prog 68 [.agg cs] H K := by
  have hl := h.len
  refine WF_body Try.func68 (by kernel_rfl) rfl Try.ntmps68 (by rw [Try.results68]) (of_decide_eq_true (by kernel_rfl)) ?_
  simp (maxSteps := 1000000) only [sx, fx, implies_true, evBuildSlice, fillE, fillA, AV.isCell, here, plain, laid, evOp, avOf, avCell, strOf, evBin, evInt, evStr, evUn, evResults, evResultsL, AV.isUndef, AV.cells, Heap.store, wbool_off, after_scope, Nat.reduceMul, Nat.reducePow, Nat.reduceSub, Nat.reduceBEq, UInt8.reduceToNat, Nat.reduceEqDiff, Nat.reduceLT, reduceCtorEq, Nat.reduceAdd, Nat.reduceLeDiff, hF.at, hF.hp, hl]
  generalize hH1 : HP H [Blk.row 26 5 [cs] 0 0] = H1
  have hb : H1.blk H.next = some (.row 26 5 [cs] 0 0) := by rw [← hH1, hp_blk0]; rfl
  have hF1 : Free H1 := hH1 ▸ hF.hpF _
  have hU1 : Up H H1 := hH1 ▸ hF.hpU _
  have htk : cs.take 5 = cs := by rw [← hl]; exact List.take_length
  simp (maxSteps := 1000000) only [sx, fx, implies_true, evBuildSlice, fillE, fillA, AV.isCell, here, plain, laid, evOp, avOf, avCell, strOf, evBin, evInt, evStr, evUn, evResults, evResultsL, AV.isUndef, AV.cells, Heap.store, wbool_off, after_scope, Nat.reduceMul, Nat.reducePow, Nat.reduceSub, Nat.reduceBEq, UInt8.reduceToNat, Nat.reduceEqDiff, Nat.reduceLT, reduceCtorEq, Nat.reduceAdd, Nat.reduceLeDiff, hb, htk]
  refine callStep (f87_ok n H1 cs (h.up hU1) hF1 _ fun b H2 hfit hU2 hF2 => ?_)
  have hb2 := hU2 _ _ hb
  cases b
  · simp (maxSteps := 1000000) only [sx, fx, implies_true, evBuildSlice, fillE, fillA, AV.isCell, here, plain, laid, evOp, avOf, avCell, strOf, evBin, evInt, evStr, evUn, evResults, evResultsL, AV.isUndef, AV.cells, Heap.store, wbool_off, after_scope, Nat.reduceMul, Nat.reducePow, Nat.reduceSub, Nat.reduceBEq, UInt8.reduceToNat, Nat.reduceEqDiff, Nat.reduceLT, reduceCtorEq, Nat.reduceAdd, Nat.reduceLeDiff]; exact hK _ _ (by simp) (hU1.trans hU2) hF2
  have hfit := hfit rfl
  simp (maxSteps := 1000000) only [sx, fx, implies_true, evBuildSlice, fillE, fillA, AV.isCell, here, plain, laid, evOp, avOf, avCell, strOf, evBin, evInt, evStr, evUn, evResults, evResultsL, AV.isUndef, AV.cells, Heap.store, wbool_off, after_scope, Nat.reduceMul, Nat.reducePow, Nat.reduceSub, Nat.reduceBEq, UInt8.reduceToNat, Nat.reduceEqDiff, Nat.reduceLT, reduceCtorEq, Nat.reduceAdd, Nat.reduceLeDiff, hb2, htk]
  refine callStep (f88_ok (h.up (hU1.trans hU2)) hF2 _ fun b H3 hU3 hF3 => ?_)
  have hb3 := hU3 _ _ hb2
  cases b
  · simp (maxSteps := 1000000) only [sx, fx, implies_true, evBuildSlice, fillE, fillA, AV.isCell, here, plain, laid, evOp, avOf, avCell, strOf, evBin, evInt, evStr, evUn, evResults, evResultsL, AV.isUndef, AV.cells, Heap.store, wbool_off, after_scope, Nat.reduceMul, Nat.reducePow, Nat.reduceSub, Nat.reduceBEq, UInt8.reduceToNat, Nat.reduceEqDiff, Nat.reduceLT, reduceCtorEq, Nat.reduceAdd, Nat.reduceLeDiff]; exact hK _ _ (by simp) (hU1.trans (hU2.trans hU3)) hF3
  simp (maxSteps := 1000000) only [sx, fx, implies_true, evBuildSlice, fillE, fillA, AV.isCell, here, plain, laid, evOp, avOf, avCell, strOf, evBin, evInt, evStr, evUn, evResults, evResultsL, AV.isUndef, AV.cells, Heap.store, wbool_off, after_scope, Nat.reduceMul, Nat.reducePow, Nat.reduceSub, Nat.reduceBEq, UInt8.reduceToNat, Nat.reduceEqDiff, Nat.reduceLT, reduceCtorEq, Nat.reduceAdd, Nat.reduceLeDiff, hb3, htk]
  refine callStep (f89_ok n H3 cs (h.up (hU1.trans (hU2.trans hU3))) hF3 _ fun b H4 hU4 hF4 => ?_)
  simp (maxSteps := 1000000) only [sx, fx, implies_true, evBuildSlice, fillE, fillA, AV.isCell, here, plain, laid, evOp, avOf, avCell, strOf, evBin, evInt, evStr, evUn, evResults, evResultsL, AV.isUndef, AV.cells, Heap.store, wbool_off, after_scope, Nat.reduceMul, Nat.reducePow, Nat.reduceSub, Nat.reduceBEq, UInt8.reduceToNat, Nat.reduceEqDiff, Nat.reduceLT, reduceCtorEq, Nat.reduceAdd, Nat.reduceLeDiff]
  exact hK _ _ (fun _ => hfit) (hU1.trans (hU2.trans (hU3.trans hU4))) hF4

theorem f77_ok (c : Int) (H : Heap) (K : AV → Heap → Prop) (hK : ∀ b, K (.bool b) H) : WF Try.prog 77 [.int .u8 c] H K := by
  refine WF_body Try.func77 (by kernel_rfl) rfl Try.ntmps77 (by rw [Try.results77]) (of_decide_eq_true (by kernel_rfl)) ?_
  by_cases hc0 : c ≤ 47
  · have a0 : (c ≥ 97) = False := by simp; omega
    have a1 : (c ≤ 122) = True := by simp; omega
    have a2 : (c ≥ 65) = False := by simp; omega
    have a3 : (c ≤ 90) = True := by simp; omega
    have a4 : (c ≥ 48) = False := by simp; omega
    have a5 : (c ≤ 57) = True := by simp; omega
    have a6 : (c == 95) = false := by simp; omega
    simp (maxSteps := 1000000) only [sx, fx, implies_true, evBuildSlice, fillE, fillA, AV.isCell, here, plain, laid, evOp, avOf, avCell, strOf, evBin, evInt, evStr, evUn, evResults, evResultsL, AV.isUndef, AV.cells, Heap.store, wbool_off, after_scope, Nat.reduceMul, Nat.reducePow, Nat.reduceSub, Nat.reduceBEq, UInt8.reduceToNat, Nat.reduceEqDiff, Nat.reduceLT, reduceCtorEq, Nat.reduceAdd, Nat.reduceLeDiff, a0, a1, a2, a3, a4, a5, a6]; exact hK _
  by_cases hc48 : 48 ≤ c ∧ c ≤ 57
  · have a0 : (c ≥ 97) = False := by simp; omega
    have a1 : (c ≤ 122) = True := by simp; omega
    have a2 : (c ≥ 65) = False := by simp; omega
    have a3 : (c ≤ 90) = True := by simp; omega
    have a4 : (c ≥ 48) = True := by simp; omega
    have a5 : (c ≤ 57) = True := by simp; omega
    have a6 : (c == 95) = false := by simp; omega
    simp (maxSteps := 1000000) only [sx, fx, implies_true, evBuildSlice, fillE, fillA, AV.isCell, here, plain, laid, evOp, avOf, avCell, strOf, evBin, evInt, evStr, evUn, evResults, evResultsL, AV.isUndef, AV.cells, Heap.store, wbool_off, after_scope, Nat.reduceMul, Nat.reducePow, Nat.reduceSub, Nat.reduceBEq, UInt8.reduceToNat, Nat.reduceEqDiff, Nat.reduceLT, reduceCtorEq, Nat.reduceAdd, Nat.reduceLeDiff, a0, a1, a2, a3, a4, a5, a6]; exact hK _
  by_cases hc58 : 58 ≤ c ∧ c ≤ 64
  · have a0 : (c ≥ 97) = False := by simp; omega
    have a1 : (c ≤ 122) = True := by simp; omega
    have a2 : (c ≥ 65) = False := by simp; omega
    have a3 : (c ≤ 90) = True := by simp; omega
    have a4 : (c ≥ 48) = True := by simp; omega
    have a5 : (c ≤ 57) = False := by simp; omega
    have a6 : (c == 95) = false := by simp; omega
    simp (maxSteps := 1000000) only [sx, fx, implies_true, evBuildSlice, fillE, fillA, AV.isCell, here, plain, laid, evOp, avOf, avCell, strOf, evBin, evInt, evStr, evUn, evResults, evResultsL, AV.isUndef, AV.cells, Heap.store, wbool_off, after_scope, Nat.reduceMul, Nat.reducePow, Nat.reduceSub, Nat.reduceBEq, UInt8.reduceToNat, Nat.reduceEqDiff, Nat.reduceLT, reduceCtorEq, Nat.reduceAdd, Nat.reduceLeDiff, a0, a1, a2, a3, a4, a5, a6]; exact hK _
  by_cases hc65 : 65 ≤ c ∧ c ≤ 90
  · have a0 : (c ≥ 97) = False := by simp; omega
    have a1 : (c ≤ 122) = True := by simp; omega
    have a2 : (c ≥ 65) = True := by simp; omega
    have a3 : (c ≤ 90) = True := by simp; omega
    have a4 : (c ≥ 48) = True := by simp; omega
    have a5 : (c ≤ 57) = False := by simp; omega
    have a6 : (c == 95) = false := by simp; omega
    simp (maxSteps := 1000000) only [sx, fx, implies_true, evBuildSlice, fillE, fillA, AV.isCell, here, plain, laid, evOp, avOf, avCell, strOf, evBin, evInt, evStr, evUn, evResults, evResultsL, AV.isUndef, AV.cells, Heap.store, wbool_off, after_scope, Nat.reduceMul, Nat.reducePow, Nat.reduceSub, Nat.reduceBEq, UInt8.reduceToNat, Nat.reduceEqDiff, Nat.reduceLT, reduceCtorEq, Nat.reduceAdd, Nat.reduceLeDiff, a0, a1, a2, a3, a4, a5, a6]; exact hK _
  by_cases hc91 : 91 ≤ c ∧ c ≤ 94
  · have a0 : (c ≥ 97) = False := by simp; omega
    have a1 : (c ≤ 122) = True := by simp; omega
    have a2 : (c ≥ 65) = True := by simp; omega
    have a3 : (c ≤ 90) = False := by simp; omega
    have a4 : (c ≥ 48) = True := by simp; omega
    have a5 : (c ≤ 57) = False := by simp; omega
    have a6 : (c == 95) = false := by simp; omega
    simp (maxSteps := 1000000) only [sx, fx, implies_true, evBuildSlice, fillE, fillA, AV.isCell, here, plain, laid, evOp, avOf, avCell, strOf, evBin, evInt, evStr, evUn, evResults, evResultsL, AV.isUndef, AV.cells, Heap.store, wbool_off, after_scope, Nat.reduceMul, Nat.reducePow, Nat.reduceSub, Nat.reduceBEq, UInt8.reduceToNat, Nat.reduceEqDiff, Nat.reduceLT, reduceCtorEq, Nat.reduceAdd, Nat.reduceLeDiff, a0, a1, a2, a3, a4, a5, a6]; exact hK _
  by_cases hc95 : 95 ≤ c ∧ c ≤ 95
  · have a0 : (c ≥ 97) = False := by simp; omega
    have a1 : (c ≤ 122) = True := by simp; omega
    have a2 : (c ≥ 65) = True := by simp; omega
    have a3 : (c ≤ 90) = False := by simp; omega
    have a4 : (c ≥ 48) = True := by simp; omega
    have a5 : (c ≤ 57) = False := by simp; omega
    have a6 : (c == 95) = true := by simp; omega
    simp (maxSteps := 1000000) only [sx, fx, implies_true, evBuildSlice, fillE, fillA, AV.isCell, here, plain, laid, evOp, avOf, avCell, strOf, evBin, evInt, evStr, evUn, evResults, evResultsL, AV.isUndef, AV.cells, Heap.store, wbool_off, after_scope, Nat.reduceMul, Nat.reducePow, Nat.reduceSub, Nat.reduceBEq, UInt8.reduceToNat, Nat.reduceEqDiff, Nat.reduceLT, reduceCtorEq, Nat.reduceAdd, Nat.reduceLeDiff, a0, a1, a2, a3, a4, a5, a6]; exact hK _
  by_cases hc96 : 96 ≤ c ∧ c ≤ 96
  · have a0 : (c ≥ 97) = False := by simp; omega
    have a1 : (c ≤ 122) = True := by simp; omega
    have a2 : (c ≥ 65) = True := by simp; omega
    have a3 : (c ≤ 90) = False := by simp; omega
    have a4 : (c ≥ 48) = True := by simp; omega
    have a5 : (c ≤ 57) = False := by simp; omega
    have a6 : (c == 95) = false := by simp; omega
    simp (maxSteps := 1000000) only [sx, fx, implies_true, evBuildSlice, fillE, fillA, AV.isCell, here, plain, laid, evOp, avOf, avCell, strOf, evBin, evInt, evStr, evUn, evResults, evResultsL, AV.isUndef, AV.cells, Heap.store, wbool_off, after_scope, Nat.reduceMul, Nat.reducePow, Nat.reduceSub, Nat.reduceBEq, UInt8.reduceToNat, Nat.reduceEqDiff, Nat.reduceLT, reduceCtorEq, Nat.reduceAdd, Nat.reduceLeDiff, a0, a1, a2, a3, a4, a5, a6]; exact hK _
  by_cases hc97 : 97 ≤ c ∧ c ≤ 122
  · have a0 : (c ≥ 97) = True := by simp; omega
    have a1 : (c ≤ 122) = True := by simp; omega
    have a2 : (c ≥ 65) = True := by simp; omega
    have a3 : (c ≤ 90) = False := by simp; omega
    have a4 : (c ≥ 48) = True := by simp; omega
    have a5 : (c ≤ 57) = False := by simp; omega
    have a6 : (c == 95) = false := by simp; omega
    simp (maxSteps := 1000000) only [sx, fx, implies_true, evBuildSlice, fillE, fillA, AV.isCell, here, plain, laid, evOp, avOf, avCell, strOf, evBin, evInt, evStr, evUn, evResults, evResultsL, AV.isUndef, AV.cells, Heap.store, wbool_off, after_scope, Nat.reduceMul, Nat.reducePow, Nat.reduceSub, Nat.reduceBEq, UInt8.reduceToNat, Nat.reduceEqDiff, Nat.reduceLT, reduceCtorEq, Nat.reduceAdd, Nat.reduceLeDiff, a0, a1, a2, a3, a4, a5, a6]; exact hK _
  by_cases hc123 : 123 ≤ c
  · have a0 : (c ≥ 97) = True := by simp; omega
    have a1 : (c ≤ 122) = False := by simp; omega
    have a2 : (c ≥ 65) = True := by simp; omega
    have a3 : (c ≤ 90) = False := by simp; omega
    have a4 : (c ≥ 48) = True := by simp; omega
    have a5 : (c ≤ 57) = False := by simp; omega
    have a6 : (c == 95) = false := by simp; omega
    simp (maxSteps := 1000000) only [sx, fx, implies_true, evBuildSlice, fillE, fillA, AV.isCell, here, plain, laid, evOp, avOf, avCell, strOf, evBin, evInt, evStr, evUn, evResults, evResultsL, AV.isUndef, AV.cells, Heap.store, wbool_off, after_scope, Nat.reduceMul, Nat.reducePow, Nat.reduceSub, Nat.reduceBEq, UInt8.reduceToNat, Nat.reduceEqDiff, Nat.reduceLT, reduceCtorEq, Nat.reduceAdd, Nat.reduceLeDiff, a0, a1, a2, a3, a4, a5, a6]; exact hK _
  omega
end Go.Proofs.T
