import Derived.Test.YtlllflmjpclobaaV13
set_option linter.unusedVariables false
set_option linter.unusedSimpArgs false
set_option linter.unusedVariables false
set_option linter.unusedSimpArgs false
set_option maxRecDepth 100000
namespace Go.Proofs.T
open Go.Ev

set_option maxHeartbeats 16000000 in
theorem f67_ok (k : Int) (H : Heap) (hF : Free H) (K : AV → Heap → Prop) (hK : ∀ b1 b2 b3 b4 b5 b6 b7 b8 H', Up H H' → Free H' → K (.agg [.bool b1, .bool b2, .bool b3, .bool b4, .bool b5, .bool b6, .bool b7, .bool b8]) H') : WF Try.prog 67 [.int .i64 k] H K := by
  refine WF_body Try.func67 (by kernel_rfl) rfl Try.ntmps67 (by rw [Try.results67]) (of_decide_eq_true (by kernel_rfl)) ?_
  by_cases hk : 1 ≤ k ∧ k ≤ 35
  · have hcases : k = 1 ∨ k = 2 ∨ k = 3 ∨ k = 4 ∨ k = 5 ∨ k = 6 ∨ k = 7 ∨ k = 8 ∨ k = 9 ∨ k = 10 ∨ k = 11 ∨ k = 12 ∨ k = 13 ∨ k = 14 ∨ k = 15 ∨ k = 16 ∨ k = 17 ∨ k = 18 ∨ k = 19 ∨ k = 20 ∨ k = 21 ∨ k = 22 ∨ k = 23 ∨ k = 24 ∨ k = 25 ∨ k = 26 ∨ k = 27 ∨ k = 28 ∨ k = 29 ∨ k = 30 ∨ k = 31 ∨ k = 32 ∨ k = 33 ∨ k = 34 ∨ k = 35 := by omega
    rcases hcases with rfl | rfl | rfl | rfl | rfl | rfl | rfl | rfl | rfl | rfl | rfl | rfl | rfl | rfl | rfl | rfl | rfl | rfl | rfl | rfl | rfl | rfl | rfl | rfl | rfl | rfl | rfl | rfl | rfl | rfl | rfl | rfl | rfl | rfl | rfl
    all_goals simp (maxSteps := 1000000) only [sx, fx, icI, icS, icB, icN, icL, implies_true, evBuildSlice, fillE, fillA, here, plain, laid, evOp, avOf, avCell, strOf, evBin, evInt, evStr, evUn, evResults, evResultsL, AV.isUndef, AV.cells, Heap.store, wbool_off, after_scope, Nat.reduceMul, Nat.reducePow, Nat.reduceSub, Nat.reduceBEq, UInt8.reduceToNat, Nat.reduceEqDiff, Nat.reduceLT, reduceCtorEq, Nat.reduceAdd, Nat.reduceLeDiff, splice, hF.at, hF.hp, Int.reduceBEq]
    all_goals exact hK _ _ _ _ _ _ _ _ _ (hF.hpU _) (hF.hpF _)
  have r1 : (k == 1) = false := by simp; omega
  have r2 : (k == 2) = false := by simp; omega
  have r3 : (k == 3) = false := by simp; omega
  have r4 : (k == 4) = false := by simp; omega
  have r5 : (k == 5) = false := by simp; omega
  have r6 : (k == 6) = false := by simp; omega
  have r7 : (k == 7) = false := by simp; omega
  have r8 : (k == 8) = false := by simp; omega
  have r9 : (k == 9) = false := by simp; omega
  have r10 : (k == 10) = false := by simp; omega
  have r11 : (k == 11) = false := by simp; omega
  have r12 : (k == 12) = false := by simp; omega
  have r13 : (k == 13) = false := by simp; omega
  have r14 : (k == 14) = false := by simp; omega
  have r15 : (k == 15) = false := by simp; omega
  have r16 : (k == 16) = false := by simp; omega
  have r17 : (k == 17) = false := by simp; omega
  have r18 : (k == 18) = false := by simp; omega
  have r19 : (k == 19) = false := by simp; omega
  have r20 : (k == 20) = false := by simp; omega
  have r21 : (k == 21) = false := by simp; omega
  have r22 : (k == 22) = false := by simp; omega
  have r23 : (k == 23) = false := by simp; omega
  have r24 : (k == 24) = false := by simp; omega
  have r25 : (k == 25) = false := by simp; omega
  have r26 : (k == 26) = false := by simp; omega
  have r27 : (k == 27) = false := by simp; omega
  have r28 : (k == 28) = false := by simp; omega
  have r29 : (k == 29) = false := by simp; omega
  have r30 : (k == 30) = false := by simp; omega
  have r31 : (k == 31) = false := by simp; omega
  have r32 : (k == 32) = false := by simp; omega
  have r33 : (k == 33) = false := by simp; omega
  have r34 : (k == 34) = false := by simp; omega
  have r35 : (k == 35) = false := by simp; omega
  simp (maxSteps := 1000000) only [sx, fx, icI, icS, icB, icN, icL, implies_true, evBuildSlice, fillE, fillA, here, plain, laid, evOp, avOf, avCell, strOf, evBin, evInt, evStr, evUn, evResults, evResultsL, AV.isUndef, AV.cells, Heap.store, wbool_off, after_scope, Nat.reduceMul, Nat.reducePow, Nat.reduceSub, Nat.reduceBEq, UInt8.reduceToNat, Nat.reduceEqDiff, Nat.reduceLT, reduceCtorEq, Nat.reduceAdd, Nat.reduceLeDiff, splice, hF.at, hF.hp, r1, r2, r3, r4, r5, r6, r7, r8, r9, r10, r11, r12, r13, r14, r15, r16, r17, r18, r19, r20, r21, r22, r23, r24, r25, r26, r27, r28, r29, r30, r31, r32, r33, r34, r35]
  exact hK _ _ _ _ _ _ _ _ _ (hF.hpU _) (hF.hpF _)
end Go.Proofs.T
