import Derived.Test.YtakelljpblahbaaS13
set_option linter.unusedVariables false
set_option linter.unusedSimpArgs false
set_option maxRecDepth 100000
namespace Go.Proofs.T
open Go.Ev

def zrow : Blk := .row 63 5 [[.int .i64 0, .nilMap, .nilslice, .int .i64 0, .int .i64 0]] 0 0
/-- No cache, or one that New did not return. -/
def Noth (H : Heap) (r : AV) : Prop := r = .nilptr ∨ ∃ z, r = .ptr z 0 0 0 ∧ H.blk z = some zrow
theorem Noth.up {H H' : Heap} {r : AV} (h : Noth H r) (hU : Up H H') : Noth H' r := h.imp id fun ⟨z, h1, h2⟩ => ⟨z, h1, hU _ _ h2⟩

theorem f23_noth {r : AV} (H : Heap) (hr : Noth H r) (Q : AV → Heap → Prop) (hQ : Q (.bool true) H) : WF Try.prog 23 [r] H Q := by
  rcases hr with rfl | ⟨z, rfl, hz⟩
  · exact f23_nil H Q hQ
  · refine WF_body Try.func23 (by kernel_rfl) rfl Try.ntmps23 (by rw [Try.results23]) (of_decide_eq_true (by kernel_rfl)) ?_
    simp only [zrow] at hz
    simp (maxSteps := 1000000) only [sx, fx, implies_true, evBuildSlice, fillE, fillA, Nat.reduceMul, Nat.reducePow, AV.isCell, Nat.reduceSub, here, plain, laid, Nat.reduceBEq, evOp, avOf, avCell, strOf, UInt8.reduceToNat, evBin, evInt, evStr, evUn, Nat.reduceEqDiff, Nat.reduceLT, evResults, evResultsL, reduceCtorEq, AV.isUndef, AV.cells, Nat.reduceAdd, Heap.store, Nat.reduceLeDiff, eqOk, eqp22_p, hz, BEq.rfl]
    exact hQ

theorem f22_noth {r : AV} (H : Heap) (hr : Noth H r) (Q : AV → Heap → Prop) (hQ : ∀ a, Q a H) : WF Try.prog 22 [r] H Q := by
  refine WF_body Try.func22 (by kernel_rfl) rfl Try.ntmps22 (by rw [Try.results22]) (of_decide_eq_true (by kernel_rfl)) ?_
  simp (maxSteps := 1000000) only [sx, fx, implies_true, evBuildSlice, fillE, fillA, Nat.reduceMul, Nat.reducePow, AV.isCell, Nat.reduceSub, here, plain, laid, Nat.reduceBEq, evOp, avOf, avCell, strOf, UInt8.reduceToNat, evBin, evInt, evStr, evUn, Nat.reduceEqDiff, Nat.reduceLT, evResults, evResultsL, reduceCtorEq, AV.isUndef, AV.cells, Nat.reduceAdd, Heap.store, Nat.reduceLeDiff]
  refine callStep (f23_noth _ hr _ ?_)
  simp (maxSteps := 1000000) only [sx, fx, implies_true, evBuildSlice, fillE, fillA, Nat.reduceMul, Nat.reducePow, AV.isCell, Nat.reduceSub, here, plain, laid, Nat.reduceBEq, evOp, avOf, avCell, strOf, UInt8.reduceToNat, evBin, evInt, evStr, evUn, Nat.reduceEqDiff, Nat.reduceLT, evResults, evResultsL, reduceCtorEq, AV.isUndef, AV.cells, Nat.reduceAdd, Heap.store, Nat.reduceLeDiff]
  exact hQ _

theorem f14_noth {r : AV} (H : Heap) (hr : Noth H r) (Q : AV → Heap → Prop) (hQ : Q (.int .i64 0) H) : WF Try.prog 14 [r] H Q := by
  refine WF_body Try.func14 (by kernel_rfl) rfl Try.ntmps14 (by rw [Try.results14]) (of_decide_eq_true (by kernel_rfl)) ?_
  simp (maxSteps := 1000000) only [sx, fx, implies_true, evBuildSlice, fillE, fillA, Nat.reduceMul, Nat.reducePow, AV.isCell, Nat.reduceSub, here, plain, laid, Nat.reduceBEq, evOp, avOf, avCell, strOf, UInt8.reduceToNat, evBin, evInt, evStr, evUn, Nat.reduceEqDiff, Nat.reduceLT, evResults, evResultsL, reduceCtorEq, AV.isUndef, AV.cells, Nat.reduceAdd, Heap.store, Nat.reduceLeDiff]
  refine callStep (f23_noth _ hr _ ?_)
  simp (maxSteps := 1000000) only [sx, fx, implies_true, evBuildSlice, fillE, fillA, Nat.reduceMul, Nat.reducePow, AV.isCell, Nat.reduceSub, here, plain, laid, Nat.reduceBEq, evOp, avOf, avCell, strOf, UInt8.reduceToNat, evBin, evInt, evStr, evUn, Nat.reduceEqDiff, Nat.reduceLT, evResults, evResultsL, reduceCtorEq, AV.isUndef, AV.cells, Nat.reduceAdd, Heap.store, Nat.reduceLeDiff]
  exact hQ
theorem f15_noth {r : AV} (H : Heap) (hr : Noth H r) (Q : AV → Heap → Prop) (hQ : Q (.int .i64 0) H) : WF Try.prog 15 [r] H Q := by
  refine WF_body Try.func15 (by kernel_rfl) rfl Try.ntmps15 (by rw [Try.results15]) (of_decide_eq_true (by kernel_rfl)) ?_
  simp (maxSteps := 1000000) only [sx, fx, implies_true, evBuildSlice, fillE, fillA, Nat.reduceMul, Nat.reducePow, AV.isCell, Nat.reduceSub, here, plain, laid, Nat.reduceBEq, evOp, avOf, avCell, strOf, UInt8.reduceToNat, evBin, evInt, evStr, evUn, Nat.reduceEqDiff, Nat.reduceLT, evResults, evResultsL, reduceCtorEq, AV.isUndef, AV.cells, Nat.reduceAdd, Heap.store, Nat.reduceLeDiff]
  refine callStep (f23_noth _ hr _ ?_)
  simp (maxSteps := 1000000) only [sx, fx, implies_true, evBuildSlice, fillE, fillA, Nat.reduceMul, Nat.reducePow, AV.isCell, Nat.reduceSub, here, plain, laid, Nat.reduceBEq, evOp, avOf, avCell, strOf, UInt8.reduceToNat, evBin, evInt, evStr, evUn, Nat.reduceEqDiff, Nat.reduceLT, evResults, evResultsL, reduceCtorEq, AV.isUndef, AV.cells, Nat.reduceAdd, Heap.store, Nat.reduceLeDiff]
  exact hQ
theorem f19_noth {r : AV} (H : Heap) (hr : Noth H r) (Q : AV → Heap → Prop) (hQ : Q .nilslice H) : WF Try.prog 19 [r] H Q := by
  refine WF_body Try.func19 (by kernel_rfl) rfl Try.ntmps19 (by rw [Try.results19]) (of_decide_eq_true (by kernel_rfl)) ?_
  simp (maxSteps := 1000000) only [sx, fx, implies_true, evBuildSlice, fillE, fillA, Nat.reduceMul, Nat.reducePow, AV.isCell, Nat.reduceSub, here, plain, laid, Nat.reduceBEq, evOp, avOf, avCell, strOf, UInt8.reduceToNat, evBin, evInt, evStr, evUn, Nat.reduceEqDiff, Nat.reduceLT, evResults, evResultsL, reduceCtorEq, AV.isUndef, AV.cells, Nat.reduceAdd, Heap.store, Nat.reduceLeDiff]
  refine callStep (f23_noth _ hr _ ?_)
  simp (maxSteps := 1000000) only [sx, fx, implies_true, evBuildSlice, fillE, fillA, Nat.reduceMul, Nat.reducePow, AV.isCell, Nat.reduceSub, here, plain, laid, Nat.reduceBEq, evOp, avOf, avCell, strOf, UInt8.reduceToNat, evBin, evInt, evStr, evUn, Nat.reduceEqDiff, Nat.reduceLT, evResults, evResultsL, reduceCtorEq, AV.isUndef, AV.cells, Nat.reduceAdd, Heap.store, Nat.reduceLeDiff]
  exact hQ
theorem f10_noth {r : AV} (H : Heap) (hr : Noth H r) (Q : AV → Heap → Prop) (hQ : Q (.int .i64 0) H) : WF Try.prog 10 [r] H Q := by
  refine WF_body Try.func10 (by kernel_rfl) rfl Try.ntmps10 (by rw [Try.results10]) (of_decide_eq_true (by kernel_rfl)) ?_
  simp (maxSteps := 1000000) only [sx, fx, implies_true, evBuildSlice, fillE, fillA, Nat.reduceMul, Nat.reducePow, AV.isCell, Nat.reduceSub, here, plain, laid, Nat.reduceBEq, evOp, avOf, avCell, strOf, UInt8.reduceToNat, evBin, evInt, evStr, evUn, Nat.reduceEqDiff, Nat.reduceLT, evResults, evResultsL, reduceCtorEq, AV.isUndef, AV.cells, Nat.reduceAdd, Heap.store, Nat.reduceLeDiff]
  refine callStep (f19_noth _ hr _ ?_)
  simp (maxSteps := 1000000) only [sx, fx, implies_true, evBuildSlice, fillE, fillA, Nat.reduceMul, Nat.reducePow, AV.isCell, Nat.reduceSub, here, plain, laid, Nat.reduceBEq, evOp, avOf, avCell, strOf, UInt8.reduceToNat, evBin, evInt, evStr, evUn, Nat.reduceEqDiff, Nat.reduceLT, evResults, evResultsL, reduceCtorEq, AV.isUndef, AV.cells, Nat.reduceAdd, Heap.store, Nat.reduceLeDiff, len_nil' und51]
  exact hQ

theorem f11_noth {r : AV} (key : List Nat) (H : Heap) (hFr : Free H) (hr : Noth H r) (Q : AV → Heap → Prop) (hQ : ∀ H', Up H H' → Free H' → Q (.tuple [.agg (pt .nilslice 0 0 0 false), .bool false]) H') : WF Try.prog 11 [r, .str key] H Q := by
  refine WF_body Try.func11 (by kernel_rfl) rfl Try.ntmps11 (by rw [Try.results11]) (of_decide_eq_true (by kernel_rfl)) ?_
  simp (maxSteps := 1000000) only [sx, fx, implies_true, evBuildSlice, fillE, fillA, Nat.reduceMul, Nat.reducePow, AV.isCell, Nat.reduceSub, here, plain, laid, Nat.reduceBEq, evOp, avOf, avCell, strOf, UInt8.reduceToNat, evBin, evInt, evStr, evUn, Nat.reduceEqDiff, Nat.reduceLT, evResults, evResultsL, reduceCtorEq, AV.isUndef, AV.cells, Nat.reduceAdd, Heap.store, Nat.reduceLeDiff, hFr.at, hFr.hp]
  refine callStep (f23_noth _ (hr.up (hFr.hpU _)) _ ?_)
  simp (maxSteps := 1000000) only [sx, fx, implies_true, evBuildSlice, fillE, fillA, Nat.reduceMul, Nat.reducePow, AV.isCell, Nat.reduceSub, here, plain, laid, Nat.reduceBEq, evOp, avOf, avCell, strOf, UInt8.reduceToNat, evBin, evInt, evStr, evUn, Nat.reduceEqDiff, Nat.reduceLT, evResults, evResultsL, reduceCtorEq, AV.isUndef, AV.cells, Nat.reduceAdd, Heap.store, Nat.reduceLeDiff]
  exact hQ _ (hFr.hpU _) (hFr.hpF _)

theorem f17_noth {r : AV} (key : List Nat) (H : Heap) (hFr : Free H) (hr : Noth H r) (Q : AV → Heap → Prop) (hQ : ∀ H', Up H H' → Free H' → Q (.tuple [.agg (pt .nilslice 0 0 0 false), .bool false]) H') : WF Try.prog 17 [r, .str key] H Q := by
  refine WF_body Try.func17 (by kernel_rfl) rfl Try.ntmps17 (by rw [Try.results17]) (of_decide_eq_true (by kernel_rfl)) ?_
  simp (maxSteps := 1000000) only [sx, fx, implies_true, evBuildSlice, fillE, fillA, Nat.reduceMul, Nat.reducePow, AV.isCell, Nat.reduceSub, here, plain, laid, Nat.reduceBEq, evOp, avOf, avCell, strOf, UInt8.reduceToNat, evBin, evInt, evStr, evUn, Nat.reduceEqDiff, Nat.reduceLT, evResults, evResultsL, reduceCtorEq, AV.isUndef, AV.cells, Nat.reduceAdd, Heap.store, Nat.reduceLeDiff, hFr.at, hFr.hp]
  refine callStep (f11_noth key _ (hFr.hpF _) (hr.up (hFr.hpU _)) _ fun H1 hU1 hF1 => ?_)
  have b0 : ∀ xs, (HP H1 xs).blk H.next = some (.row 37 17 [pt .nilslice 0 0 0 false] 0 0) := fun xs => hF1.hpU xs _ _ (hU1 _ _ (by rw [hp_blk0]; rfl))
  have hU := (hFr.hpU _).trans hU1
  simp (maxSteps := 1000000) only [sx, fx, implies_true, evBuildSlice, fillE, fillA, Nat.reduceMul, Nat.reducePow, AV.isCell, Nat.reduceSub, here, plain, laid, Nat.reduceBEq, evOp, avOf, avCell, strOf, UInt8.reduceToNat, evBin, evInt, evStr, evUn, Nat.reduceEqDiff, Nat.reduceLT, evResults, evResultsL, reduceCtorEq, AV.isUndef, AV.cells, Nat.reduceAdd, Heap.store, Nat.reduceLeDiff, hF1.at, hF1.hp, pt]
  simp only [pt] at b0
  refine callStep (f23_noth _ (hr.up (hU.trans (hF1.hpU _))) _ ?_)
  simp (maxSteps := 1000000) only [sx, fx, implies_true, evBuildSlice, fillE, fillA, Nat.reduceMul, Nat.reducePow, AV.isCell, Nat.reduceSub, here, plain, laid, Nat.reduceBEq, evOp, avOf, avCell, strOf, UInt8.reduceToNat, evBin, evInt, evStr, evUn, Nat.reduceEqDiff, Nat.reduceLT, evResults, evResultsL, reduceCtorEq, AV.isUndef, AV.cells, Nat.reduceAdd, Heap.store, Nat.reduceLeDiff, b0]
  exact hQ _ ((hU.trans (hF1.hpU _)).set (hFr _ (Nat.le_refl _)) _) ((hF1.hpF _).set ((hF1.hpF _).lt (b0 _)) _)

theorem f18_noth {r : AV} (key : List Nat) (H : Heap) (hFr : Free H) (hr : Noth H r) (Q : AV → Heap → Prop) (hQ : ∀ H', Up H H' → Free H' → Q (.bool false) H') : WF Try.prog 18 [r, .str key] H Q := by
  refine WF_body Try.func18 (by kernel_rfl) rfl Try.ntmps18 (by rw [Try.results18]) (of_decide_eq_true (by kernel_rfl)) ?_
  simp (maxSteps := 1000000) only [sx, fx, implies_true, evBuildSlice, fillE, fillA, Nat.reduceMul, Nat.reducePow, AV.isCell, Nat.reduceSub, here, plain, laid, Nat.reduceBEq, evOp, avOf, avCell, strOf, UInt8.reduceToNat, evBin, evInt, evStr, evUn, Nat.reduceEqDiff, Nat.reduceLT, evResults, evResultsL, reduceCtorEq, AV.isUndef, AV.cells, Nat.reduceAdd, Heap.store, Nat.reduceLeDiff, hFr.at, hFr.hp]
  refine callStep (f23_noth _ (hr.up (hFr.hpU _)) _ ?_)
  simp (maxSteps := 1000000) only [sx, fx, implies_true, evBuildSlice, fillE, fillA, Nat.reduceMul, Nat.reducePow, AV.isCell, Nat.reduceSub, here, plain, laid, Nat.reduceBEq, evOp, avOf, avCell, strOf, UInt8.reduceToNat, evBin, evInt, evStr, evUn, Nat.reduceEqDiff, Nat.reduceLT, evResults, evResultsL, reduceCtorEq, AV.isUndef, AV.cells, Nat.reduceAdd, Heap.store, Nat.reduceLeDiff]
  exact hQ _ (hFr.hpU _) (hFr.hpF _)

theorem f8_noth {r g : AV} (key : List Nat) (n : Int) (H : Heap) (hFr : Free H) (hr : Noth H r) (Q : AV → Heap → Prop) (hQ : ∀ H', Up H H' → Free H' → Q (.int .i64 1) H') : WF Try.prog 8 [r, .str key, .agg (ptN g n)] H Q := by
  refine WF_body Try.func8 (by kernel_rfl) rfl Try.ntmps8 (by rw [Try.results8]) (of_decide_eq_true (by kernel_rfl)) ?_
  have hln : (ptN g n).length = 17 := rfl
  simp (maxSteps := 1000000) only [sx, fx, implies_true, evBuildSlice, fillE, fillA, Nat.reduceMul, Nat.reducePow, AV.isCell, Nat.reduceSub, here, plain, laid, Nat.reduceBEq, evOp, avOf, avCell, strOf, UInt8.reduceToNat, evBin, evInt, evStr, evUn, Nat.reduceEqDiff, Nat.reduceLT, evResults, evResultsL, reduceCtorEq, AV.isUndef, AV.cells, Nat.reduceAdd, Heap.store, Nat.reduceLeDiff, hFr.at, hFr.hp, hln]
  refine callStep (f23_noth _ (hr.up (hFr.hpU _)) _ ?_)
  simp (maxSteps := 1000000) only [sx, fx, implies_true, evBuildSlice, fillE, fillA, Nat.reduceMul, Nat.reducePow, AV.isCell, Nat.reduceSub, here, plain, laid, Nat.reduceBEq, evOp, avOf, avCell, strOf, UInt8.reduceToNat, evBin, evInt, evStr, evUn, Nat.reduceEqDiff, Nat.reduceLT, evResults, evResultsL, reduceCtorEq, AV.isUndef, AV.cells, Nat.reduceAdd, Heap.store, Nat.reduceLeDiff]
  exact hQ _ (hFr.hpU _) (hFr.hpF _)
end Go.Proofs.T
