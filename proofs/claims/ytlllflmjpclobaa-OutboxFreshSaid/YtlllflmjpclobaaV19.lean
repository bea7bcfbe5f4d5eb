import Derived.Test.YtlllflmjpclobaaV18
set_option linter.unusedVariables false
set_option linter.unusedSimpArgs false
set_option linter.unusedVariables false
set_option linter.unusedSimpArgs false
set_option maxRecDepth 100000
namespace Go.Proofs.T
open Go.Ev
/-- What a valid command's value is. -/
def DataFit (k : Int) (d : List AV) : Prop := KeysFit d ∧ (k = 10 → ∃ (i : Int) (s : List Nat) (v w : AV), d = [.int .i64 5, .int .i64 i, .str s, v, w])
set_option maxHeartbeats 8000000 in
theorem f49_ok {H : Heap} {cs d : List AV} {k : Int} (h : CmdR H cs k d) (hF : Free H) (K : AV → Heap → Prop) (hK : ∀ b H', (b = true → DataFit k d) → Up H H' → Free H' → K (.bool b) H') : WF Try.prog 49 [.agg cs] H K := by
  refine f49_head h hF K (fun b H' _ hU hF' hb => hK b H' (fun h => by rw [hb] at h; cases h) hU hF') (fun env H1 a hfit h1 h14 hb e1 hU1 hF1 => ?_)
  obtain ⟨sq, nn, nm, ky, o, rfl, hnm, hky, ⟨n1, hd⟩, ho⟩ := h
  obtain ⟨p0, p1, p2, p3, p4, p5, p6, p7, p8, p9, rfl⟩ := ten ho.len
  have hdd := hd
  cases n1 with
  | zero => exact hd.elim
  | succ n1 =>
  obtain ⟨dk, dx, dt, dv, dw, L, M, rfl, hv, hvn, hvc, hw, hwn, hwc⟩ := hd
  have hb : H1.blk a = some (.row 88 20 [[.int .i64 k, .int .i64 sq, .str nm, .str ky, .int .i64 nn, .int .i64 dk, .int .i64 dx, .str dt, dv, dw, p0, p1, p2, p3, p4, p5, p6, p7, p8, p9]] 0 0) := hb
  have hs1 : c49a = .seq (cL c49a) (.seq (cL (cR c49a)) (.seq (cL (cR (cR c49a))) c49b)) := rfl
  rw [hs1]
  simp only [cL, c49a, bd49, Try.f49, Option.getD, cR]
  simp (maxSteps := 1000000) only [sx, fx, icI, icS, icB, icN, icL, implies_true, evBuildSlice, fillE, fillA, here, plain, laid, evOp, avOf, avCell, strOf, evBin, evInt, evStr, evUn, evResults, evResultsL, AV.isUndef, AV.cells, Heap.store, wbool_off, after_scope, Nat.reduceMul, Nat.reducePow, Nat.reduceSub, Nat.reduceBEq, UInt8.reduceToNat, Nat.reduceEqDiff, Nat.reduceLT, reduceCtorEq, Nat.reduceAdd, Nat.reduceLeDiff, e1, hb]
  refine callStep (f71_ok _ _ _ _ _ ?_)
  generalize (decide (1 ≤ sq) && decide (sq ≤ 2000)) = s1
  simp (maxSteps := 1000000) only [sx, fx, icI, icS, icB, icN, icL, implies_true, evBuildSlice, fillE, fillA, here, plain, laid, evOp, avOf, avCell, strOf, evBin, evInt, evStr, evUn, evResults, evResultsL, AV.isUndef, AV.cells, Heap.store, wbool_off, after_scope, Nat.reduceMul, Nat.reducePow, Nat.reduceSub, Nat.reduceBEq, UInt8.reduceToNat, Nat.reduceEqDiff, Nat.reduceLT, reduceCtorEq, Nat.reduceAdd, Nat.reduceLeDiff, e1, hb]
  refine callStep (f51_ok _ _ _ fun n1 => ?_)
  simp (maxSteps := 1000000) only [sx, fx, icI, icS, icB, icN, icL, implies_true, evBuildSlice, fillE, fillA, here, plain, laid, evOp, avOf, avCell, strOf, evBin, evInt, evStr, evUn, evResults, evResultsL, AV.isUndef, AV.cells, Heap.store, wbool_off, after_scope, Nat.reduceMul, Nat.reducePow, Nat.reduceSub, Nat.reduceBEq, UInt8.reduceToNat, Nat.reduceEqDiff, Nat.reduceLT, reduceCtorEq, Nat.reduceAdd, Nat.reduceLeDiff, e1, hb]
  refine callStep (f74_ok _ _ _ fun y1 => ?_)
  simp (maxSteps := 1000000) only [sx, fx, icI, icS, icB, icN, icL, implies_true, evBuildSlice, fillE, fillA, here, plain, laid, evOp, avOf, avCell, strOf, evBin, evInt, evStr, evUn, evResults, evResultsL, AV.isUndef, AV.cells, Heap.store, wbool_off, after_scope, Nat.reduceMul, Nat.reducePow, Nat.reduceSub, Nat.reduceBEq, UInt8.reduceToNat, Nat.reduceEqDiff, Nat.reduceLT, reduceCtorEq, Nat.reduceAdd, Nat.reduceLeDiff, e1, hb]
  exact f49b dk dx dt dv dw ⟨h1, h14⟩ hF1 (hdd.up hU1) (ho.up hU1) hb _ (by simp (maxSteps := 1000000) only [sx, fx, icI, icS, icB, icN, icL, implies_true, evBuildSlice, fillE, fillA, here, plain, laid, evOp, avOf, avCell, strOf, evBin, evInt, evStr, evUn, evResults, evResultsL, AV.isUndef, AV.cells, Heap.store, wbool_off, after_scope, Nat.reduceMul, Nat.reducePow, Nat.reduceSub, Nat.reduceBEq, UInt8.reduceToNat, Nat.reduceEqDiff, Nat.reduceLT, reduceCtorEq, Nat.reduceAdd, Nat.reduceLeDiff, e1]) (s1 := s1) (n1 := n1) (y1 := y1) (by simp (maxSteps := 1000000) only [sx, fx, icI, icS, icB, icN, icL, implies_true, evBuildSlice, fillE, fillA, here, plain, laid, evOp, avOf, avCell, strOf, evBin, evInt, evStr, evUn, evResults, evResultsL, AV.isUndef, AV.cells, Heap.store, wbool_off, after_scope, Nat.reduceMul, Nat.reducePow, Nat.reduceSub, Nat.reduceBEq, UInt8.reduceToNat, Nat.reduceEqDiff, Nat.reduceLT, reduceCtorEq, Nat.reduceAdd, Nat.reduceLeDiff]) (by simp (maxSteps := 1000000) only [sx, fx, icI, icS, icB, icN, icL, implies_true, evBuildSlice, fillE, fillA, here, plain, laid, evOp, avOf, avCell, strOf, evBin, evInt, evStr, evUn, evResults, evResultsL, AV.isUndef, AV.cells, Heap.store, wbool_off, after_scope, Nat.reduceMul, Nat.reducePow, Nat.reduceSub, Nat.reduceBEq, UInt8.reduceToNat, Nat.reduceEqDiff, Nat.reduceLT, reduceCtorEq, Nat.reduceAdd, Nat.reduceLeDiff]) (by simp (maxSteps := 1000000) only [sx, fx, icI, icS, icB, icN, icL, implies_true, evBuildSlice, fillE, fillA, here, plain, laid, evOp, avOf, avCell, strOf, evBin, evInt, evStr, evUn, evResults, evResultsL, AV.isUndef, AV.cells, Heap.store, wbool_off, after_scope, Nat.reduceMul, Nat.reducePow, Nat.reduceSub, Nat.reduceBEq, UInt8.reduceToNat, Nat.reduceEqDiff, Nat.reduceLT, reduceCtorEq, Nat.reduceAdd, Nat.reduceLeDiff]) K
    (fun b H' hbk hU' hF' => hK b H' (fun hb => ⟨hfit, fun hk => ⟨dx, dt, dv, dw, by rw [hbk hb hk]⟩⟩) (hU1.trans hU') hF')
end Go.Proofs.T
