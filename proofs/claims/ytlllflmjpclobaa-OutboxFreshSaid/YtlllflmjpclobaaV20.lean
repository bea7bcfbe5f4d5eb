import Derived.Test.YtlllflmjpclobaaV19
set_option linter.unusedVariables false
set_option linter.unusedSimpArgs false
set_option linter.unusedVariables false
set_option linter.unusedSimpArgs false
set_option maxRecDepth 100000
namespace Go.Proofs.T
open Go.Ev
noncomputable def bd39 : Code := (Try.f39.body).getD .skip
noncomputable def c39a : Code := cR (cR (cR bd39))
theorem f48b_ok (k : Int) (H : Heap) (hF : Free H) (K : AV → Heap → Prop) (hK : ∀ b H', (k = 29 → b = true) → Up H H' → Free H' → K (.bool b) H') : WF Try.prog 48 [.int .i64 k] H K := by
  refine WF_body Try.func48 (by kernel_rfl) rfl Try.ntmps48 (by rw [Try.results48]) (of_decide_eq_true (by kernel_rfl)) ?_
  simp (maxSteps := 1000000) only [sx, fx, implies_true, evBuildSlice, fillE, fillA, AV.isCell, here, plain, laid, evOp, avOf, avCell, strOf, evBin, evInt, evStr, evUn, evResults, evResultsL, AV.isUndef, AV.cells, Heap.store, wbool_off, after_scope, Nat.reduceMul, Nat.reducePow, Nat.reduceSub, Nat.reduceBEq, UInt8.reduceToNat, Nat.reduceEqDiff, Nat.reduceLT, reduceCtorEq, Nat.reduceAdd, Nat.reduceLeDiff]
  refine callStep (f70b_ok k H hF _ fun x H2 hx hU2 hF2 => ?_)
  simp (maxSteps := 1000000) only [sx, fx, implies_true, evBuildSlice, fillE, fillA, AV.isCell, here, plain, laid, evOp, avOf, avCell, strOf, evBin, evInt, evStr, evUn, evResults, evResultsL, AV.isUndef, AV.cells, Heap.store, wbool_off, after_scope, Nat.reduceMul, Nat.reducePow, Nat.reduceSub, Nat.reduceBEq, UInt8.reduceToNat, Nat.reduceEqDiff, Nat.reduceLT, reduceCtorEq, Nat.reduceAdd, Nat.reduceLeDiff]
  exact hK _ _ (fun h => by rw [hx h]; rfl) hU2 hF2
/-- What a valid event's value is. -/
def EvFit (k : Int) (d : List AV) : Prop := KeysFit d ∧ (k = 29 → ∃ (i : Int) (s : List Nat) (v w : AV), d = [.int .i64 5, .int .i64 i, .str s, v, w])
set_option maxHeartbeats 8000000 in
theorem f39_head {H : Heap} {cs d : List AV} {k : Int} (h : EvR H cs k d) (hF : Free H) (K : AV → Heap → Prop) (hK : ∀ b H', (b = true → EvFit k d) → Up H H' → Free H' → K (.bool b) H')
    (hT : ∀ (env : Env) (H' : Heap) (a : Nat), EvFit k d → 1 ≤ k → k ≤ 35 → H'.blk a = some (.row 63 24 [cs] 0 0) → env.at (.tmp 1) = .ptr a 0 0 0 → Up H H' → Free H' → After Try.prog 112 [.code c39a] .normal env H' (Fin Try.prog [.tmp 2] K)) : WF Try.prog 39 [.agg cs] H K := by
  have hall := h
  obtain ⟨id, tm, sq, rf, nn, cd, nm, ky, o, rfl, hnm, hky, ⟨n1, hd⟩, ho⟩ := h
  obtain ⟨p0, p1, p2, p3, p4, p5, p6, p7, p8, p9, rfl⟩ := ten ho.len
  cases n1 with
  | zero => exact hd.elim
  | succ n1 =>
  obtain ⟨dk, dx, dt, dv, dw, L, M, rfl, hv, hvn, hvc, hw, hwn, hwc⟩ := hd
  refine WF_body (c := .seq (cL bd39) (.seq (cL (cR bd39)) (.seq (cL (cR (cR bd39))) c39a))) Try.func39 (by kernel_rfl) (by kernel_rfl) Try.ntmps39 (by rw [Try.results39]) (of_decide_eq_true (by kernel_rfl)) ?_
  simp only [cL, bd39, Try.f39, Option.getD, cR]
  simp (maxSteps := 1000000) only [sx, fx, icI, icS, icB, icN, icL, implies_true, evBuildSlice, fillE, fillA, here, plain, laid, evOp, avOf, avCell, strOf, evBin, evInt, evStr, evUn, evResults, evResultsL, AV.isUndef, AV.cells, Heap.store, wbool_off, after_scope, Nat.reduceMul, Nat.reducePow, Nat.reduceSub, Nat.reduceBEq, UInt8.reduceToNat, Nat.reduceEqDiff, Nat.reduceLT, reduceCtorEq, Nat.reduceAdd, Nat.reduceLeDiff, hF.at, hF.hp]
  generalize hH1 : HP H [Blk.row 63 24 [[.int .i64 id, .int .i64 k, .int .i64 tm, .int .i64 sq, .int .i64 rf, .int .i64 nn, .int .i64 cd, .str nm, .str ky, .int .i64 dk, .int .i64 dx, .str dt, dv, dw, p0, p1, p2, p3, p4, p5, p6, p7, p8, p9]] 0 0] = H1
  have hb : H1.blk H.next = some (.row 63 24 [[.int .i64 id, .int .i64 k, .int .i64 tm, .int .i64 sq, .int .i64 rf, .int .i64 nn, .int .i64 cd, .str nm, .str ky, .int .i64 dk, .int .i64 dx, .str dt, dv, dw, p0, p1, p2, p3, p4, p5, p6, p7, p8, p9]] 0 0) := by rw [← hH1, hp_blk0]; rfl
  have hF1 : Free H1 := hH1 ▸ hF.hpF _
  have hU1 : Up H H1 := hH1 ▸ hF.hpU _
  refine callStep (f46_ok _ _ _ _ _ ?_)
  by_cases hk : 1 ≤ k ∧ k ≤ 35
  · have g1 : decide (1 ≤ k) = true := by simp; omega
    have g2 : decide (k ≤ 35) = true := by simp; omega
    simp (maxSteps := 1000000) only [sx, fx, icI, icS, icB, icN, icL, implies_true, evBuildSlice, fillE, fillA, here, plain, laid, evOp, avOf, avCell, strOf, evBin, evInt, evStr, evUn, evResults, evResultsL, AV.isUndef, AV.cells, Heap.store, wbool_off, after_scope, Nat.reduceMul, Nat.reducePow, Nat.reduceSub, Nat.reduceBEq, UInt8.reduceToNat, Nat.reduceEqDiff, Nat.reduceLT, reduceCtorEq, Nat.reduceAdd, Nat.reduceLeDiff, hb, g1, g2]
    refine callStep (f46_ok _ _ _ _ _ ?_)
    generalize (decide (0 ≤ id) && decide (id ≤ 2000)) = z
    cases z with
    | false => simp (maxSteps := 1000000) only [sx, fx, icI, icS, icB, icN, icL, implies_true, evBuildSlice, fillE, fillA, here, plain, laid, evOp, avOf, avCell, strOf, evBin, evInt, evStr, evUn, evResults, evResultsL, AV.isUndef, AV.cells, Heap.store, wbool_off, after_scope, Nat.reduceMul, Nat.reducePow, Nat.reduceSub, Nat.reduceBEq, UInt8.reduceToNat, Nat.reduceEqDiff, Nat.reduceLT, reduceCtorEq, Nat.reduceAdd, Nat.reduceLeDiff, hb]; exact hK _ _ (by simp) hU1 hF1
    | true =>
    simp (maxSteps := 1000000) only [sx, fx, icI, icS, icB, icN, icL, implies_true, evBuildSlice, fillE, fillA, here, plain, laid, evOp, avOf, avCell, strOf, evBin, evInt, evStr, evUn, evResults, evResultsL, AV.isUndef, AV.cells, Heap.store, wbool_off, after_scope, Nat.reduceMul, Nat.reducePow, Nat.reduceSub, Nat.reduceBEq, UInt8.reduceToNat, Nat.reduceEqDiff, Nat.reduceLT, reduceCtorEq, Nat.reduceAdd, Nat.reduceLeDiff, hb]
    refine callStep (f46_ok _ _ _ _ _ ?_)
    generalize (decide (0 ≤ tm) && decide (tm ≤ 1099511627776)) = z
    cases z with
    | false => simp (maxSteps := 1000000) only [sx, fx, icI, icS, icB, icN, icL, implies_true, evBuildSlice, fillE, fillA, here, plain, laid, evOp, avOf, avCell, strOf, evBin, evInt, evStr, evUn, evResults, evResultsL, AV.isUndef, AV.cells, Heap.store, wbool_off, after_scope, Nat.reduceMul, Nat.reducePow, Nat.reduceSub, Nat.reduceBEq, UInt8.reduceToNat, Nat.reduceEqDiff, Nat.reduceLT, reduceCtorEq, Nat.reduceAdd, Nat.reduceLeDiff, hb]; exact hK _ _ (by simp) hU1 hF1
    | true =>
    simp (maxSteps := 1000000) only [sx, fx, icI, icS, icB, icN, icL, implies_true, evBuildSlice, fillE, fillA, here, plain, laid, evOp, avOf, avCell, strOf, evBin, evInt, evStr, evUn, evResults, evResultsL, AV.isUndef, AV.cells, Heap.store, wbool_off, after_scope, Nat.reduceMul, Nat.reducePow, Nat.reduceSub, Nat.reduceBEq, UInt8.reduceToNat, Nat.reduceEqDiff, Nat.reduceLT, reduceCtorEq, Nat.reduceAdd, Nat.reduceLeDiff, hb]
    refine callStep (f47_ok (hall.up hU1) hF1 _ fun b H2 hfit hU2 hF2 => ?_)
    have hb2 := hU2 _ _ hb
    have hU12 := hU1.trans hU2
    cases b with
    | false => simp (maxSteps := 1000000) only [sx, fx, icI, icS, icB, icN, icL, implies_true, evBuildSlice, fillE, fillA, here, plain, laid, evOp, avOf, avCell, strOf, evBin, evInt, evStr, evUn, evResults, evResultsL, AV.isUndef, AV.cells, Heap.store, wbool_off, after_scope, Nat.reduceMul, Nat.reducePow, Nat.reduceSub, Nat.reduceBEq, UInt8.reduceToNat, Nat.reduceEqDiff, Nat.reduceLT, reduceCtorEq, Nat.reduceAdd, Nat.reduceLeDiff, hb2]; exact hK _ _ (by simp) hU12 hF2
    | true =>
    have hfit := hfit rfl
    simp (maxSteps := 1000000) only [sx, fx, icI, icS, icB, icN, icL, implies_true, evBuildSlice, fillE, fillA, here, plain, laid, evOp, avOf, avCell, strOf, evBin, evInt, evStr, evUn, evResults, evResultsL, AV.isUndef, AV.cells, Heap.store, wbool_off, after_scope, Nat.reduceMul, Nat.reducePow, Nat.reduceSub, Nat.reduceBEq, UInt8.reduceToNat, Nat.reduceEqDiff, Nat.reduceLT, reduceCtorEq, Nat.reduceAdd, Nat.reduceLeDiff, hb2]
    refine callStep (f48b_ok k H2 hF2 _ fun b H3 h29 hU3 hF3 => ?_)
    have hb3 := hU3 _ _ hb2
    have hU13 := hU12.trans hU3
    cases b with
    | true =>
      simp (maxSteps := 1000000) only [sx, fx, icI, icS, icB, icN, icL, implies_true, evBuildSlice, fillE, fillA, here, plain, laid, evOp, avOf, avCell, strOf, evBin, evInt, evStr, evUn, evResults, evResultsL, AV.isUndef, AV.cells, Heap.store, wbool_off, after_scope, Nat.reduceMul, Nat.reducePow, Nat.reduceSub, Nat.reduceBEq, UInt8.reduceToNat, Nat.reduceEqDiff, Nat.reduceLT, reduceCtorEq, Nat.reduceAdd, Nat.reduceLeDiff, hb3]
      refine callStep (f50_ok (hall.up hU13) hF3 _ fun x ds H4 hx hc hU4 hF4 => ?_)
      simp (maxSteps := 1000000) only [sx, fx, icI, icS, icB, icN, icL, implies_true, evBuildSlice, fillE, fillA, here, plain, laid, evOp, avOf, avCell, strOf, evBin, evInt, evStr, evUn, evResults, evResultsL, AV.isUndef, AV.cells, Heap.store, wbool_off, after_scope, Nat.reduceMul, Nat.reducePow, Nat.reduceSub, Nat.reduceBEq, UInt8.reduceToNat, Nat.reduceEqDiff, Nat.reduceLT, reduceCtorEq, Nat.reduceAdd, Nat.reduceLeDiff]
      refine callStep (f49_ok hc hF4 _ fun b H5 hb5 hU5 hF5 => ?_)
      simp (maxSteps := 1000000) only [sx, fx, icI, icS, icB, icN, icL, implies_true, evBuildSlice, fillE, fillA, here, plain, laid, evOp, avOf, avCell, strOf, evBin, evInt, evStr, evUn, evResults, evResultsL, AV.isUndef, AV.cells, Heap.store, wbool_off, after_scope, Nat.reduceMul, Nat.reducePow, Nat.reduceSub, Nat.reduceBEq, UInt8.reduceToNat, Nat.reduceEqDiff, Nat.reduceLT, reduceCtorEq, Nat.reduceAdd, Nat.reduceLeDiff]
      exact hK _ _ (fun hb => ⟨hfit, fun hk => (hb5 hb).2 (hx hk)⟩) (hU13.trans (hU4.trans hU5)) hF5
    | false =>
      simp (maxSteps := 1000000) only [sx, fx, icI, icS, icB, icN, icL, implies_true, evBuildSlice, fillE, fillA, here, plain, laid, evOp, avOf, avCell, strOf, evBin, evInt, evStr, evUn, evResults, evResultsL, AV.isUndef, AV.cells, Heap.store, wbool_off, after_scope, Nat.reduceMul, Nat.reducePow, Nat.reduceSub, Nat.reduceBEq, UInt8.reduceToNat, Nat.reduceEqDiff, Nat.reduceLT, reduceCtorEq, Nat.reduceAdd, Nat.reduceLeDiff, hb3]
      exact hT _ _ H.next ⟨hfit, fun hk => by have := h29 hk; cases this⟩ hk.1 hk.2 hb3 (by simp (maxSteps := 1000000) only [sx, fx, icI, icS, icB, icN, icL, implies_true, evBuildSlice, fillE, fillA, here, plain, laid, evOp, avOf, avCell, strOf, evBin, evInt, evStr, evUn, evResults, evResultsL, AV.isUndef, AV.cells, Heap.store, wbool_off, after_scope, Nat.reduceMul, Nat.reducePow, Nat.reduceSub, Nat.reduceBEq, UInt8.reduceToNat, Nat.reduceEqDiff, Nat.reduceLT, reduceCtorEq, Nat.reduceAdd, Nat.reduceLeDiff]) hU13 hF3
  · have g1 : (decide (1 ≤ k) && decide (k ≤ 35)) = false := by simp; omega
    simp (maxSteps := 1000000) only [sx, fx, icI, icS, icB, icN, icL, implies_true, evBuildSlice, fillE, fillA, here, plain, laid, evOp, avOf, avCell, strOf, evBin, evInt, evStr, evUn, evResults, evResultsL, AV.isUndef, AV.cells, Heap.store, wbool_off, after_scope, Nat.reduceMul, Nat.reducePow, Nat.reduceSub, Nat.reduceBEq, UInt8.reduceToNat, Nat.reduceEqDiff, Nat.reduceLT, reduceCtorEq, Nat.reduceAdd, Nat.reduceLeDiff, hb, g1]
    exact hK _ _ (by simp) hU1 hF1
end Go.Proofs.T
