import Derived.Test.YtlllflmjpclobaaV16
set_option linter.unusedVariables false
set_option linter.unusedSimpArgs false
set_option linter.unusedVariables false
set_option linter.unusedSimpArgs false
set_option maxRecDepth 100000
namespace Go.Proofs.T
open Go.Ev
noncomputable def bd49 : Code := (Try.f49.body).getD .skip
noncomputable def c49a : Code := cR (cR bd49)
theorem cmd0 (H : Heap) (k : Int) : CmdR H (.int .i64 k :: .int .i64 0 :: .str [] :: .str [] :: .int .i64 0 :: (zv ++ zp)) k zv := ⟨0, 0, [], [], zp, rfl, by decide, by decide, ⟨1, vr_zv _⟩, polR_zp _⟩
set_option maxHeartbeats 8000000 in
theorem f49_head {H : Heap} {cs d : List AV} {k : Int} (h : CmdR H cs k d) (hF : Free H) (K : AV → Heap → Prop) (hK : ∀ b H', (b = true → KeysFit d) → Up H H' → Free H' → (b = false → K (.bool b) H'))
    (hT : ∀ (env : Env) (H' : Heap) (a : Nat), KeysFit d → 1 ≤ k → k ≤ 14 → H'.blk a = some (.row 88 20 [cs] 0 0) → env.at (.tmp 1) = .ptr a 0 0 0 → Up H H' → Free H' → After Try.prog 132 [.code c49a] .normal env H' (Fin Try.prog [.tmp 2] K)) : WF Try.prog 49 [.agg cs] H K := by
  have hall := h
  obtain ⟨sq, nn, nm, ky, o, rfl, hnm, hky, ⟨n1, hd⟩, ho⟩ := h
  have hdc := hd.cells
  have hoc := ho.cells
  obtain ⟨a0, a1, a2, a3, a4, rfl⟩ := five hd.len
  obtain ⟨p0, p1, p2, p3, p4, p5, p6, p7, p8, p9, rfl⟩ := ten ho.len
  simp only [List.all_cons, List.all_nil, Bool.and_eq_true, Bool.and_true] at hdc hoc
  obtain ⟨ca0, ca1, ca2, ca3, ca4⟩ := hdc
  obtain ⟨cp0, cp1, cp2, cp3, cp4, cp5, cp6, cp7, cp8, cp9⟩ := hoc
  refine WF_body (c := .seq (cL bd49) (.seq (cL (cR bd49)) c49a)) Try.func49 (by kernel_rfl) (by kernel_rfl) Try.ntmps49 (by rw [Try.results49]) (of_decide_eq_true (by kernel_rfl)) ?_
  simp only [cL, bd49, Try.f49, Option.getD, cR]
  simp (maxSteps := 1000000) only [sx, fx, icI, icS, icB, icN, icL, implies_true, evBuildSlice, fillE, fillA, here, plain, laid, evOp, avOf, avCell, strOf, evBin, evInt, evStr, evUn, evResults, evResultsL, AV.isUndef, AV.cells, Heap.store, wbool_off, after_scope, Nat.reduceMul, Nat.reducePow, Nat.reduceSub, Nat.reduceBEq, UInt8.reduceToNat, Nat.reduceEqDiff, Nat.reduceLT, reduceCtorEq, Nat.reduceAdd, Nat.reduceLeDiff, hF.at, hF.hp]
  generalize hH1 : HP H [Blk.row 88 20 [[.int .i64 k, .int .i64 sq, .str nm, .str ky, .int .i64 nn, a0, a1, a2, a3, a4, p0, p1, p2, p3, p4, p5, p6, p7, p8, p9]] 0 0] = H1
  have hb : H1.blk H.next = some (.row 88 20 [[.int .i64 k, .int .i64 sq, .str nm, .str ky, .int .i64 nn, a0, a1, a2, a3, a4, p0, p1, p2, p3, p4, p5, p6, p7, p8, p9]] 0 0) := by rw [← hH1, hp_blk0]; rfl
  have hF1 : Free H1 := hH1 ▸ hF.hpF _
  have hU1 : Up H H1 := hH1 ▸ hF.hpU _
  refine drawStep [6] [0, 1, 2, 3, 4, 5, 7, 8, 9, 6, 10, 11, 12, 13, 14, 15, 16, 17, 18] _ rfl (by kernel_rfl) ?_
  simp (maxSteps := 1000000) only [sx, fx, icI, icS, icB, icN, icL, implies_true, evBuildSlice, fillE, fillA, here, plain, laid, evOp, avOf, avCell, strOf, evBin, evInt, evStr, evUn, evResults, evResultsL, AV.isUndef, AV.cells, Heap.store, wbool_off, after_scope, Nat.reduceMul, Nat.reducePow, Nat.reduceSub, Nat.reduceBEq, UInt8.reduceToNat, Nat.reduceEqDiff, Nat.reduceLT, reduceCtorEq, Nat.reduceAdd, Nat.reduceLeDiff, hb]
  refine callStep (f71_ok _ _ _ _ _ ?_)
  by_cases hk : 1 ≤ k ∧ k ≤ 14
  · have g1 : decide (1 ≤ k) = true := by simp; omega
    have g2 : decide (k ≤ 14) = true := by simp; omega
    simp (maxSteps := 1000000) only [sx, fx, icI, icS, icB, icN, icL, implies_true, evBuildSlice, fillE, fillA, here, plain, laid, evOp, avOf, avCell, strOf, evBin, evInt, evStr, evUn, evResults, evResultsL, AV.isUndef, AV.cells, Heap.store, wbool_off, after_scope, Nat.reduceMul, Nat.reducePow, Nat.reduceSub, Nat.reduceBEq, UInt8.reduceToNat, Nat.reduceEqDiff, Nat.reduceLT, reduceCtorEq, Nat.reduceAdd, Nat.reduceLeDiff, hb, g1, g2]
    refine callStep_flag (f73_ok (hall.up hU1) hk hF1 _ fun ds d' H2 hc hU2 hF2 => ⟨hU2, ?_⟩)
    have hb2 := hU2 _ _ hb
    simp (maxSteps := 1000000) only [sx, fx, icI, icS, icB, icN, icL, implies_true, evBuildSlice, fillE, fillA, here, plain, laid, evOp, avOf, avCell, strOf, evBin, evInt, evStr, evUn, evResults, evResultsL, AV.isUndef, AV.cells, Heap.store, wbool_off, after_scope, Nat.reduceMul, Nat.reducePow, Nat.reduceSub, Nat.reduceBEq, UInt8.reduceToNat, Nat.reduceEqDiff, Nat.reduceLT, reduceCtorEq, Nat.reduceAdd, Nat.reduceLeDiff, hb2]
    refine callStep (f72_ok hc (cmd0 H2 k) hF2 _ fun b H3 hU3 hF3 => ?_)
    have hb3 := hU3 _ _ hb2
    have hU13 := hU1.trans (hU2.trans hU3)
    cases b with
    | false =>
      simp (maxSteps := 1000000) only [sx, fx, icI, icS, icB, icN, icL, implies_true, evBuildSlice, fillE, fillA, here, plain, laid, evOp, avOf, avCell, strOf, evBin, evInt, evStr, evUn, evResults, evResultsL, AV.isUndef, AV.cells, Heap.store, wbool_off, after_scope, Nat.reduceMul, Nat.reducePow, Nat.reduceSub, Nat.reduceBEq, UInt8.reduceToNat, Nat.reduceEqDiff, Nat.reduceLT, reduceCtorEq, Nat.reduceAdd, Nat.reduceLeDiff, hb3]
      exact hK _ _ (by simp) hU13 hF3 rfl
    | true =>
      simp (maxSteps := 1000000) only [sx, fx, icI, icS, icB, icN, icL, implies_true, evBuildSlice, fillE, fillA, here, plain, laid, evOp, avOf, avCell, strOf, evBin, evInt, evStr, evUn, evResults, evResultsL, AV.isUndef, AV.cells, Heap.store, wbool_off, after_scope, Nat.reduceMul, Nat.reducePow, Nat.reduceSub, Nat.reduceBEq, UInt8.reduceToNat, Nat.reduceEqDiff, Nat.reduceLT, reduceCtorEq, Nat.reduceAdd, Nat.reduceLeDiff, hb3]
      refine callStep (f68_ok (cs := [a0, a1, a2, a3, a4]) (hd.up hU13) hF3 _ fun b H4 hfit hU4 hF4 => ?_)
      have hb4 := hU4 _ _ hb3
      cases b with
      | false =>
        simp (maxSteps := 1000000) only [sx, fx, icI, icS, icB, icN, icL, implies_true, evBuildSlice, fillE, fillA, here, plain, laid, evOp, avOf, avCell, strOf, evBin, evInt, evStr, evUn, evResults, evResultsL, AV.isUndef, AV.cells, Heap.store, wbool_off, after_scope, Nat.reduceMul, Nat.reducePow, Nat.reduceSub, Nat.reduceBEq, UInt8.reduceToNat, Nat.reduceEqDiff, Nat.reduceLT, reduceCtorEq, Nat.reduceAdd, Nat.reduceLeDiff, hb4]
        exact hK _ _ (by simp) (hU13.trans hU4) hF4 rfl
      | true =>
        simp (maxSteps := 1000000) only [sx, fx, icI, icS, icB, icN, icL, implies_true, evBuildSlice, fillE, fillA, here, plain, laid, evOp, avOf, avCell, strOf, evBin, evInt, evStr, evUn, evResults, evResultsL, AV.isUndef, AV.cells, Heap.store, wbool_off, after_scope, Nat.reduceMul, Nat.reducePow, Nat.reduceSub, Nat.reduceBEq, UInt8.reduceToNat, Nat.reduceEqDiff, Nat.reduceLT, reduceCtorEq, Nat.reduceAdd, Nat.reduceLeDiff, hb4]
        exact hT _ _ H.next (hfit rfl) hk.1 hk.2 hb4 (by simp (maxSteps := 1000000) only [sx, fx, icI, icS, icB, icN, icL, implies_true, evBuildSlice, fillE, fillA, here, plain, laid, evOp, avOf, avCell, strOf, evBin, evInt, evStr, evUn, evResults, evResultsL, AV.isUndef, AV.cells, Heap.store, wbool_off, after_scope, Nat.reduceMul, Nat.reducePow, Nat.reduceSub, Nat.reduceBEq, UInt8.reduceToNat, Nat.reduceEqDiff, Nat.reduceLT, reduceCtorEq, Nat.reduceAdd, Nat.reduceLeDiff]) (hU13.trans hU4) hF4
  · have g1 : (decide (1 ≤ k) && decide (k ≤ 14)) = false := by simp; omega
    simp (maxSteps := 1000000) only [sx, fx, icI, icS, icB, icN, icL, implies_true, evBuildSlice, fillE, fillA, here, plain, laid, evOp, avOf, avCell, strOf, evBin, evInt, evStr, evUn, evResults, evResultsL, AV.isUndef, AV.cells, Heap.store, wbool_off, after_scope, Nat.reduceMul, Nat.reducePow, Nat.reduceSub, Nat.reduceBEq, UInt8.reduceToNat, Nat.reduceEqDiff, Nat.reduceLT, reduceCtorEq, Nat.reduceAdd, Nat.reduceLeDiff, hb, g1]
    exact hK _ _ (by simp) hU1 hF1 rfl
end Go.Proofs.T
