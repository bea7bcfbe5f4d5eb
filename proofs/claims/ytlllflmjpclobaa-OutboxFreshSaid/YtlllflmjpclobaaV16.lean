import Derived.Test.YtlllflmjpclobaaV15
set_option linter.unusedVariables false
set_option linter.unusedSimpArgs false
set_option linter.unusedVariables false
set_option linter.unusedSimpArgs false
set_option maxRecDepth 100000
namespace Go.Proofs.T
open Go.Ev
set_option maxHeartbeats 8000000 in
theorem f47_ok {H : Heap} {cs d : List AV} {k : Int} (h : EvR H cs k d) (hF : Free H) (K : AV → Heap → Prop) (hK : ∀ b H', (b = true → KeysFit d) → Up H H' → Free H' → K (.bool b) H') : WF Try.prog 47 [.agg cs] H K := by
  obtain ⟨id, tm, sq, rf, nn, cd, nm, ky, o, rfl, hnm, hky, ⟨n1, hd⟩, ho⟩ := h
  have hoc := ho.cells
  obtain ⟨p0, p1, p2, p3, p4, p5, p6, p7, p8, p9, rfl⟩ := ten ho.len
  simp only [List.all_cons, List.all_nil, Bool.and_eq_true, Bool.and_true] at hoc
  obtain ⟨cp0, cp1, cp2, cp3, cp4, cp5, cp6, cp7, cp8, cp9⟩ := hoc
  have hdd := hd
  cases n1 with
  | zero => exact hd.elim
  | succ n1 =>
  obtain ⟨dk, dx, dt, dv, dw, L, M, rfl, hv, hvn, hvc, hw, hwn, hwc⟩ := hd
  have cv := holds_cell hv
  have cw := holds_cell hw
  refine WF_body (c := .seq (cL bd47) (.seq (cL (cR bd47)) c47a)) Try.func47 (by kernel_rfl) (by kernel_rfl) Try.ntmps47 (by rw [Try.results47]) (of_decide_eq_true (by kernel_rfl)) ?_
  simp only [cL, bd47, Try.f47, Option.getD, cR]
  simp (maxSteps := 1000000) only [sx, fx, icI, icS, icB, icN, icL, implies_true, evBuildSlice, fillE, fillA, here, plain, laid, evOp, avOf, avCell, strOf, evBin, evInt, evStr, evUn, evResults, evResultsL, AV.isUndef, AV.cells, Heap.store, wbool_off, after_scope, Nat.reduceMul, Nat.reducePow, Nat.reduceSub, Nat.reduceBEq, UInt8.reduceToNat, Nat.reduceEqDiff, Nat.reduceLT, reduceCtorEq, Nat.reduceAdd, Nat.reduceLeDiff, hF.at, hF.hp]
  generalize hH1 : HP H [Blk.row 63 24 [[.int .i64 id, .int .i64 k, .int .i64 tm, .int .i64 sq, .int .i64 rf, .int .i64 nn, .int .i64 cd, .str nm, .str ky, .int .i64 dk, .int .i64 dx, .str dt, dv, dw, p0, p1, p2, p3, p4, p5, p6, p7, p8, p9]] 0 0] = H1
  have hb1 : H1.blk H.next = some (.row 63 24 [[.int .i64 id, .int .i64 k, .int .i64 tm, .int .i64 sq, .int .i64 rf, .int .i64 nn, .int .i64 cd, .str nm, .str ky, .int .i64 dk, .int .i64 dx, .str dt, dv, dw, p0, p1, p2, p3, p4, p5, p6, p7, p8, p9]] 0 0) := by rw [← hH1, hp_blk0]; rfl
  have hF1 : Free H1 := hH1 ▸ hF.hpF _
  have hU1 : Up H H1 := hH1 ▸ hF.hpU _
  refine callStep (f67_ok k H1 hF1 _ fun b1 b2 b3 b4 b5 b6 b7 b8 H2 hU2 hF2 => ?_)
  have hb2 := hU2 _ _ hb1
  simp (maxSteps := 1000000) only [sx, fx, icI, icS, icB, icN, icL, implies_true, evBuildSlice, fillE, fillA, here, plain, laid, evOp, avOf, avCell, strOf, evBin, evInt, evStr, evUn, evResults, evResultsL, AV.isUndef, AV.cells, Heap.store, wbool_off, after_scope, Nat.reduceMul, Nat.reducePow, Nat.reduceSub, Nat.reduceBEq, UInt8.reduceToNat, Nat.reduceEqDiff, Nat.reduceLT, reduceCtorEq, Nat.reduceAdd, Nat.reduceLeDiff, splice, hF2.at, hF2.hp]
  have hF3 := hF2.hpF [Blk.row 97 8 [[.bool b1, .bool b2, .bool b3, .bool b4, .bool b5, .bool b6, .bool b7, .bool b8]] 0 0]
  have hU23 := hF2.hpU [Blk.row 97 8 [[.bool b1, .bool b2, .bool b3, .bool b4, .bool b5, .bool b6, .bool b7, .bool b8]] 0 0]
  have hU3 := hU1.trans (hU2.trans hU23)
  exact f47a dk dx dt dv dw hF3 (hdd.up hU3) (ho.up hU3) (hU23 _ _ hb2) (c := H2.next) (by rw [hp_blk0]; rfl) rfl _ (by simp (maxSteps := 1000000) only [sx, fx, icI, icS, icB, icN, icL, implies_true, evBuildSlice, fillE, fillA, here, plain, laid, evOp, avOf, avCell, strOf, evBin, evInt, evStr, evUn, evResults, evResultsL, AV.isUndef, AV.cells, Heap.store, wbool_off, after_scope, Nat.reduceMul, Nat.reducePow, Nat.reduceSub, Nat.reduceBEq, UInt8.reduceToNat, Nat.reduceEqDiff, Nat.reduceLT, reduceCtorEq, Nat.reduceAdd, Nat.reduceLeDiff]) (by simp (maxSteps := 1000000) only [sx, fx, icI, icS, icB, icN, icL, implies_true, evBuildSlice, fillE, fillA, here, plain, laid, evOp, avOf, avCell, strOf, evBin, evInt, evStr, evUn, evResults, evResultsL, AV.isUndef, AV.cells, Heap.store, wbool_off, after_scope, Nat.reduceMul, Nat.reducePow, Nat.reduceSub, Nat.reduceBEq, UInt8.reduceToNat, Nat.reduceEqDiff, Nat.reduceLT, reduceCtorEq, Nat.reduceAdd, Nat.reduceLeDiff]) K (fun b H' hb hU' hF' => hK b H' hb (hU3.trans hU') hF')
end Go.Proofs.T
