import Derived.Test.YtlllflmjpclobaaV7
set_option linter.unusedVariables false
set_option linter.unusedSimpArgs false
set_option linter.unusedVariables false
set_option linter.unusedSimpArgs false
set_option maxRecDepth 100000
namespace Go.Proofs.T
open Go.Ev

/-- A command's cells, in a heap. -/
structure CmdR (H : Heap) (cs : List AV) (k : Int) (d : List AV) : Prop where
  is : ∃ (sq nn : Int) (nm ky : List Nat) (o : List AV), cs = .int .i64 k :: .int .i64 sq :: .str nm :: .str ky :: .int .i64 nn :: (d ++ o) ∧ nm.length < 2 ^ 60 ∧ ky.length < 2 ^ 60 ∧ (∃ n, VR n H d) ∧ PolR H o

theorem CmdR.up {H G : Heap} {cs d : List AV} {k : Int} (h : CmdR H cs k d) (hu : Up H G) : CmdR G cs k d := by
  obtain ⟨sq, nn, nm, ky, o, e, h1, h2, ⟨n, h3⟩, h4⟩ := h
  exact ⟨sq, nn, nm, ky, o, e, h1, h2, ⟨n, h3.up hu⟩, h4.up hu⟩

theorem five {α : Type} {l : List α} (h : l.length = 5) : ∃ a b c d e, l = [a, b, c, d, e] := by
  match l, h with
  | [a, b, c, d, e], _ => exact ⟨a, b, c, d, e, rfl⟩
theorem ten {α : Type} {l : List α} (h : l.length = 10) : ∃ a b c d e f g i j k, l = [a, b, c, d, e, f, g, i, j, k] := by
  match l, h with
  | [a, b, c, d, e, f, g, i, j, k], _ => exact ⟨a, b, c, d, e, f, g, i, j, k, rfl⟩

set_option maxHeartbeats 8000000 in
theorem f72_ok {H : Heap} {cs ds d d' : List AV} {k k' : Int} (h : CmdR H cs k d) (h' : CmdR H ds k' d') (hF : Free H) (K : AV → Heap → Prop) (hK : ∀ b H', Up H H' → Free H' → K (.bool b) H') : WF Try.prog 72 [.agg cs, .agg ds] H K := by
  obtain ⟨sq, nn, nm, ky, o, rfl, _, _, ⟨n1, hd⟩, ho⟩ := h
  obtain ⟨sq', nn', nm', ky', o', rfl, _, _, ⟨n2, hd'⟩, ho'⟩ := h'
  obtain ⟨a0, a1, a2, a3, a4, rfl⟩ := five hd.len
  obtain ⟨b0, b1, b2, b3, b4, rfl⟩ := five hd'.len
  obtain ⟨p0, p1, p2, p3, p4, p5, p6, p7, p8, p9, rfl⟩ := ten ho.len
  obtain ⟨q0, q1, q2, q3, q4, q5, q6, q7, q8, q9, rfl⟩ := ten ho'.len
  refine WF_body Try.func72 (by kernel_rfl) rfl Try.ntmps72 (by rw [Try.results72]) (of_decide_eq_true (by kernel_rfl)) ?_
  simp (maxSteps := 1000000) only [sx, fx, implies_true, evBuildSlice, fillE, fillA, AV.isCell, here, plain, laid, evOp, avOf, avCell, strOf, evBin, evInt, evStr, evUn, evResults, evResultsL, AV.isUndef, AV.cells, Heap.store, wbool_off, after_scope, Nat.reduceMul, Nat.reducePow, Nat.reduceSub, Nat.reduceBEq, UInt8.reduceToNat, Nat.reduceEqDiff, Nat.reduceLT, reduceCtorEq, Nat.reduceAdd, Nat.reduceLeDiff, hF.at, hF.hp]
  generalize hH1 : HP H [Blk.row 88 20 [[.int .i64 k, .int .i64 sq, .str nm, .str ky, .int .i64 nn, a0, a1, a2, a3, a4, p0, p1, p2, p3, p4, p5, p6, p7, p8, p9]] 0 0, Blk.row 88 20 [[.int .i64 k', .int .i64 sq', .str nm', .str ky', .int .i64 nn', b0, b1, b2, b3, b4, q0, q1, q2, q3, q4, q5, q6, q7, q8, q9]] 0 0] = H1
  have hb : H1.blk H.next = some (.row 88 20 [[.int .i64 k, .int .i64 sq, .str nm, .str ky, .int .i64 nn, a0, a1, a2, a3, a4, p0, p1, p2, p3, p4, p5, p6, p7, p8, p9]] 0 0) := by rw [← hH1, hp_blk0]; rfl
  have hb' : H1.blk (H.next + 1) = some (.row 88 20 [[.int .i64 k', .int .i64 sq', .str nm', .str ky', .int .i64 nn', b0, b1, b2, b3, b4, q0, q1, q2, q3, q4, q5, q6, q7, q8, q9]] 0 0) := by rw [← hH1, hp_blk]; rfl
  have hF1 : Free H1 := hH1 ▸ hF.hpF _
  have hU1 : Up H H1 := hH1 ▸ hF.hpU _
  generalize hx1 : (k == k') = x1
  generalize hx2 : (sq == sq') = x2
  generalize hx3 : (nm == nm') = x3
  generalize hx4 : (ky == ky') = x4
  generalize hx5 : (nn == nn') = x5
  cases x1 with
  | false =>
    simp (maxSteps := 1000000) only [sx, fx, implies_true, evBuildSlice, fillE, fillA, AV.isCell, here, plain, laid, evOp, avOf, avCell, strOf, evBin, evInt, evStr, evUn, evResults, evResultsL, AV.isUndef, AV.cells, Heap.store, wbool_off, after_scope, Nat.reduceMul, Nat.reducePow, Nat.reduceSub, Nat.reduceBEq, UInt8.reduceToNat, Nat.reduceEqDiff, Nat.reduceLT, reduceCtorEq, Nat.reduceAdd, Nat.reduceLeDiff, hb, hb', hx1]
    exact hK _ _ hU1 hF1
  | true =>
    cases x2 with
    | false =>
      simp (maxSteps := 1000000) only [sx, fx, implies_true, evBuildSlice, fillE, fillA, AV.isCell, here, plain, laid, evOp, avOf, avCell, strOf, evBin, evInt, evStr, evUn, evResults, evResultsL, AV.isUndef, AV.cells, Heap.store, wbool_off, after_scope, Nat.reduceMul, Nat.reducePow, Nat.reduceSub, Nat.reduceBEq, UInt8.reduceToNat, Nat.reduceEqDiff, Nat.reduceLT, reduceCtorEq, Nat.reduceAdd, Nat.reduceLeDiff, hb, hb', hx1, hx2]
      exact hK _ _ hU1 hF1
    | true =>
      cases x3 with
      | false =>
        simp (maxSteps := 1000000) only [sx, fx, implies_true, evBuildSlice, fillE, fillA, AV.isCell, here, plain, laid, evOp, avOf, avCell, strOf, evBin, evInt, evStr, evUn, evResults, evResultsL, AV.isUndef, AV.cells, Heap.store, wbool_off, after_scope, Nat.reduceMul, Nat.reducePow, Nat.reduceSub, Nat.reduceBEq, UInt8.reduceToNat, Nat.reduceEqDiff, Nat.reduceLT, reduceCtorEq, Nat.reduceAdd, Nat.reduceLeDiff, hb, hb', hx1, hx2, hx3]
        exact hK _ _ hU1 hF1
      | true =>
        cases x4 with
        | false =>
          simp (maxSteps := 1000000) only [sx, fx, implies_true, evBuildSlice, fillE, fillA, AV.isCell, here, plain, laid, evOp, avOf, avCell, strOf, evBin, evInt, evStr, evUn, evResults, evResultsL, AV.isUndef, AV.cells, Heap.store, wbool_off, after_scope, Nat.reduceMul, Nat.reducePow, Nat.reduceSub, Nat.reduceBEq, UInt8.reduceToNat, Nat.reduceEqDiff, Nat.reduceLT, reduceCtorEq, Nat.reduceAdd, Nat.reduceLeDiff, hb, hb', hx1, hx2, hx3, hx4]
          exact hK _ _ hU1 hF1
        | true =>
          cases x5 with
          | false =>
            simp (maxSteps := 1000000) only [sx, fx, implies_true, evBuildSlice, fillE, fillA, AV.isCell, here, plain, laid, evOp, avOf, avCell, strOf, evBin, evInt, evStr, evUn, evResults, evResultsL, AV.isUndef, AV.cells, Heap.store, wbool_off, after_scope, Nat.reduceMul, Nat.reducePow, Nat.reduceSub, Nat.reduceBEq, UInt8.reduceToNat, Nat.reduceEqDiff, Nat.reduceLT, reduceCtorEq, Nat.reduceAdd, Nat.reduceLeDiff, hb, hb', hx1, hx2, hx3, hx4, hx5]
            exact hK _ _ hU1 hF1
          | true =>
            simp (maxSteps := 1000000) only [sx, fx, implies_true, evBuildSlice, fillE, fillA, AV.isCell, here, plain, laid, evOp, avOf, avCell, strOf, evBin, evInt, evStr, evUn, evResults, evResultsL, AV.isUndef, AV.cells, Heap.store, wbool_off, after_scope, Nat.reduceMul, Nat.reducePow, Nat.reduceSub, Nat.reduceBEq, UInt8.reduceToNat, Nat.reduceEqDiff, Nat.reduceLT, reduceCtorEq, Nat.reduceAdd, Nat.reduceLeDiff, hb, hb', hx1, hx2, hx3, hx4, hx5]
            refine callStep (f91_ok n1 n2 H1 [a0, a1, a2, a3, a4] [b0, b1, b2, b3, b4] (hd.up hU1) (hd'.up hU1) hF1 _ fun b H2 hU2 hF2 => ?_)
            have hb2 := hU2 _ _ hb
            have hb2' := hU2 _ _ hb'
            cases b
            · simp (maxSteps := 1000000) only [sx, fx, implies_true, evBuildSlice, fillE, fillA, AV.isCell, here, plain, laid, evOp, avOf, avCell, strOf, evBin, evInt, evStr, evUn, evResults, evResultsL, AV.isUndef, AV.cells, Heap.store, wbool_off, after_scope, Nat.reduceMul, Nat.reducePow, Nat.reduceSub, Nat.reduceBEq, UInt8.reduceToNat, Nat.reduceEqDiff, Nat.reduceLT, reduceCtorEq, Nat.reduceAdd, Nat.reduceLeDiff]
              exact hK _ _ (hU1.trans hU2) hF2
            simp (maxSteps := 1000000) only [sx, fx, implies_true, evBuildSlice, fillE, fillA, AV.isCell, here, plain, laid, evOp, avOf, avCell, strOf, evBin, evInt, evStr, evUn, evResults, evResultsL, AV.isUndef, AV.cells, Heap.store, wbool_off, after_scope, Nat.reduceMul, Nat.reducePow, Nat.reduceSub, Nat.reduceBEq, UInt8.reduceToNat, Nat.reduceEqDiff, Nat.reduceLT, reduceCtorEq, Nat.reduceAdd, Nat.reduceLeDiff, hb2, hb2']
            refine callStep (f69_ok (cs := [p0, p1, p2, p3, p4, p5, p6, p7, p8, p9]) (ds := [q0, q1, q2, q3, q4, q5, q6, q7, q8, q9]) (ho.up (hU1.trans hU2)) (ho'.up (hU1.trans hU2)) hF2 _ fun b H3 hU3 hF3 => ?_)
            simp (maxSteps := 1000000) only [sx, fx, implies_true, evBuildSlice, fillE, fillA, AV.isCell, here, plain, laid, evOp, avOf, avCell, strOf, evBin, evInt, evStr, evUn, evResults, evResultsL, AV.isUndef, AV.cells, Heap.store, wbool_off, after_scope, Nat.reduceMul, Nat.reducePow, Nat.reduceSub, Nat.reduceBEq, UInt8.reduceToNat, Nat.reduceEqDiff, Nat.reduceLT, reduceCtorEq, Nat.reduceAdd, Nat.reduceLeDiff]
            exact hK _ _ (hU1.trans (hU2.trans hU3)) hF3
end Go.Proofs.T
