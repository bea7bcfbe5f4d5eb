import Derived.Test.YtlllflmjpclobaaV8
set_option linter.unusedVariables false
set_option linter.unusedSimpArgs false
set_option linter.unusedVariables false
set_option linter.unusedSimpArgs false
set_option maxRecDepth 100000
namespace Go.Proofs.T
open Go.Ev

theorem icI {k : IntKind} {n : Int} : (AV.int k n).isCell = true := rfl
theorem icS {s : List Nat} : (AV.str s).isCell = true := rfl
theorem icB {b : Bool} : (AV.bool b).isCell = true := rfl
theorem icN : AV.nilslice.isCell = true := rfl
theorem icL {sz : Nat} {es : List (List AV)} : (AV.lst sz es).isCell = true := rfl
def zv : List AV := [.int .i64 0, .int .i64 0, .str [], .nilslice, .nilslice]
def zp : List AV := [.str [], .int .i64 0, .int .i64 0, .int .i64 0, .int .i64 0, .int .i64 0, .int .i64 0, .int .i64 0, .int .i64 0, .nilslice]
theorem vr_zv (H : Heap) : VR 1 H zv := ⟨0, 0, [], .nilslice, .nilslice, [], [], rfl, Holds.nil, by decide, by simp, Holds.nil, by decide, by simp⟩
theorem polR_zp (H : Heap) : PolR H zp := ⟨[], 0, 0, 0, 0, 0, 0, 0, 0, .nilslice, [], rfl, by decide, Holds.nil, by decide, by simp⟩
theorem holds_cell {H : Heap} {esz : Nat} {v : AV} {L : List (List AV)} (h : Holds H esz v L) : v.isCell = true := by
  obtain ⟨h0, ⟨rfl, rfl | rfl⟩ | rfl | ⟨b, off, cap, ex, g, ty, els, gen, wgen, rfl, _⟩⟩ := h <;> rfl
theorem VR.cells {n : Nat} {H : Heap} {cs : List AV} (h : VR n H cs) : cs.all AV.isCell = true := by
  cases n with
  | zero => exact h.elim
  | succ n => obtain ⟨k, i, s, v, w, L, M, rfl, hv, _, _, hw, _⟩ := h; simp only [List.all_cons, List.all_nil, holds_cell hv, holds_cell hw]; rfl
theorem PolR.cells {H : Heap} {cs : List AV} (h : PolR H cs) : cs.all AV.isCell = true := by
  obtain ⟨q, i1, i2, i3, i4, i5, i6, i7, i8, w, M, rfl, _, hw, _⟩ := h; simp only [List.all_cons, List.all_nil, holds_cell hw]; rfl

set_option maxHeartbeats 16000000 in
theorem f73_ok {H : Heap} {cs d : List AV} {k : Int} (h : CmdR H cs k d) (hk : 1 ≤ k ∧ k ≤ 14) (hF : Free H) (K : AV → Heap → Prop) (hK : ∀ ds d' H', CmdR H' ds k d' → Up H H' → Free H' → K (.agg ds) H') : WF Try.prog 73 [.agg cs] H K := by
  obtain ⟨sq, nn, nm, ky, o, rfl, hnm, hky, ⟨n1, hd⟩, ho⟩ := h
  have hdc := hd.cells
  have hoc := ho.cells
  obtain ⟨a0, a1, a2, a3, a4, rfl⟩ := five hd.len
  obtain ⟨p0, p1, p2, p3, p4, p5, p6, p7, p8, p9, rfl⟩ := ten ho.len
  simp only [List.all_cons, List.all_nil, Bool.and_eq_true, Bool.and_true] at hdc hoc
  obtain ⟨ca0, ca1, ca2, ca3, ca4⟩ := hdc
  obtain ⟨cp0, cp1, cp2, cp3, cp4, cp5, cp6, cp7, cp8, cp9⟩ := hoc
  refine WF_body Try.func73 (by kernel_rfl) rfl Try.ntmps73 (by rw [Try.results73]) (of_decide_eq_true (by kernel_rfl)) ?_
  have hcases : k = 1 ∨ k = 2 ∨ k = 3 ∨ k = 4 ∨ k = 5 ∨ k = 6 ∨ k = 7 ∨ k = 8 ∨ k = 9 ∨ k = 10 ∨ k = 11 ∨ k = 12 ∨ k = 13 ∨ k = 14 := by omega
  rcases hcases with rfl | rfl | rfl | rfl | rfl | rfl | rfl | rfl | rfl | rfl | rfl | rfl | rfl | rfl
  · have q1 : ((1 : Int) == 1) = true := by decide
    have q2 : ((1 : Int) == 2) = false := by decide
    have q3 : ((1 : Int) == 3) = false := by decide
    have q4 : ((1 : Int) == 4) = false := by decide
    have q5 : ((1 : Int) == 5) = false := by decide
    have q6 : ((1 : Int) == 6) = false := by decide
    have q7 : ((1 : Int) == 7) = false := by decide
    have q8 : ((1 : Int) == 8) = false := by decide
    have q9 : ((1 : Int) == 9) = false := by decide
    have q10 : ((1 : Int) == 10) = false := by decide
    have q11 : ((1 : Int) == 11) = false := by decide
    have q12 : ((1 : Int) == 12) = false := by decide
    have q13 : ((1 : Int) == 13) = false := by decide
    have q14 : ((1 : Int) == 14) = false := by decide
    simp (maxSteps := 1000000) only [sx, fx, icI, icS, icB, icN, icL, implies_true, evBuildSlice, fillE, fillA, here, plain, laid, evOp, avOf, avCell, strOf, evBin, evInt, evStr, evUn, evResults, evResultsL, AV.isUndef, AV.cells, Heap.store, wbool_off, after_scope, Nat.reduceMul, Nat.reducePow, Nat.reduceSub, Nat.reduceBEq, UInt8.reduceToNat, Nat.reduceEqDiff, Nat.reduceLT, reduceCtorEq, Nat.reduceAdd, Nat.reduceLeDiff, splice, hF.at, hF.hp, q1, q2, q3, q4, q5, q6, q7, q8, q9, q10, q11, q12, q13, q14, ca0, ca1, ca2, ca3, ca4, cp0, cp1, cp2, cp3, cp4, cp5, cp6, cp7, cp8, cp9]
    refine hK _ zv _ ⟨0, nn, [], ky, zp, rfl, by decide, hky, ⟨1, vr_zv _⟩, polR_zp _⟩ (hF.hpU _) (hF.hpF _)
  · have q1 : ((2 : Int) == 1) = false := by decide
    have q2 : ((2 : Int) == 2) = true := by decide
    have q3 : ((2 : Int) == 3) = false := by decide
    have q4 : ((2 : Int) == 4) = false := by decide
    have q5 : ((2 : Int) == 5) = false := by decide
    have q6 : ((2 : Int) == 6) = false := by decide
    have q7 : ((2 : Int) == 7) = false := by decide
    have q8 : ((2 : Int) == 8) = false := by decide
    have q9 : ((2 : Int) == 9) = false := by decide
    have q10 : ((2 : Int) == 10) = false := by decide
    have q11 : ((2 : Int) == 11) = false := by decide
    have q12 : ((2 : Int) == 12) = false := by decide
    have q13 : ((2 : Int) == 13) = false := by decide
    have q14 : ((2 : Int) == 14) = false := by decide
    simp (maxSteps := 1000000) only [sx, fx, icI, icS, icB, icN, icL, implies_true, evBuildSlice, fillE, fillA, here, plain, laid, evOp, avOf, avCell, strOf, evBin, evInt, evStr, evUn, evResults, evResultsL, AV.isUndef, AV.cells, Heap.store, wbool_off, after_scope, Nat.reduceMul, Nat.reducePow, Nat.reduceSub, Nat.reduceBEq, UInt8.reduceToNat, Nat.reduceEqDiff, Nat.reduceLT, reduceCtorEq, Nat.reduceAdd, Nat.reduceLeDiff, splice, hF.at, hF.hp, q1, q2, q3, q4, q5, q6, q7, q8, q9, q10, q11, q12, q13, q14, ca0, ca1, ca2, ca3, ca4, cp0, cp1, cp2, cp3, cp4, cp5, cp6, cp7, cp8, cp9]
    refine hK _ [a0, a1, a2, a3, a4] _ ⟨0, nn, nm, ky, [p0, p1, p2, p3, p4, p5, p6, p7, p8, p9], rfl, hnm, hky, ⟨_, hd.up ?_⟩, ho.up ?_⟩ (hF.hpU _) (hF.hpF _)
    all_goals exact hF.hpU _
  · have q1 : ((3 : Int) == 1) = false := by decide
    have q2 : ((3 : Int) == 2) = false := by decide
    have q3 : ((3 : Int) == 3) = true := by decide
    have q4 : ((3 : Int) == 4) = false := by decide
    have q5 : ((3 : Int) == 5) = false := by decide
    have q6 : ((3 : Int) == 6) = false := by decide
    have q7 : ((3 : Int) == 7) = false := by decide
    have q8 : ((3 : Int) == 8) = false := by decide
    have q9 : ((3 : Int) == 9) = false := by decide
    have q10 : ((3 : Int) == 10) = false := by decide
    have q11 : ((3 : Int) == 11) = false := by decide
    have q12 : ((3 : Int) == 12) = false := by decide
    have q13 : ((3 : Int) == 13) = false := by decide
    have q14 : ((3 : Int) == 14) = false := by decide
    simp (maxSteps := 1000000) only [sx, fx, icI, icS, icB, icN, icL, implies_true, evBuildSlice, fillE, fillA, here, plain, laid, evOp, avOf, avCell, strOf, evBin, evInt, evStr, evUn, evResults, evResultsL, AV.isUndef, AV.cells, Heap.store, wbool_off, after_scope, Nat.reduceMul, Nat.reducePow, Nat.reduceSub, Nat.reduceBEq, UInt8.reduceToNat, Nat.reduceEqDiff, Nat.reduceLT, reduceCtorEq, Nat.reduceAdd, Nat.reduceLeDiff, splice, hF.at, hF.hp, q1, q2, q3, q4, q5, q6, q7, q8, q9, q10, q11, q12, q13, q14, ca0, ca1, ca2, ca3, ca4, cp0, cp1, cp2, cp3, cp4, cp5, cp6, cp7, cp8, cp9]
    refine hK _ [a0, a1, a2, a3, a4] _ ⟨0, 0, nm, ky, [p0, p1, p2, p3, p4, p5, p6, p7, p8, p9], rfl, hnm, hky, ⟨_, hd.up ?_⟩, ho.up ?_⟩ (hF.hpU _) (hF.hpF _)
    all_goals exact hF.hpU _
  · have q1 : ((4 : Int) == 1) = false := by decide
    have q2 : ((4 : Int) == 2) = false := by decide
    have q3 : ((4 : Int) == 3) = false := by decide
    have q4 : ((4 : Int) == 4) = true := by decide
    have q5 : ((4 : Int) == 5) = false := by decide
    have q6 : ((4 : Int) == 6) = false := by decide
    have q7 : ((4 : Int) == 7) = false := by decide
    have q8 : ((4 : Int) == 8) = false := by decide
    have q9 : ((4 : Int) == 9) = false := by decide
    have q10 : ((4 : Int) == 10) = false := by decide
    have q11 : ((4 : Int) == 11) = false := by decide
    have q12 : ((4 : Int) == 12) = false := by decide
    have q13 : ((4 : Int) == 13) = false := by decide
    have q14 : ((4 : Int) == 14) = false := by decide
    simp (maxSteps := 1000000) only [sx, fx, icI, icS, icB, icN, icL, implies_true, evBuildSlice, fillE, fillA, here, plain, laid, evOp, avOf, avCell, strOf, evBin, evInt, evStr, evUn, evResults, evResultsL, AV.isUndef, AV.cells, Heap.store, wbool_off, after_scope, Nat.reduceMul, Nat.reducePow, Nat.reduceSub, Nat.reduceBEq, UInt8.reduceToNat, Nat.reduceEqDiff, Nat.reduceLT, reduceCtorEq, Nat.reduceAdd, Nat.reduceLeDiff, splice, hF.at, hF.hp, q1, q2, q3, q4, q5, q6, q7, q8, q9, q10, q11, q12, q13, q14, ca0, ca1, ca2, ca3, ca4, cp0, cp1, cp2, cp3, cp4, cp5, cp6, cp7, cp8, cp9]
    refine hK _ [a0, a1, a2, a3, a4] _ ⟨0, nn, nm, ky, [p0, p1, p2, p3, p4, p5, p6, p7, p8, p9], rfl, hnm, hky, ⟨_, hd.up ?_⟩, ho.up ?_⟩ (hF.hpU _) (hF.hpF _)
    all_goals exact hF.hpU _
  · have q1 : ((5 : Int) == 1) = false := by decide
    have q2 : ((5 : Int) == 2) = false := by decide
    have q3 : ((5 : Int) == 3) = false := by decide
    have q4 : ((5 : Int) == 4) = false := by decide
    have q5 : ((5 : Int) == 5) = true := by decide
    have q6 : ((5 : Int) == 6) = false := by decide
    have q7 : ((5 : Int) == 7) = false := by decide
    have q8 : ((5 : Int) == 8) = false := by decide
    have q9 : ((5 : Int) == 9) = false := by decide
    have q10 : ((5 : Int) == 10) = false := by decide
    have q11 : ((5 : Int) == 11) = false := by decide
    have q12 : ((5 : Int) == 12) = false := by decide
    have q13 : ((5 : Int) == 13) = false := by decide
    have q14 : ((5 : Int) == 14) = false := by decide
    simp (maxSteps := 1000000) only [sx, fx, icI, icS, icB, icN, icL, implies_true, evBuildSlice, fillE, fillA, here, plain, laid, evOp, avOf, avCell, strOf, evBin, evInt, evStr, evUn, evResults, evResultsL, AV.isUndef, AV.cells, Heap.store, wbool_off, after_scope, Nat.reduceMul, Nat.reducePow, Nat.reduceSub, Nat.reduceBEq, UInt8.reduceToNat, Nat.reduceEqDiff, Nat.reduceLT, reduceCtorEq, Nat.reduceAdd, Nat.reduceLeDiff, splice, hF.at, hF.hp, q1, q2, q3, q4, q5, q6, q7, q8, q9, q10, q11, q12, q13, q14, ca0, ca1, ca2, ca3, ca4, cp0, cp1, cp2, cp3, cp4, cp5, cp6, cp7, cp8, cp9]
    refine hK _ zv _ ⟨0, 0, [], [], [p0, p1, p2, p3, p4, p5, p6, p7, p8, p9], rfl, by decide, by decide, ⟨1, vr_zv _⟩, ho.up ?_⟩ (hF.hpU _) (hF.hpF _)
    all_goals exact hF.hpU _
  · have q1 : ((6 : Int) == 1) = false := by decide
    have q2 : ((6 : Int) == 2) = false := by decide
    have q3 : ((6 : Int) == 3) = false := by decide
    have q4 : ((6 : Int) == 4) = false := by decide
    have q5 : ((6 : Int) == 5) = false := by decide
    have q6 : ((6 : Int) == 6) = true := by decide
    have q7 : ((6 : Int) == 7) = false := by decide
    have q8 : ((6 : Int) == 8) = false := by decide
    have q9 : ((6 : Int) == 9) = false := by decide
    have q10 : ((6 : Int) == 10) = false := by decide
    have q11 : ((6 : Int) == 11) = false := by decide
    have q12 : ((6 : Int) == 12) = false := by decide
    have q13 : ((6 : Int) == 13) = false := by decide
    have q14 : ((6 : Int) == 14) = false := by decide
    simp (maxSteps := 1000000) only [sx, fx, icI, icS, icB, icN, icL, implies_true, evBuildSlice, fillE, fillA, here, plain, laid, evOp, avOf, avCell, strOf, evBin, evInt, evStr, evUn, evResults, evResultsL, AV.isUndef, AV.cells, Heap.store, wbool_off, after_scope, Nat.reduceMul, Nat.reducePow, Nat.reduceSub, Nat.reduceBEq, UInt8.reduceToNat, Nat.reduceEqDiff, Nat.reduceLT, reduceCtorEq, Nat.reduceAdd, Nat.reduceLeDiff, splice, hF.at, hF.hp, q1, q2, q3, q4, q5, q6, q7, q8, q9, q10, q11, q12, q13, q14, ca0, ca1, ca2, ca3, ca4, cp0, cp1, cp2, cp3, cp4, cp5, cp6, cp7, cp8, cp9]
    refine hK _ zv _ ⟨0, nn, [], [], [p0, p1, p2, p3, p4, p5, p6, p7, p8, p9], rfl, by decide, by decide, ⟨1, vr_zv _⟩, ho.up ?_⟩ (hF.hpU _) (hF.hpF _)
    all_goals exact hF.hpU _
  · have q1 : ((7 : Int) == 1) = false := by decide
    have q2 : ((7 : Int) == 2) = false := by decide
    have q3 : ((7 : Int) == 3) = false := by decide
    have q4 : ((7 : Int) == 4) = false := by decide
    have q5 : ((7 : Int) == 5) = false := by decide
    have q6 : ((7 : Int) == 6) = false := by decide
    have q7 : ((7 : Int) == 7) = true := by decide
    have q8 : ((7 : Int) == 8) = false := by decide
    have q9 : ((7 : Int) == 9) = false := by decide
    have q10 : ((7 : Int) == 10) = false := by decide
    have q11 : ((7 : Int) == 11) = false := by decide
    have q12 : ((7 : Int) == 12) = false := by decide
    have q13 : ((7 : Int) == 13) = false := by decide
    have q14 : ((7 : Int) == 14) = false := by decide
    simp (maxSteps := 1000000) only [sx, fx, icI, icS, icB, icN, icL, implies_true, evBuildSlice, fillE, fillA, here, plain, laid, evOp, avOf, avCell, strOf, evBin, evInt, evStr, evUn, evResults, evResultsL, AV.isUndef, AV.cells, Heap.store, wbool_off, after_scope, Nat.reduceMul, Nat.reducePow, Nat.reduceSub, Nat.reduceBEq, UInt8.reduceToNat, Nat.reduceEqDiff, Nat.reduceLT, reduceCtorEq, Nat.reduceAdd, Nat.reduceLeDiff, splice, hF.at, hF.hp, q1, q2, q3, q4, q5, q6, q7, q8, q9, q10, q11, q12, q13, q14, ca0, ca1, ca2, ca3, ca4, cp0, cp1, cp2, cp3, cp4, cp5, cp6, cp7, cp8, cp9]
    refine hK _ zv _ ⟨sq, 0, [], ky, [p0, p1, p2, p3, p4, p5, p6, p7, p8, p9], rfl, by decide, hky, ⟨1, vr_zv _⟩, ho.up ?_⟩ (hF.hpU _) (hF.hpF _)
    all_goals exact hF.hpU _
  · have q1 : ((8 : Int) == 1) = false := by decide
    have q2 : ((8 : Int) == 2) = false := by decide
    have q3 : ((8 : Int) == 3) = false := by decide
    have q4 : ((8 : Int) == 4) = false := by decide
    have q5 : ((8 : Int) == 5) = false := by decide
    have q6 : ((8 : Int) == 6) = false := by decide
    have q7 : ((8 : Int) == 7) = false := by decide
    have q8 : ((8 : Int) == 8) = true := by decide
    have q9 : ((8 : Int) == 9) = false := by decide
    have q10 : ((8 : Int) == 10) = false := by decide
    have q11 : ((8 : Int) == 11) = false := by decide
    have q12 : ((8 : Int) == 12) = false := by decide
    have q13 : ((8 : Int) == 13) = false := by decide
    have q14 : ((8 : Int) == 14) = false := by decide
    simp (maxSteps := 1000000) only [sx, fx, icI, icS, icB, icN, icL, implies_true, evBuildSlice, fillE, fillA, here, plain, laid, evOp, avOf, avCell, strOf, evBin, evInt, evStr, evUn, evResults, evResultsL, AV.isUndef, AV.cells, Heap.store, wbool_off, after_scope, Nat.reduceMul, Nat.reducePow, Nat.reduceSub, Nat.reduceBEq, UInt8.reduceToNat, Nat.reduceEqDiff, Nat.reduceLT, reduceCtorEq, Nat.reduceAdd, Nat.reduceLeDiff, splice, hF.at, hF.hp, q1, q2, q3, q4, q5, q6, q7, q8, q9, q10, q11, q12, q13, q14, ca0, ca1, ca2, ca3, ca4, cp0, cp1, cp2, cp3, cp4, cp5, cp6, cp7, cp8, cp9]
    refine hK _ zv _ ⟨sq, nn, [], [], [p0, p1, p2, p3, p4, p5, p6, p7, p8, p9], rfl, by decide, by decide, ⟨1, vr_zv _⟩, ho.up ?_⟩ (hF.hpU _) (hF.hpF _)
    all_goals exact hF.hpU _
  · have q1 : ((9 : Int) == 1) = false := by decide
    have q2 : ((9 : Int) == 2) = false := by decide
    have q3 : ((9 : Int) == 3) = false := by decide
    have q4 : ((9 : Int) == 4) = false := by decide
    have q5 : ((9 : Int) == 5) = false := by decide
    have q6 : ((9 : Int) == 6) = false := by decide
    have q7 : ((9 : Int) == 7) = false := by decide
    have q8 : ((9 : Int) == 8) = false := by decide
    have q9 : ((9 : Int) == 9) = true := by decide
    have q10 : ((9 : Int) == 10) = false := by decide
    have q11 : ((9 : Int) == 11) = false := by decide
    have q12 : ((9 : Int) == 12) = false := by decide
    have q13 : ((9 : Int) == 13) = false := by decide
    have q14 : ((9 : Int) == 14) = false := by decide
    simp (maxSteps := 1000000) only [sx, fx, icI, icS, icB, icN, icL, implies_true, evBuildSlice, fillE, fillA, here, plain, laid, evOp, avOf, avCell, strOf, evBin, evInt, evStr, evUn, evResults, evResultsL, AV.isUndef, AV.cells, Heap.store, wbool_off, after_scope, Nat.reduceMul, Nat.reducePow, Nat.reduceSub, Nat.reduceBEq, UInt8.reduceToNat, Nat.reduceEqDiff, Nat.reduceLT, reduceCtorEq, Nat.reduceAdd, Nat.reduceLeDiff, splice, hF.at, hF.hp, q1, q2, q3, q4, q5, q6, q7, q8, q9, q10, q11, q12, q13, q14, ca0, ca1, ca2, ca3, ca4, cp0, cp1, cp2, cp3, cp4, cp5, cp6, cp7, cp8, cp9]
    refine hK _ zv _ ⟨sq, 0, nm, [], [p0, p1, p2, p3, p4, p5, p6, p7, p8, p9], rfl, hnm, by decide, ⟨1, vr_zv _⟩, ho.up ?_⟩ (hF.hpU _) (hF.hpF _)
    all_goals exact hF.hpU _
  · have q1 : ((10 : Int) == 1) = false := by decide
    have q2 : ((10 : Int) == 2) = false := by decide
    have q3 : ((10 : Int) == 3) = false := by decide
    have q4 : ((10 : Int) == 4) = false := by decide
    have q5 : ((10 : Int) == 5) = false := by decide
    have q6 : ((10 : Int) == 6) = false := by decide
    have q7 : ((10 : Int) == 7) = false := by decide
    have q8 : ((10 : Int) == 8) = false := by decide
    have q9 : ((10 : Int) == 9) = false := by decide
    have q10 : ((10 : Int) == 10) = true := by decide
    have q11 : ((10 : Int) == 11) = false := by decide
    have q12 : ((10 : Int) == 12) = false := by decide
    have q13 : ((10 : Int) == 13) = false := by decide
    have q14 : ((10 : Int) == 14) = false := by decide
    simp (maxSteps := 1000000) only [sx, fx, icI, icS, icB, icN, icL, implies_true, evBuildSlice, fillE, fillA, here, plain, laid, evOp, avOf, avCell, strOf, evBin, evInt, evStr, evUn, evResults, evResultsL, AV.isUndef, AV.cells, Heap.store, wbool_off, after_scope, Nat.reduceMul, Nat.reducePow, Nat.reduceSub, Nat.reduceBEq, UInt8.reduceToNat, Nat.reduceEqDiff, Nat.reduceLT, reduceCtorEq, Nat.reduceAdd, Nat.reduceLeDiff, splice, hF.at, hF.hp, q1, q2, q3, q4, q5, q6, q7, q8, q9, q10, q11, q12, q13, q14, ca0, ca1, ca2, ca3, ca4, cp0, cp1, cp2, cp3, cp4, cp5, cp6, cp7, cp8, cp9]
    refine hK _ zv _ ⟨sq, nn, nm, ky, [p0, p1, p2, p3, p4, p5, p6, p7, p8, p9], rfl, hnm, hky, ⟨1, vr_zv _⟩, ho.up ?_⟩ (hF.hpU _) (hF.hpF _)
    all_goals exact hF.hpU _
  · have q1 : ((11 : Int) == 1) = false := by decide
    have q2 : ((11 : Int) == 2) = false := by decide
    have q3 : ((11 : Int) == 3) = false := by decide
    have q4 : ((11 : Int) == 4) = false := by decide
    have q5 : ((11 : Int) == 5) = false := by decide
    have q6 : ((11 : Int) == 6) = false := by decide
    have q7 : ((11 : Int) == 7) = false := by decide
    have q8 : ((11 : Int) == 8) = false := by decide
    have q9 : ((11 : Int) == 9) = false := by decide
    have q10 : ((11 : Int) == 10) = false := by decide
    have q11 : ((11 : Int) == 11) = true := by decide
    have q12 : ((11 : Int) == 12) = false := by decide
    have q13 : ((11 : Int) == 13) = false := by decide
    have q14 : ((11 : Int) == 14) = false := by decide
    simp (maxSteps := 1000000) only [sx, fx, icI, icS, icB, icN, icL, implies_true, evBuildSlice, fillE, fillA, here, plain, laid, evOp, avOf, avCell, strOf, evBin, evInt, evStr, evUn, evResults, evResultsL, AV.isUndef, AV.cells, Heap.store, wbool_off, after_scope, Nat.reduceMul, Nat.reducePow, Nat.reduceSub, Nat.reduceBEq, UInt8.reduceToNat, Nat.reduceEqDiff, Nat.reduceLT, reduceCtorEq, Nat.reduceAdd, Nat.reduceLeDiff, splice, hF.at, hF.hp, q1, q2, q3, q4, q5, q6, q7, q8, q9, q10, q11, q12, q13, q14, ca0, ca1, ca2, ca3, ca4, cp0, cp1, cp2, cp3, cp4, cp5, cp6, cp7, cp8, cp9]
    refine hK _ zv _ ⟨sq, nn, nm, ky, [p0, p1, p2, p3, p4, p5, p6, p7, p8, p9], rfl, hnm, hky, ⟨1, vr_zv _⟩, ho.up ?_⟩ (hF.hpU _) (hF.hpF _)
    all_goals exact hF.hpU _
  · have q1 : ((12 : Int) == 1) = false := by decide
    have q2 : ((12 : Int) == 2) = false := by decide
    have q3 : ((12 : Int) == 3) = false := by decide
    have q4 : ((12 : Int) == 4) = false := by decide
    have q5 : ((12 : Int) == 5) = false := by decide
    have q6 : ((12 : Int) == 6) = false := by decide
    have q7 : ((12 : Int) == 7) = false := by decide
    have q8 : ((12 : Int) == 8) = false := by decide
    have q9 : ((12 : Int) == 9) = false := by decide
    have q10 : ((12 : Int) == 10) = false := by decide
    have q11 : ((12 : Int) == 11) = false := by decide
    have q12 : ((12 : Int) == 12) = true := by decide
    have q13 : ((12 : Int) == 13) = false := by decide
    have q14 : ((12 : Int) == 14) = false := by decide
    simp (maxSteps := 1000000) only [sx, fx, icI, icS, icB, icN, icL, implies_true, evBuildSlice, fillE, fillA, here, plain, laid, evOp, avOf, avCell, strOf, evBin, evInt, evStr, evUn, evResults, evResultsL, AV.isUndef, AV.cells, Heap.store, wbool_off, after_scope, Nat.reduceMul, Nat.reducePow, Nat.reduceSub, Nat.reduceBEq, UInt8.reduceToNat, Nat.reduceEqDiff, Nat.reduceLT, reduceCtorEq, Nat.reduceAdd, Nat.reduceLeDiff, splice, hF.at, hF.hp, q1, q2, q3, q4, q5, q6, q7, q8, q9, q10, q11, q12, q13, q14, ca0, ca1, ca2, ca3, ca4, cp0, cp1, cp2, cp3, cp4, cp5, cp6, cp7, cp8, cp9]
    refine hK _ zv _ ⟨sq, nn, [], ky, [p0, p1, p2, p3, p4, p5, p6, p7, p8, p9], rfl, by decide, hky, ⟨1, vr_zv _⟩, ho.up ?_⟩ (hF.hpU _) (hF.hpF _)
    all_goals exact hF.hpU _
  · have q1 : ((13 : Int) == 1) = false := by decide
    have q2 : ((13 : Int) == 2) = false := by decide
    have q3 : ((13 : Int) == 3) = false := by decide
    have q4 : ((13 : Int) == 4) = false := by decide
    have q5 : ((13 : Int) == 5) = false := by decide
    have q6 : ((13 : Int) == 6) = false := by decide
    have q7 : ((13 : Int) == 7) = false := by decide
    have q8 : ((13 : Int) == 8) = false := by decide
    have q9 : ((13 : Int) == 9) = false := by decide
    have q10 : ((13 : Int) == 10) = false := by decide
    have q11 : ((13 : Int) == 11) = false := by decide
    have q12 : ((13 : Int) == 12) = false := by decide
    have q13 : ((13 : Int) == 13) = true := by decide
    have q14 : ((13 : Int) == 14) = false := by decide
    simp (maxSteps := 1000000) only [sx, fx, icI, icS, icB, icN, icL, implies_true, evBuildSlice, fillE, fillA, here, plain, laid, evOp, avOf, avCell, strOf, evBin, evInt, evStr, evUn, evResults, evResultsL, AV.isUndef, AV.cells, Heap.store, wbool_off, after_scope, Nat.reduceMul, Nat.reducePow, Nat.reduceSub, Nat.reduceBEq, UInt8.reduceToNat, Nat.reduceEqDiff, Nat.reduceLT, reduceCtorEq, Nat.reduceAdd, Nat.reduceLeDiff, splice, hF.at, hF.hp, q1, q2, q3, q4, q5, q6, q7, q8, q9, q10, q11, q12, q13, q14, ca0, ca1, ca2, ca3, ca4, cp0, cp1, cp2, cp3, cp4, cp5, cp6, cp7, cp8, cp9]
    refine hK _ zv _ ⟨sq, nn, nm, ky, [p0, p1, p2, p3, p4, p5, p6, p7, p8, p9], rfl, hnm, hky, ⟨1, vr_zv _⟩, ho.up ?_⟩ (hF.hpU _) (hF.hpF _)
    all_goals exact hF.hpU _
  · have q1 : ((14 : Int) == 1) = false := by decide
    have q2 : ((14 : Int) == 2) = false := by decide
    have q3 : ((14 : Int) == 3) = false := by decide
    have q4 : ((14 : Int) == 4) = false := by decide
    have q5 : ((14 : Int) == 5) = false := by decide
    have q6 : ((14 : Int) == 6) = false := by decide
    have q7 : ((14 : Int) == 7) = false := by decide
    have q8 : ((14 : Int) == 8) = false := by decide
    have q9 : ((14 : Int) == 9) = false := by decide
    have q10 : ((14 : Int) == 10) = false := by decide
    have q11 : ((14 : Int) == 11) = false := by decide
    have q12 : ((14 : Int) == 12) = false := by decide
    have q13 : ((14 : Int) == 13) = false := by decide
    have q14 : ((14 : Int) == 14) = true := by decide
    simp (maxSteps := 1000000) only [sx, fx, icI, icS, icB, icN, icL, implies_true, evBuildSlice, fillE, fillA, here, plain, laid, evOp, avOf, avCell, strOf, evBin, evInt, evStr, evUn, evResults, evResultsL, AV.isUndef, AV.cells, Heap.store, wbool_off, after_scope, Nat.reduceMul, Nat.reducePow, Nat.reduceSub, Nat.reduceBEq, UInt8.reduceToNat, Nat.reduceEqDiff, Nat.reduceLT, reduceCtorEq, Nat.reduceAdd, Nat.reduceLeDiff, splice, hF.at, hF.hp, q1, q2, q3, q4, q5, q6, q7, q8, q9, q10, q11, q12, q13, q14, ca0, ca1, ca2, ca3, ca4, cp0, cp1, cp2, cp3, cp4, cp5, cp6, cp7, cp8, cp9]
    refine hK _ zv _ ⟨sq, nn, nm, ky, [p0, p1, p2, p3, p4, p5, p6, p7, p8, p9], rfl, hnm, hky, ⟨1, vr_zv _⟩, ho.up ?_⟩ (hF.hpU _) (hF.hpF _)
    all_goals exact hF.hpU _
end Go.Proofs.T
