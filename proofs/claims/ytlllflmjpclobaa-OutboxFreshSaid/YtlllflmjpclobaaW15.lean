import Derived.Test.YtlllflmjpclobaaW14
import Derived.Test.YtlllflmjpclobaaV22
set_option linter.unusedVariables false
set_option linter.unusedSimpArgs false
set_option linter.unusedVariables false
set_option linter.unusedSimpArgs false
set_option maxRecDepth 100000
namespace Go.Proofs.T
open Go.Ev
theorem kind_cases (k : Int) : (k = 2 ∨ k = 3 ∨ k = 4 ∨ k = 5 ∨ k = 6) ∨ (k = 7 ∨ k = 14 ∨ k = 19 ∨ k = 23) ∨ (k = 8 ∨ k = 9 ∨ k = 10 ∨ k = 11 ∨ k = 12 ∨ k = 13) ∨ (k = 15 ∨ k = 16) ∨ (k = 20 ∨ k = 21 ∨ k = 22) ∨ (k = 24 ∨ k = 25) ∨ (k = 27 ∨ k = 28) ∨ (k = 17 ∨ k = 26) ∨ (k = 29) ∨ ((k == 2) = false ∧ (k == 3) = false ∧ (k == 4) = false ∧ (k == 5) = false ∧ (k == 6) = false ∧ (k == 7) = false ∧ (k == 14) = false ∧ (k == 19) = false ∧ (k == 23) = false ∧ (k == 8) = false ∧ (k == 9) = false ∧ (k == 10) = false ∧ (k == 11) = false ∧ (k == 12) = false ∧ (k == 13) = false ∧ (k == 15) = false ∧ (k == 16) = false ∧ (k == 20) = false ∧ (k == 21) = false ∧ (k == 22) = false ∧ (k == 24) = false ∧ (k == 25) = false ∧ (k == 27) = false ∧ (k == 28) = false ∧ (k == 17) = false ∧ (k == 26) = false ∧ (k == 29) = false) := by
  simp only [beq_eq_false_iff_ne, ne_eq]
  omega
theorem closes_false {k : Int} (h : closes k = true) : k ≠ 2 ∧ k ≠ 7 := by
  simp only [closes, Bool.or_eq_true, beq_iff_eq] at h
  omega

set_option maxHeartbeats 16000000 in
theorem f40_ok {H B : Heap} {N : Nat} {p : PS} {e : ES} (hB : Up B H) (hpB : PR B N p) (heB : ER B e) (hN : N ≤ 60) (hfit : EvFit e.k e.d) (hF : Free H) (K : AV → Heap → Prop) (hK : ∀ r H', PRes (hsub H' H B) (N + 1) (Post e) r → Up H H' → Free H' → K r H') : WF Try.prog 40 [.agg p.cells, .agg e.cells] H K := by
  have hp := hpB.up hB
  have he := heB.up hB
  have hpl := hp.len
  have hpc := hp.cells
  have hel := he.len
  have pt : p.cells.take 24 = p.cells := List.take_of_length_le (by omega)
  have et : e.cells.take 24 = e.cells := List.take_of_length_le (by omega)
  have e1 : (e.cells.drop 1).take 1 = [.int .i64 e.k] := rfl
  refine WF_body Try.func40 (by kernel_rfl) rfl Try.ntmps40 (by rw [Try.results40]) (of_decide_eq_true (by kernel_rfl)) ?_
  simp (maxSteps := 1000000) only [sx, fx, ux, implies_true, evBuildSlice, fillE, fillA, here, plain, laid, evOp, avOf, avCell, strOf, evBin, evInt, evStr, evUn, evResults, evResultsL, Heap.store, wbool_off, after_scope, Nat.reduceMul, Nat.reducePow, Nat.reduceSub, Nat.reduceBEq, UInt8.reduceToNat, Nat.reduceEqDiff, Nat.reduceLT, reduceCtorEq, Nat.reduceAdd, Nat.reduceLeDiff, hF.at, hF.hp, hpl, hel, e1]
  refine callStep (f45_ok _ _ _ fun st => ?_)
  have hs33p : splice z33 0 p.cells = p.cells := by simp [splice, z33, hpl]
  cases hcl : closes e.k with
  | true =>
    obtain ⟨n2, n7⟩ := closes_false hcl
    have hset : (((p.cells.set 1 (.int .i64 st)).set 2 (.int .i64 0)).set 3 (.int .i64 0)).set 4 (.int .i64 0) = (PS.cells { p with nx := p.nx, st := st, tk := 0, ti := 0, att := 0, cn := p.cn }) := rfl
    have hq := hp.chg p.nx st 0 0 0 p.cn
    have hqB := hpB.chg p.nx st 0 0 0 p.cn
    generalize ({ p with nx := p.nx, st := st, tk := 0, ti := 0, att := 0, cn := p.cn } : PS) = q at *
    have ql := hq.len
    have qc := hq.cells
    have qt : q.cells.take 24 = q.cells := List.take_of_length_le (by omega)
    have hs33 : splice z33 0 q.cells = q.cells := by simp [splice, z33, ql]
    unfold z33 at hs33
    simp (maxSteps := 1000000) only [sx, fx, ux, implies_true, evBuildSlice, fillE, fillA, here, plain, laid, evOp, avOf, avCell, strOf, evBin, evInt, evStr, evUn, evResults, evResultsL, Heap.store, wbool_off, after_scope, Nat.reduceMul, Nat.reducePow, Nat.reduceSub, Nat.reduceBEq, UInt8.reduceToNat, Nat.reduceEqDiff, Nat.reduceLT, reduceCtorEq, Nat.reduceAdd, Nat.reduceLeDiff, hF.at, hF.hp, hpl, hset, ql, qc, qt, hs33]
    exact hK _ _ (PRes.ok ((hqB.mono (Nat.le_succ N)).up (sub_up hB (hF.hpU _))) ⟨fun h => absurd h n2, fun h => absurd h n7⟩) (hF.hpU _) (hF.hpF _)
  | false =>
  generalize hH1 : HP H _ = H1
  have g0 : H1.blk H.next = some (.row 33 24 [p.cells] 0 0) := by rw [← hH1, hp_blk0]; rfl
  have g1 : H1.blk (H.next + 1) = some (.row 63 24 [e.cells] 0 0) := by rw [← hH1, hp_blk]; rfl
  have g2 : H1.blk (H.next + 2) = some (.row 33 24 [z33] 0 0) := by rw [← hH1, hp_blk]; rfl
  have hF1 : Free H1 := hH1 ▸ hF.hpF _
  have hU1 : Up H H1 := hH1 ▸ hF.hpU _
  have hBn : B.blk (H.next + 2) = none := by
    cases hx : B.blk (H.next + 2) with
    | none => rfl
    | some z => have := hF.lt (hB _ _ hx); omega
  rcases kind_cases e.k with (hk | hk | hk | hk | hk) | (hk | hk | hk | hk) | (hk | hk | hk | hk | hk | hk) | (hk | hk) | (hk | hk | hk) | (hk | hk) | (hk | hk) | (hk | hk) | (hk) | ⟨n2, n3, n4, n5, n6, n7, n14, n19, n23, n8, n9, n10, n11, n12, n13, n15, n16, n20, n21, n22, n24, n25, n27, n28, n17, n26, n29⟩
  · simp (maxSteps := 1000000) only [sx, fx, ux, implies_true, evBuildSlice, fillE, fillA, here, plain, laid, evOp, avOf, avCell, strOf, evBin, evInt, evStr, evUn, evResults, evResultsL, Heap.store, wbool_off, after_scope, Nat.reduceMul, Nat.reducePow, Nat.reduceSub, Nat.reduceBEq, UInt8.reduceToNat, Nat.reduceEqDiff, Nat.reduceLT, reduceCtorEq, Nat.reduceAdd, Nat.reduceLeDiff, Int.reduceBEq, e1, hk, g0, g1, pt, et, hpl, hel]
    refine callStep (f55_ok (B := B) (hB.trans hU1) hpB heB hN (by rw [hk]; decide) hF1 _ fun r H4 hr hU4 hF4 => ?_)
    obtain ⟨cs, er, rfl, cl, cc, cp⟩ := hr
    have c2 := hU4 _ _ g2
    have cs24 : cs.take 24 = cs := List.take_of_length_le (by omega)
    have hs33 : splice z33 0 cs = cs := by simp [splice, z33, cl]
    unfold z33 at c2 hs33
    have hset := fun y => sub_set (K := H4) (B := B) hU1 (by rw [g2]; simp) hBn y
    simp (maxSteps := 1000000) only [sx, fx, ux, implies_true, evBuildSlice, fillE, fillA, here, plain, laid, evOp, avOf, avCell, strOf, evBin, evInt, evStr, evUn, evResults, evResultsL, Heap.store, wbool_off, after_scope, Nat.reduceMul, Nat.reducePow, Nat.reduceSub, Nat.reduceBEq, UInt8.reduceToNat, Nat.reduceEqDiff, Nat.reduceLT, reduceCtorEq, Nat.reduceAdd, Nat.reduceLeDiff, c2, cl, cc, cs24, hs33]
    exact hK _ _ ⟨cs, er, rfl, cl, cc, fun h0 => by
      obtain ⟨p', e', hp', q⟩ := cp h0
      exact ⟨p', e', hp'.up (hset _), q⟩⟩ ((hU1.trans hU4).set (hF _ (by omega)) _) (hF4.set (hF4.lt c2) _)
  · simp (maxSteps := 1000000) only [sx, fx, ux, implies_true, evBuildSlice, fillE, fillA, here, plain, laid, evOp, avOf, avCell, strOf, evBin, evInt, evStr, evUn, evResults, evResultsL, Heap.store, wbool_off, after_scope, Nat.reduceMul, Nat.reducePow, Nat.reduceSub, Nat.reduceBEq, UInt8.reduceToNat, Nat.reduceEqDiff, Nat.reduceLT, reduceCtorEq, Nat.reduceAdd, Nat.reduceLeDiff, Int.reduceBEq, e1, hk, g0, g1, pt, et, hpl, hel]
    refine callStep (f55_ok (B := B) (hB.trans hU1) hpB heB hN (by rw [hk]; decide) hF1 _ fun r H4 hr hU4 hF4 => ?_)
    obtain ⟨cs, er, rfl, cl, cc, cp⟩ := hr
    have c2 := hU4 _ _ g2
    have cs24 : cs.take 24 = cs := List.take_of_length_le (by omega)
    have hs33 : splice z33 0 cs = cs := by simp [splice, z33, cl]
    unfold z33 at c2 hs33
    have hset := fun y => sub_set (K := H4) (B := B) hU1 (by rw [g2]; simp) hBn y
    simp (maxSteps := 1000000) only [sx, fx, ux, implies_true, evBuildSlice, fillE, fillA, here, plain, laid, evOp, avOf, avCell, strOf, evBin, evInt, evStr, evUn, evResults, evResultsL, Heap.store, wbool_off, after_scope, Nat.reduceMul, Nat.reducePow, Nat.reduceSub, Nat.reduceBEq, UInt8.reduceToNat, Nat.reduceEqDiff, Nat.reduceLT, reduceCtorEq, Nat.reduceAdd, Nat.reduceLeDiff, c2, cl, cc, cs24, hs33]
    exact hK _ _ ⟨cs, er, rfl, cl, cc, fun h0 => by
      obtain ⟨p', e', hp', q⟩ := cp h0
      exact ⟨p', e', hp'.up (hset _), q⟩⟩ ((hU1.trans hU4).set (hF _ (by omega)) _) (hF4.set (hF4.lt c2) _)
  · simp (maxSteps := 1000000) only [sx, fx, ux, implies_true, evBuildSlice, fillE, fillA, here, plain, laid, evOp, avOf, avCell, strOf, evBin, evInt, evStr, evUn, evResults, evResultsL, Heap.store, wbool_off, after_scope, Nat.reduceMul, Nat.reducePow, Nat.reduceSub, Nat.reduceBEq, UInt8.reduceToNat, Nat.reduceEqDiff, Nat.reduceLT, reduceCtorEq, Nat.reduceAdd, Nat.reduceLeDiff, Int.reduceBEq, e1, hk, g0, g1, pt, et, hpl, hel]
    refine callStep (f55_ok (B := B) (hB.trans hU1) hpB heB hN (by rw [hk]; decide) hF1 _ fun r H4 hr hU4 hF4 => ?_)
    obtain ⟨cs, er, rfl, cl, cc, cp⟩ := hr
    have c2 := hU4 _ _ g2
    have cs24 : cs.take 24 = cs := List.take_of_length_le (by omega)
    have hs33 : splice z33 0 cs = cs := by simp [splice, z33, cl]
    unfold z33 at c2 hs33
    have hset := fun y => sub_set (K := H4) (B := B) hU1 (by rw [g2]; simp) hBn y
    simp (maxSteps := 1000000) only [sx, fx, ux, implies_true, evBuildSlice, fillE, fillA, here, plain, laid, evOp, avOf, avCell, strOf, evBin, evInt, evStr, evUn, evResults, evResultsL, Heap.store, wbool_off, after_scope, Nat.reduceMul, Nat.reducePow, Nat.reduceSub, Nat.reduceBEq, UInt8.reduceToNat, Nat.reduceEqDiff, Nat.reduceLT, reduceCtorEq, Nat.reduceAdd, Nat.reduceLeDiff, c2, cl, cc, cs24, hs33]
    exact hK _ _ ⟨cs, er, rfl, cl, cc, fun h0 => by
      obtain ⟨p', e', hp', q⟩ := cp h0
      exact ⟨p', e', hp'.up (hset _), q⟩⟩ ((hU1.trans hU4).set (hF _ (by omega)) _) (hF4.set (hF4.lt c2) _)
  · simp (maxSteps := 1000000) only [sx, fx, ux, implies_true, evBuildSlice, fillE, fillA, here, plain, laid, evOp, avOf, avCell, strOf, evBin, evInt, evStr, evUn, evResults, evResultsL, Heap.store, wbool_off, after_scope, Nat.reduceMul, Nat.reducePow, Nat.reduceSub, Nat.reduceBEq, UInt8.reduceToNat, Nat.reduceEqDiff, Nat.reduceLT, reduceCtorEq, Nat.reduceAdd, Nat.reduceLeDiff, Int.reduceBEq, e1, hk, g0, g1, pt, et, hpl, hel]
    refine callStep (f55_ok (B := B) (hB.trans hU1) hpB heB hN (by rw [hk]; decide) hF1 _ fun r H4 hr hU4 hF4 => ?_)
    obtain ⟨cs, er, rfl, cl, cc, cp⟩ := hr
    have c2 := hU4 _ _ g2
    have cs24 : cs.take 24 = cs := List.take_of_length_le (by omega)
    have hs33 : splice z33 0 cs = cs := by simp [splice, z33, cl]
    unfold z33 at c2 hs33
    have hset := fun y => sub_set (K := H4) (B := B) hU1 (by rw [g2]; simp) hBn y
    simp (maxSteps := 1000000) only [sx, fx, ux, implies_true, evBuildSlice, fillE, fillA, here, plain, laid, evOp, avOf, avCell, strOf, evBin, evInt, evStr, evUn, evResults, evResultsL, Heap.store, wbool_off, after_scope, Nat.reduceMul, Nat.reducePow, Nat.reduceSub, Nat.reduceBEq, UInt8.reduceToNat, Nat.reduceEqDiff, Nat.reduceLT, reduceCtorEq, Nat.reduceAdd, Nat.reduceLeDiff, c2, cl, cc, cs24, hs33]
    exact hK _ _ ⟨cs, er, rfl, cl, cc, fun h0 => by
      obtain ⟨p', e', hp', q⟩ := cp h0
      exact ⟨p', e', hp'.up (hset _), q⟩⟩ ((hU1.trans hU4).set (hF _ (by omega)) _) (hF4.set (hF4.lt c2) _)
  · simp (maxSteps := 1000000) only [sx, fx, ux, implies_true, evBuildSlice, fillE, fillA, here, plain, laid, evOp, avOf, avCell, strOf, evBin, evInt, evStr, evUn, evResults, evResultsL, Heap.store, wbool_off, after_scope, Nat.reduceMul, Nat.reducePow, Nat.reduceSub, Nat.reduceBEq, UInt8.reduceToNat, Nat.reduceEqDiff, Nat.reduceLT, reduceCtorEq, Nat.reduceAdd, Nat.reduceLeDiff, Int.reduceBEq, e1, hk, g0, g1, pt, et, hpl, hel]
    refine callStep (f55_ok (B := B) (hB.trans hU1) hpB heB hN (by rw [hk]; decide) hF1 _ fun r H4 hr hU4 hF4 => ?_)
    obtain ⟨cs, er, rfl, cl, cc, cp⟩ := hr
    have c2 := hU4 _ _ g2
    have cs24 : cs.take 24 = cs := List.take_of_length_le (by omega)
    have hs33 : splice z33 0 cs = cs := by simp [splice, z33, cl]
    unfold z33 at c2 hs33
    have hset := fun y => sub_set (K := H4) (B := B) hU1 (by rw [g2]; simp) hBn y
    simp (maxSteps := 1000000) only [sx, fx, ux, implies_true, evBuildSlice, fillE, fillA, here, plain, laid, evOp, avOf, avCell, strOf, evBin, evInt, evStr, evUn, evResults, evResultsL, Heap.store, wbool_off, after_scope, Nat.reduceMul, Nat.reducePow, Nat.reduceSub, Nat.reduceBEq, UInt8.reduceToNat, Nat.reduceEqDiff, Nat.reduceLT, reduceCtorEq, Nat.reduceAdd, Nat.reduceLeDiff, c2, cl, cc, cs24, hs33]
    exact hK _ _ ⟨cs, er, rfl, cl, cc, fun h0 => by
      obtain ⟨p', e', hp', q⟩ := cp h0
      exact ⟨p', e', hp'.up (hset _), q⟩⟩ ((hU1.trans hU4).set (hF _ (by omega)) _) (hF4.set (hF4.lt c2) _)
  · simp (maxSteps := 1000000) only [sx, fx, ux, implies_true, evBuildSlice, fillE, fillA, here, plain, laid, evOp, avOf, avCell, strOf, evBin, evInt, evStr, evUn, evResults, evResultsL, Heap.store, wbool_off, after_scope, Nat.reduceMul, Nat.reducePow, Nat.reduceSub, Nat.reduceBEq, UInt8.reduceToNat, Nat.reduceEqDiff, Nat.reduceLT, reduceCtorEq, Nat.reduceAdd, Nat.reduceLeDiff, Int.reduceBEq, e1, hk, g0, g1, pt, et, hpl, hel]
    refine callStep (f56_ok (B := B) (hB.trans hU1) hpB heB hN (by rw [hk]; decide) hF1 _ fun r H4 hr hU4 hF4 => ?_)
    obtain ⟨cs, er, rfl, cl, cc, cp⟩ := hr
    have c2 := hU4 _ _ g2
    have cs24 : cs.take 24 = cs := List.take_of_length_le (by omega)
    have hs33 : splice z33 0 cs = cs := by simp [splice, z33, cl]
    unfold z33 at c2 hs33
    have hset := fun y => sub_set (K := H4) (B := B) hU1 (by rw [g2]; simp) hBn y
    simp (maxSteps := 1000000) only [sx, fx, ux, implies_true, evBuildSlice, fillE, fillA, here, plain, laid, evOp, avOf, avCell, strOf, evBin, evInt, evStr, evUn, evResults, evResultsL, Heap.store, wbool_off, after_scope, Nat.reduceMul, Nat.reducePow, Nat.reduceSub, Nat.reduceBEq, UInt8.reduceToNat, Nat.reduceEqDiff, Nat.reduceLT, reduceCtorEq, Nat.reduceAdd, Nat.reduceLeDiff, c2, cl, cc, cs24, hs33]
    exact hK _ _ ⟨cs, er, rfl, cl, cc, fun h0 => by
      obtain ⟨p', e', hp', q⟩ := cp h0
      exact ⟨p', e', hp'.up (hset _), q⟩⟩ ((hU1.trans hU4).set (hF _ (by omega)) _) (hF4.set (hF4.lt c2) _)
  · simp (maxSteps := 1000000) only [sx, fx, ux, implies_true, evBuildSlice, fillE, fillA, here, plain, laid, evOp, avOf, avCell, strOf, evBin, evInt, evStr, evUn, evResults, evResultsL, Heap.store, wbool_off, after_scope, Nat.reduceMul, Nat.reducePow, Nat.reduceSub, Nat.reduceBEq, UInt8.reduceToNat, Nat.reduceEqDiff, Nat.reduceLT, reduceCtorEq, Nat.reduceAdd, Nat.reduceLeDiff, Int.reduceBEq, e1, hk, g0, g1, pt, et, hpl, hel]
    refine callStep (f56_ok (B := B) (hB.trans hU1) hpB heB hN (by rw [hk]; decide) hF1 _ fun r H4 hr hU4 hF4 => ?_)
    obtain ⟨cs, er, rfl, cl, cc, cp⟩ := hr
    have c2 := hU4 _ _ g2
    have cs24 : cs.take 24 = cs := List.take_of_length_le (by omega)
    have hs33 : splice z33 0 cs = cs := by simp [splice, z33, cl]
    unfold z33 at c2 hs33
    have hset := fun y => sub_set (K := H4) (B := B) hU1 (by rw [g2]; simp) hBn y
    simp (maxSteps := 1000000) only [sx, fx, ux, implies_true, evBuildSlice, fillE, fillA, here, plain, laid, evOp, avOf, avCell, strOf, evBin, evInt, evStr, evUn, evResults, evResultsL, Heap.store, wbool_off, after_scope, Nat.reduceMul, Nat.reducePow, Nat.reduceSub, Nat.reduceBEq, UInt8.reduceToNat, Nat.reduceEqDiff, Nat.reduceLT, reduceCtorEq, Nat.reduceAdd, Nat.reduceLeDiff, c2, cl, cc, cs24, hs33]
    exact hK _ _ ⟨cs, er, rfl, cl, cc, fun h0 => by
      obtain ⟨p', e', hp', q⟩ := cp h0
      exact ⟨p', e', hp'.up (hset _), q⟩⟩ ((hU1.trans hU4).set (hF _ (by omega)) _) (hF4.set (hF4.lt c2) _)
  · simp (maxSteps := 1000000) only [sx, fx, ux, implies_true, evBuildSlice, fillE, fillA, here, plain, laid, evOp, avOf, avCell, strOf, evBin, evInt, evStr, evUn, evResults, evResultsL, Heap.store, wbool_off, after_scope, Nat.reduceMul, Nat.reducePow, Nat.reduceSub, Nat.reduceBEq, UInt8.reduceToNat, Nat.reduceEqDiff, Nat.reduceLT, reduceCtorEq, Nat.reduceAdd, Nat.reduceLeDiff, Int.reduceBEq, e1, hk, g0, g1, pt, et, hpl, hel]
    refine callStep (f56_ok (B := B) (hB.trans hU1) hpB heB hN (by rw [hk]; decide) hF1 _ fun r H4 hr hU4 hF4 => ?_)
    obtain ⟨cs, er, rfl, cl, cc, cp⟩ := hr
    have c2 := hU4 _ _ g2
    have cs24 : cs.take 24 = cs := List.take_of_length_le (by omega)
    have hs33 : splice z33 0 cs = cs := by simp [splice, z33, cl]
    unfold z33 at c2 hs33
    have hset := fun y => sub_set (K := H4) (B := B) hU1 (by rw [g2]; simp) hBn y
    simp (maxSteps := 1000000) only [sx, fx, ux, implies_true, evBuildSlice, fillE, fillA, here, plain, laid, evOp, avOf, avCell, strOf, evBin, evInt, evStr, evUn, evResults, evResultsL, Heap.store, wbool_off, after_scope, Nat.reduceMul, Nat.reducePow, Nat.reduceSub, Nat.reduceBEq, UInt8.reduceToNat, Nat.reduceEqDiff, Nat.reduceLT, reduceCtorEq, Nat.reduceAdd, Nat.reduceLeDiff, c2, cl, cc, cs24, hs33]
    exact hK _ _ ⟨cs, er, rfl, cl, cc, fun h0 => by
      obtain ⟨p', e', hp', q⟩ := cp h0
      exact ⟨p', e', hp'.up (hset _), q⟩⟩ ((hU1.trans hU4).set (hF _ (by omega)) _) (hF4.set (hF4.lt c2) _)
  · simp (maxSteps := 1000000) only [sx, fx, ux, implies_true, evBuildSlice, fillE, fillA, here, plain, laid, evOp, avOf, avCell, strOf, evBin, evInt, evStr, evUn, evResults, evResultsL, Heap.store, wbool_off, after_scope, Nat.reduceMul, Nat.reducePow, Nat.reduceSub, Nat.reduceBEq, UInt8.reduceToNat, Nat.reduceEqDiff, Nat.reduceLT, reduceCtorEq, Nat.reduceAdd, Nat.reduceLeDiff, Int.reduceBEq, e1, hk, g0, g1, pt, et, hpl, hel]
    refine callStep (f56_ok (B := B) (hB.trans hU1) hpB heB hN (by rw [hk]; decide) hF1 _ fun r H4 hr hU4 hF4 => ?_)
    obtain ⟨cs, er, rfl, cl, cc, cp⟩ := hr
    have c2 := hU4 _ _ g2
    have cs24 : cs.take 24 = cs := List.take_of_length_le (by omega)
    have hs33 : splice z33 0 cs = cs := by simp [splice, z33, cl]
    unfold z33 at c2 hs33
    have hset := fun y => sub_set (K := H4) (B := B) hU1 (by rw [g2]; simp) hBn y
    simp (maxSteps := 1000000) only [sx, fx, ux, implies_true, evBuildSlice, fillE, fillA, here, plain, laid, evOp, avOf, avCell, strOf, evBin, evInt, evStr, evUn, evResults, evResultsL, Heap.store, wbool_off, after_scope, Nat.reduceMul, Nat.reducePow, Nat.reduceSub, Nat.reduceBEq, UInt8.reduceToNat, Nat.reduceEqDiff, Nat.reduceLT, reduceCtorEq, Nat.reduceAdd, Nat.reduceLeDiff, c2, cl, cc, cs24, hs33]
    exact hK _ _ ⟨cs, er, rfl, cl, cc, fun h0 => by
      obtain ⟨p', e', hp', q⟩ := cp h0
      exact ⟨p', e', hp'.up (hset _), q⟩⟩ ((hU1.trans hU4).set (hF _ (by omega)) _) (hF4.set (hF4.lt c2) _)
  · simp (maxSteps := 1000000) only [sx, fx, ux, implies_true, evBuildSlice, fillE, fillA, here, plain, laid, evOp, avOf, avCell, strOf, evBin, evInt, evStr, evUn, evResults, evResultsL, Heap.store, wbool_off, after_scope, Nat.reduceMul, Nat.reducePow, Nat.reduceSub, Nat.reduceBEq, UInt8.reduceToNat, Nat.reduceEqDiff, Nat.reduceLT, reduceCtorEq, Nat.reduceAdd, Nat.reduceLeDiff, Int.reduceBEq, e1, hk, g0, g1, pt, et, hpl, hel]
    refine callStep (f57_ok (B := B) (hB.trans hU1) hpB heB hN (by rw [hk]; decide) (by rw [hk]; decide) hF1 _ fun r H4 hr hU4 hF4 => ?_)
    obtain ⟨cs, er, rfl, cl, cc, cp⟩ := hr
    have c2 := hU4 _ _ g2
    have cs24 : cs.take 24 = cs := List.take_of_length_le (by omega)
    have hs33 : splice z33 0 cs = cs := by simp [splice, z33, cl]
    unfold z33 at c2 hs33
    have hset := fun y => sub_set (K := H4) (B := B) hU1 (by rw [g2]; simp) hBn y
    simp (maxSteps := 1000000) only [sx, fx, ux, implies_true, evBuildSlice, fillE, fillA, here, plain, laid, evOp, avOf, avCell, strOf, evBin, evInt, evStr, evUn, evResults, evResultsL, Heap.store, wbool_off, after_scope, Nat.reduceMul, Nat.reducePow, Nat.reduceSub, Nat.reduceBEq, UInt8.reduceToNat, Nat.reduceEqDiff, Nat.reduceLT, reduceCtorEq, Nat.reduceAdd, Nat.reduceLeDiff, c2, cl, cc, cs24, hs33]
    exact hK _ _ ⟨cs, er, rfl, cl, cc, fun h0 => by
      obtain ⟨p', e', hp', q⟩ := cp h0
      exact ⟨p', e', hp'.up (hset _), q⟩⟩ ((hU1.trans hU4).set (hF _ (by omega)) _) (hF4.set (hF4.lt c2) _)
  · simp (maxSteps := 1000000) only [sx, fx, ux, implies_true, evBuildSlice, fillE, fillA, here, plain, laid, evOp, avOf, avCell, strOf, evBin, evInt, evStr, evUn, evResults, evResultsL, Heap.store, wbool_off, after_scope, Nat.reduceMul, Nat.reducePow, Nat.reduceSub, Nat.reduceBEq, UInt8.reduceToNat, Nat.reduceEqDiff, Nat.reduceLT, reduceCtorEq, Nat.reduceAdd, Nat.reduceLeDiff, Int.reduceBEq, e1, hk, g0, g1, pt, et, hpl, hel]
    refine callStep (f57_ok (B := B) (hB.trans hU1) hpB heB hN (by rw [hk]; decide) (by rw [hk]; decide) hF1 _ fun r H4 hr hU4 hF4 => ?_)
    obtain ⟨cs, er, rfl, cl, cc, cp⟩ := hr
    have c2 := hU4 _ _ g2
    have cs24 : cs.take 24 = cs := List.take_of_length_le (by omega)
    have hs33 : splice z33 0 cs = cs := by simp [splice, z33, cl]
    unfold z33 at c2 hs33
    have hset := fun y => sub_set (K := H4) (B := B) hU1 (by rw [g2]; simp) hBn y
    simp (maxSteps := 1000000) only [sx, fx, ux, implies_true, evBuildSlice, fillE, fillA, here, plain, laid, evOp, avOf, avCell, strOf, evBin, evInt, evStr, evUn, evResults, evResultsL, Heap.store, wbool_off, after_scope, Nat.reduceMul, Nat.reducePow, Nat.reduceSub, Nat.reduceBEq, UInt8.reduceToNat, Nat.reduceEqDiff, Nat.reduceLT, reduceCtorEq, Nat.reduceAdd, Nat.reduceLeDiff, c2, cl, cc, cs24, hs33]
    exact hK _ _ ⟨cs, er, rfl, cl, cc, fun h0 => by
      obtain ⟨p', e', hp', q⟩ := cp h0
      exact ⟨p', e', hp'.up (hset _), q⟩⟩ ((hU1.trans hU4).set (hF _ (by omega)) _) (hF4.set (hF4.lt c2) _)
  · simp (maxSteps := 1000000) only [sx, fx, ux, implies_true, evBuildSlice, fillE, fillA, here, plain, laid, evOp, avOf, avCell, strOf, evBin, evInt, evStr, evUn, evResults, evResultsL, Heap.store, wbool_off, after_scope, Nat.reduceMul, Nat.reducePow, Nat.reduceSub, Nat.reduceBEq, UInt8.reduceToNat, Nat.reduceEqDiff, Nat.reduceLT, reduceCtorEq, Nat.reduceAdd, Nat.reduceLeDiff, Int.reduceBEq, e1, hk, g0, g1, pt, et, hpl, hel]
    refine callStep (f57_ok (B := B) (hB.trans hU1) hpB heB hN (by rw [hk]; decide) (by rw [hk]; decide) hF1 _ fun r H4 hr hU4 hF4 => ?_)
    obtain ⟨cs, er, rfl, cl, cc, cp⟩ := hr
    have c2 := hU4 _ _ g2
    have cs24 : cs.take 24 = cs := List.take_of_length_le (by omega)
    have hs33 : splice z33 0 cs = cs := by simp [splice, z33, cl]
    unfold z33 at c2 hs33
    have hset := fun y => sub_set (K := H4) (B := B) hU1 (by rw [g2]; simp) hBn y
    simp (maxSteps := 1000000) only [sx, fx, ux, implies_true, evBuildSlice, fillE, fillA, here, plain, laid, evOp, avOf, avCell, strOf, evBin, evInt, evStr, evUn, evResults, evResultsL, Heap.store, wbool_off, after_scope, Nat.reduceMul, Nat.reducePow, Nat.reduceSub, Nat.reduceBEq, UInt8.reduceToNat, Nat.reduceEqDiff, Nat.reduceLT, reduceCtorEq, Nat.reduceAdd, Nat.reduceLeDiff, c2, cl, cc, cs24, hs33]
    exact hK _ _ ⟨cs, er, rfl, cl, cc, fun h0 => by
      obtain ⟨p', e', hp', q⟩ := cp h0
      exact ⟨p', e', hp'.up (hset _), q⟩⟩ ((hU1.trans hU4).set (hF _ (by omega)) _) (hF4.set (hF4.lt c2) _)
  · simp (maxSteps := 1000000) only [sx, fx, ux, implies_true, evBuildSlice, fillE, fillA, here, plain, laid, evOp, avOf, avCell, strOf, evBin, evInt, evStr, evUn, evResults, evResultsL, Heap.store, wbool_off, after_scope, Nat.reduceMul, Nat.reducePow, Nat.reduceSub, Nat.reduceBEq, UInt8.reduceToNat, Nat.reduceEqDiff, Nat.reduceLT, reduceCtorEq, Nat.reduceAdd, Nat.reduceLeDiff, Int.reduceBEq, e1, hk, g0, g1, pt, et, hpl, hel]
    refine callStep (f57_ok (B := B) (hB.trans hU1) hpB heB hN (by rw [hk]; decide) (by rw [hk]; decide) hF1 _ fun r H4 hr hU4 hF4 => ?_)
    obtain ⟨cs, er, rfl, cl, cc, cp⟩ := hr
    have c2 := hU4 _ _ g2
    have cs24 : cs.take 24 = cs := List.take_of_length_le (by omega)
    have hs33 : splice z33 0 cs = cs := by simp [splice, z33, cl]
    unfold z33 at c2 hs33
    have hset := fun y => sub_set (K := H4) (B := B) hU1 (by rw [g2]; simp) hBn y
    simp (maxSteps := 1000000) only [sx, fx, ux, implies_true, evBuildSlice, fillE, fillA, here, plain, laid, evOp, avOf, avCell, strOf, evBin, evInt, evStr, evUn, evResults, evResultsL, Heap.store, wbool_off, after_scope, Nat.reduceMul, Nat.reducePow, Nat.reduceSub, Nat.reduceBEq, UInt8.reduceToNat, Nat.reduceEqDiff, Nat.reduceLT, reduceCtorEq, Nat.reduceAdd, Nat.reduceLeDiff, c2, cl, cc, cs24, hs33]
    exact hK _ _ ⟨cs, er, rfl, cl, cc, fun h0 => by
      obtain ⟨p', e', hp', q⟩ := cp h0
      exact ⟨p', e', hp'.up (hset _), q⟩⟩ ((hU1.trans hU4).set (hF _ (by omega)) _) (hF4.set (hF4.lt c2) _)
  · simp (maxSteps := 1000000) only [sx, fx, ux, implies_true, evBuildSlice, fillE, fillA, here, plain, laid, evOp, avOf, avCell, strOf, evBin, evInt, evStr, evUn, evResults, evResultsL, Heap.store, wbool_off, after_scope, Nat.reduceMul, Nat.reducePow, Nat.reduceSub, Nat.reduceBEq, UInt8.reduceToNat, Nat.reduceEqDiff, Nat.reduceLT, reduceCtorEq, Nat.reduceAdd, Nat.reduceLeDiff, Int.reduceBEq, e1, hk, g0, g1, pt, et, hpl, hel]
    refine callStep (f57_ok (B := B) (hB.trans hU1) hpB heB hN (by rw [hk]; decide) (by rw [hk]; decide) hF1 _ fun r H4 hr hU4 hF4 => ?_)
    obtain ⟨cs, er, rfl, cl, cc, cp⟩ := hr
    have c2 := hU4 _ _ g2
    have cs24 : cs.take 24 = cs := List.take_of_length_le (by omega)
    have hs33 : splice z33 0 cs = cs := by simp [splice, z33, cl]
    unfold z33 at c2 hs33
    have hset := fun y => sub_set (K := H4) (B := B) hU1 (by rw [g2]; simp) hBn y
    simp (maxSteps := 1000000) only [sx, fx, ux, implies_true, evBuildSlice, fillE, fillA, here, plain, laid, evOp, avOf, avCell, strOf, evBin, evInt, evStr, evUn, evResults, evResultsL, Heap.store, wbool_off, after_scope, Nat.reduceMul, Nat.reducePow, Nat.reduceSub, Nat.reduceBEq, UInt8.reduceToNat, Nat.reduceEqDiff, Nat.reduceLT, reduceCtorEq, Nat.reduceAdd, Nat.reduceLeDiff, c2, cl, cc, cs24, hs33]
    exact hK _ _ ⟨cs, er, rfl, cl, cc, fun h0 => by
      obtain ⟨p', e', hp', q⟩ := cp h0
      exact ⟨p', e', hp'.up (hset _), q⟩⟩ ((hU1.trans hU4).set (hF _ (by omega)) _) (hF4.set (hF4.lt c2) _)
  · simp (maxSteps := 1000000) only [sx, fx, ux, implies_true, evBuildSlice, fillE, fillA, here, plain, laid, evOp, avOf, avCell, strOf, evBin, evInt, evStr, evUn, evResults, evResultsL, Heap.store, wbool_off, after_scope, Nat.reduceMul, Nat.reducePow, Nat.reduceSub, Nat.reduceBEq, UInt8.reduceToNat, Nat.reduceEqDiff, Nat.reduceLT, reduceCtorEq, Nat.reduceAdd, Nat.reduceLeDiff, Int.reduceBEq, e1, hk, g0, g1, pt, et, hpl, hel]
    refine callStep (f57_ok (B := B) (hB.trans hU1) hpB heB hN (by rw [hk]; decide) (by rw [hk]; decide) hF1 _ fun r H4 hr hU4 hF4 => ?_)
    obtain ⟨cs, er, rfl, cl, cc, cp⟩ := hr
    have c2 := hU4 _ _ g2
    have cs24 : cs.take 24 = cs := List.take_of_length_le (by omega)
    have hs33 : splice z33 0 cs = cs := by simp [splice, z33, cl]
    unfold z33 at c2 hs33
    have hset := fun y => sub_set (K := H4) (B := B) hU1 (by rw [g2]; simp) hBn y
    simp (maxSteps := 1000000) only [sx, fx, ux, implies_true, evBuildSlice, fillE, fillA, here, plain, laid, evOp, avOf, avCell, strOf, evBin, evInt, evStr, evUn, evResults, evResultsL, Heap.store, wbool_off, after_scope, Nat.reduceMul, Nat.reducePow, Nat.reduceSub, Nat.reduceBEq, UInt8.reduceToNat, Nat.reduceEqDiff, Nat.reduceLT, reduceCtorEq, Nat.reduceAdd, Nat.reduceLeDiff, c2, cl, cc, cs24, hs33]
    exact hK _ _ ⟨cs, er, rfl, cl, cc, fun h0 => by
      obtain ⟨p', e', hp', q⟩ := cp h0
      exact ⟨p', e', hp'.up (hset _), q⟩⟩ ((hU1.trans hU4).set (hF _ (by omega)) _) (hF4.set (hF4.lt c2) _)
  · simp (maxSteps := 1000000) only [sx, fx, ux, implies_true, evBuildSlice, fillE, fillA, here, plain, laid, evOp, avOf, avCell, strOf, evBin, evInt, evStr, evUn, evResults, evResultsL, Heap.store, wbool_off, after_scope, Nat.reduceMul, Nat.reducePow, Nat.reduceSub, Nat.reduceBEq, UInt8.reduceToNat, Nat.reduceEqDiff, Nat.reduceLT, reduceCtorEq, Nat.reduceAdd, Nat.reduceLeDiff, Int.reduceBEq, e1, hk, g0, g1, pt, et, hpl, hel]
    refine callStep (f58_ok (B := B) (hB.trans hU1) hpB heB hN (by rw [hk]; decide) (by rw [hk]; decide) hF1 _ fun r H4 hr hU4 hF4 => ?_)
    obtain ⟨cs, er, rfl, cl, cc, cp⟩ := hr
    have c2 := hU4 _ _ g2
    have cs24 : cs.take 24 = cs := List.take_of_length_le (by omega)
    have hs33 : splice z33 0 cs = cs := by simp [splice, z33, cl]
    unfold z33 at c2 hs33
    have hset := fun y => sub_set (K := H4) (B := B) hU1 (by rw [g2]; simp) hBn y
    simp (maxSteps := 1000000) only [sx, fx, ux, implies_true, evBuildSlice, fillE, fillA, here, plain, laid, evOp, avOf, avCell, strOf, evBin, evInt, evStr, evUn, evResults, evResultsL, Heap.store, wbool_off, after_scope, Nat.reduceMul, Nat.reducePow, Nat.reduceSub, Nat.reduceBEq, UInt8.reduceToNat, Nat.reduceEqDiff, Nat.reduceLT, reduceCtorEq, Nat.reduceAdd, Nat.reduceLeDiff, c2, cl, cc, cs24, hs33]
    exact hK _ _ ⟨cs, er, rfl, cl, cc, fun h0 => by
      obtain ⟨p', e', hp', q⟩ := cp h0
      exact ⟨p', e', hp'.up (hset _), q⟩⟩ ((hU1.trans hU4).set (hF _ (by omega)) _) (hF4.set (hF4.lt c2) _)
  · simp (maxSteps := 1000000) only [sx, fx, ux, implies_true, evBuildSlice, fillE, fillA, here, plain, laid, evOp, avOf, avCell, strOf, evBin, evInt, evStr, evUn, evResults, evResultsL, Heap.store, wbool_off, after_scope, Nat.reduceMul, Nat.reducePow, Nat.reduceSub, Nat.reduceBEq, UInt8.reduceToNat, Nat.reduceEqDiff, Nat.reduceLT, reduceCtorEq, Nat.reduceAdd, Nat.reduceLeDiff, Int.reduceBEq, e1, hk, g0, g1, pt, et, hpl, hel]
    refine callStep (f58_ok (B := B) (hB.trans hU1) hpB heB hN (by rw [hk]; decide) (by rw [hk]; decide) hF1 _ fun r H4 hr hU4 hF4 => ?_)
    obtain ⟨cs, er, rfl, cl, cc, cp⟩ := hr
    have c2 := hU4 _ _ g2
    have cs24 : cs.take 24 = cs := List.take_of_length_le (by omega)
    have hs33 : splice z33 0 cs = cs := by simp [splice, z33, cl]
    unfold z33 at c2 hs33
    have hset := fun y => sub_set (K := H4) (B := B) hU1 (by rw [g2]; simp) hBn y
    simp (maxSteps := 1000000) only [sx, fx, ux, implies_true, evBuildSlice, fillE, fillA, here, plain, laid, evOp, avOf, avCell, strOf, evBin, evInt, evStr, evUn, evResults, evResultsL, Heap.store, wbool_off, after_scope, Nat.reduceMul, Nat.reducePow, Nat.reduceSub, Nat.reduceBEq, UInt8.reduceToNat, Nat.reduceEqDiff, Nat.reduceLT, reduceCtorEq, Nat.reduceAdd, Nat.reduceLeDiff, c2, cl, cc, cs24, hs33]
    exact hK _ _ ⟨cs, er, rfl, cl, cc, fun h0 => by
      obtain ⟨p', e', hp', q⟩ := cp h0
      exact ⟨p', e', hp'.up (hset _), q⟩⟩ ((hU1.trans hU4).set (hF _ (by omega)) _) (hF4.set (hF4.lt c2) _)
  · simp (maxSteps := 1000000) only [sx, fx, ux, implies_true, evBuildSlice, fillE, fillA, here, plain, laid, evOp, avOf, avCell, strOf, evBin, evInt, evStr, evUn, evResults, evResultsL, Heap.store, wbool_off, after_scope, Nat.reduceMul, Nat.reducePow, Nat.reduceSub, Nat.reduceBEq, UInt8.reduceToNat, Nat.reduceEqDiff, Nat.reduceLT, reduceCtorEq, Nat.reduceAdd, Nat.reduceLeDiff, Int.reduceBEq, e1, hk, g0, g1, pt, et, hpl, hel]
    refine callStep (f59_ok (B := B) (hB.trans hU1) hpB heB hN (by rw [hk]; decide) (by rw [hk]; decide) hF1 _ fun r H4 hr hU4 hF4 => ?_)
    obtain ⟨cs, er, rfl, cl, cc, cp⟩ := hr
    have c2 := hU4 _ _ g2
    have cs24 : cs.take 24 = cs := List.take_of_length_le (by omega)
    have hs33 : splice z33 0 cs = cs := by simp [splice, z33, cl]
    unfold z33 at c2 hs33
    have hset := fun y => sub_set (K := H4) (B := B) hU1 (by rw [g2]; simp) hBn y
    simp (maxSteps := 1000000) only [sx, fx, ux, implies_true, evBuildSlice, fillE, fillA, here, plain, laid, evOp, avOf, avCell, strOf, evBin, evInt, evStr, evUn, evResults, evResultsL, Heap.store, wbool_off, after_scope, Nat.reduceMul, Nat.reducePow, Nat.reduceSub, Nat.reduceBEq, UInt8.reduceToNat, Nat.reduceEqDiff, Nat.reduceLT, reduceCtorEq, Nat.reduceAdd, Nat.reduceLeDiff, c2, cl, cc, cs24, hs33]
    exact hK _ _ ⟨cs, er, rfl, cl, cc, fun h0 => by
      obtain ⟨p', e', hp', q⟩ := cp h0
      exact ⟨p', e', hp'.up (hset _), q⟩⟩ ((hU1.trans hU4).set (hF _ (by omega)) _) (hF4.set (hF4.lt c2) _)
  · simp (maxSteps := 1000000) only [sx, fx, ux, implies_true, evBuildSlice, fillE, fillA, here, plain, laid, evOp, avOf, avCell, strOf, evBin, evInt, evStr, evUn, evResults, evResultsL, Heap.store, wbool_off, after_scope, Nat.reduceMul, Nat.reducePow, Nat.reduceSub, Nat.reduceBEq, UInt8.reduceToNat, Nat.reduceEqDiff, Nat.reduceLT, reduceCtorEq, Nat.reduceAdd, Nat.reduceLeDiff, Int.reduceBEq, e1, hk, g0, g1, pt, et, hpl, hel]
    refine callStep (f59_ok (B := B) (hB.trans hU1) hpB heB hN (by rw [hk]; decide) (by rw [hk]; decide) hF1 _ fun r H4 hr hU4 hF4 => ?_)
    obtain ⟨cs, er, rfl, cl, cc, cp⟩ := hr
    have c2 := hU4 _ _ g2
    have cs24 : cs.take 24 = cs := List.take_of_length_le (by omega)
    have hs33 : splice z33 0 cs = cs := by simp [splice, z33, cl]
    unfold z33 at c2 hs33
    have hset := fun y => sub_set (K := H4) (B := B) hU1 (by rw [g2]; simp) hBn y
    simp (maxSteps := 1000000) only [sx, fx, ux, implies_true, evBuildSlice, fillE, fillA, here, plain, laid, evOp, avOf, avCell, strOf, evBin, evInt, evStr, evUn, evResults, evResultsL, Heap.store, wbool_off, after_scope, Nat.reduceMul, Nat.reducePow, Nat.reduceSub, Nat.reduceBEq, UInt8.reduceToNat, Nat.reduceEqDiff, Nat.reduceLT, reduceCtorEq, Nat.reduceAdd, Nat.reduceLeDiff, c2, cl, cc, cs24, hs33]
    exact hK _ _ ⟨cs, er, rfl, cl, cc, fun h0 => by
      obtain ⟨p', e', hp', q⟩ := cp h0
      exact ⟨p', e', hp'.up (hset _), q⟩⟩ ((hU1.trans hU4).set (hF _ (by omega)) _) (hF4.set (hF4.lt c2) _)
  · simp (maxSteps := 1000000) only [sx, fx, ux, implies_true, evBuildSlice, fillE, fillA, here, plain, laid, evOp, avOf, avCell, strOf, evBin, evInt, evStr, evUn, evResults, evResultsL, Heap.store, wbool_off, after_scope, Nat.reduceMul, Nat.reducePow, Nat.reduceSub, Nat.reduceBEq, UInt8.reduceToNat, Nat.reduceEqDiff, Nat.reduceLT, reduceCtorEq, Nat.reduceAdd, Nat.reduceLeDiff, Int.reduceBEq, e1, hk, g0, g1, pt, et, hpl, hel]
    refine callStep (f59_ok (B := B) (hB.trans hU1) hpB heB hN (by rw [hk]; decide) (by rw [hk]; decide) hF1 _ fun r H4 hr hU4 hF4 => ?_)
    obtain ⟨cs, er, rfl, cl, cc, cp⟩ := hr
    have c2 := hU4 _ _ g2
    have cs24 : cs.take 24 = cs := List.take_of_length_le (by omega)
    have hs33 : splice z33 0 cs = cs := by simp [splice, z33, cl]
    unfold z33 at c2 hs33
    have hset := fun y => sub_set (K := H4) (B := B) hU1 (by rw [g2]; simp) hBn y
    simp (maxSteps := 1000000) only [sx, fx, ux, implies_true, evBuildSlice, fillE, fillA, here, plain, laid, evOp, avOf, avCell, strOf, evBin, evInt, evStr, evUn, evResults, evResultsL, Heap.store, wbool_off, after_scope, Nat.reduceMul, Nat.reducePow, Nat.reduceSub, Nat.reduceBEq, UInt8.reduceToNat, Nat.reduceEqDiff, Nat.reduceLT, reduceCtorEq, Nat.reduceAdd, Nat.reduceLeDiff, c2, cl, cc, cs24, hs33]
    exact hK _ _ ⟨cs, er, rfl, cl, cc, fun h0 => by
      obtain ⟨p', e', hp', q⟩ := cp h0
      exact ⟨p', e', hp'.up (hset _), q⟩⟩ ((hU1.trans hU4).set (hF _ (by omega)) _) (hF4.set (hF4.lt c2) _)
  · simp (maxSteps := 1000000) only [sx, fx, ux, implies_true, evBuildSlice, fillE, fillA, here, plain, laid, evOp, avOf, avCell, strOf, evBin, evInt, evStr, evUn, evResults, evResultsL, Heap.store, wbool_off, after_scope, Nat.reduceMul, Nat.reducePow, Nat.reduceSub, Nat.reduceBEq, UInt8.reduceToNat, Nat.reduceEqDiff, Nat.reduceLT, reduceCtorEq, Nat.reduceAdd, Nat.reduceLeDiff, Int.reduceBEq, e1, hk, g0, g1, pt, et, hpl, hel]
    refine callStep (f60_ok (B := B) (hB.trans hU1) hpB heB hN (by rw [hk]; decide) (by rw [hk]; decide) hF1 _ fun r H4 hr hU4 hF4 => ?_)
    obtain ⟨cs, er, rfl, cl, cc, cp⟩ := hr
    have c2 := hU4 _ _ g2
    have cs24 : cs.take 24 = cs := List.take_of_length_le (by omega)
    have hs33 : splice z33 0 cs = cs := by simp [splice, z33, cl]
    unfold z33 at c2 hs33
    have hset := fun y => sub_set (K := H4) (B := B) hU1 (by rw [g2]; simp) hBn y
    simp (maxSteps := 1000000) only [sx, fx, ux, implies_true, evBuildSlice, fillE, fillA, here, plain, laid, evOp, avOf, avCell, strOf, evBin, evInt, evStr, evUn, evResults, evResultsL, Heap.store, wbool_off, after_scope, Nat.reduceMul, Nat.reducePow, Nat.reduceSub, Nat.reduceBEq, UInt8.reduceToNat, Nat.reduceEqDiff, Nat.reduceLT, reduceCtorEq, Nat.reduceAdd, Nat.reduceLeDiff, c2, cl, cc, cs24, hs33]
    exact hK _ _ ⟨cs, er, rfl, cl, cc, fun h0 => by
      obtain ⟨p', e', hp', q⟩ := cp h0
      exact ⟨p', e', hp'.up (hset _), q⟩⟩ ((hU1.trans hU4).set (hF _ (by omega)) _) (hF4.set (hF4.lt c2) _)
  · simp (maxSteps := 1000000) only [sx, fx, ux, implies_true, evBuildSlice, fillE, fillA, here, plain, laid, evOp, avOf, avCell, strOf, evBin, evInt, evStr, evUn, evResults, evResultsL, Heap.store, wbool_off, after_scope, Nat.reduceMul, Nat.reducePow, Nat.reduceSub, Nat.reduceBEq, UInt8.reduceToNat, Nat.reduceEqDiff, Nat.reduceLT, reduceCtorEq, Nat.reduceAdd, Nat.reduceLeDiff, Int.reduceBEq, e1, hk, g0, g1, pt, et, hpl, hel]
    refine callStep (f60_ok (B := B) (hB.trans hU1) hpB heB hN (by rw [hk]; decide) (by rw [hk]; decide) hF1 _ fun r H4 hr hU4 hF4 => ?_)
    obtain ⟨cs, er, rfl, cl, cc, cp⟩ := hr
    have c2 := hU4 _ _ g2
    have cs24 : cs.take 24 = cs := List.take_of_length_le (by omega)
    have hs33 : splice z33 0 cs = cs := by simp [splice, z33, cl]
    unfold z33 at c2 hs33
    have hset := fun y => sub_set (K := H4) (B := B) hU1 (by rw [g2]; simp) hBn y
    simp (maxSteps := 1000000) only [sx, fx, ux, implies_true, evBuildSlice, fillE, fillA, here, plain, laid, evOp, avOf, avCell, strOf, evBin, evInt, evStr, evUn, evResults, evResultsL, Heap.store, wbool_off, after_scope, Nat.reduceMul, Nat.reducePow, Nat.reduceSub, Nat.reduceBEq, UInt8.reduceToNat, Nat.reduceEqDiff, Nat.reduceLT, reduceCtorEq, Nat.reduceAdd, Nat.reduceLeDiff, c2, cl, cc, cs24, hs33]
    exact hK _ _ ⟨cs, er, rfl, cl, cc, fun h0 => by
      obtain ⟨p', e', hp', q⟩ := cp h0
      exact ⟨p', e', hp'.up (hset _), q⟩⟩ ((hU1.trans hU4).set (hF _ (by omega)) _) (hF4.set (hF4.lt c2) _)
  · simp (maxSteps := 1000000) only [sx, fx, ux, implies_true, evBuildSlice, fillE, fillA, here, plain, laid, evOp, avOf, avCell, strOf, evBin, evInt, evStr, evUn, evResults, evResultsL, Heap.store, wbool_off, after_scope, Nat.reduceMul, Nat.reducePow, Nat.reduceSub, Nat.reduceBEq, UInt8.reduceToNat, Nat.reduceEqDiff, Nat.reduceLT, reduceCtorEq, Nat.reduceAdd, Nat.reduceLeDiff, Int.reduceBEq, e1, hk, g0, g1, pt, et, hpl, hel]
    refine callStep (f61_ok (B := B) (hB.trans hU1) hpB heB hN (by rw [hk]; decide) (by rw [hk]; decide) hF1 _ fun r H4 hr hU4 hF4 => ?_)
    obtain ⟨cs, er, rfl, cl, cc, cp⟩ := hr
    have c2 := hU4 _ _ g2
    have cs24 : cs.take 24 = cs := List.take_of_length_le (by omega)
    have hs33 : splice z33 0 cs = cs := by simp [splice, z33, cl]
    unfold z33 at c2 hs33
    have hset := fun y => sub_set (K := H4) (B := B) hU1 (by rw [g2]; simp) hBn y
    simp (maxSteps := 1000000) only [sx, fx, ux, implies_true, evBuildSlice, fillE, fillA, here, plain, laid, evOp, avOf, avCell, strOf, evBin, evInt, evStr, evUn, evResults, evResultsL, Heap.store, wbool_off, after_scope, Nat.reduceMul, Nat.reducePow, Nat.reduceSub, Nat.reduceBEq, UInt8.reduceToNat, Nat.reduceEqDiff, Nat.reduceLT, reduceCtorEq, Nat.reduceAdd, Nat.reduceLeDiff, c2, cl, cc, cs24, hs33]
    exact hK _ _ ⟨cs, er, rfl, cl, cc, fun h0 => by
      obtain ⟨p', e', hp', q⟩ := cp h0
      exact ⟨p', e', hp'.up (hset _), q⟩⟩ ((hU1.trans hU4).set (hF _ (by omega)) _) (hF4.set (hF4.lt c2) _)
  · simp (maxSteps := 1000000) only [sx, fx, ux, implies_true, evBuildSlice, fillE, fillA, here, plain, laid, evOp, avOf, avCell, strOf, evBin, evInt, evStr, evUn, evResults, evResultsL, Heap.store, wbool_off, after_scope, Nat.reduceMul, Nat.reducePow, Nat.reduceSub, Nat.reduceBEq, UInt8.reduceToNat, Nat.reduceEqDiff, Nat.reduceLT, reduceCtorEq, Nat.reduceAdd, Nat.reduceLeDiff, Int.reduceBEq, e1, hk, g0, g1, pt, et, hpl, hel]
    refine callStep (f61_ok (B := B) (hB.trans hU1) hpB heB hN (by rw [hk]; decide) (by rw [hk]; decide) hF1 _ fun r H4 hr hU4 hF4 => ?_)
    obtain ⟨cs, er, rfl, cl, cc, cp⟩ := hr
    have c2 := hU4 _ _ g2
    have cs24 : cs.take 24 = cs := List.take_of_length_le (by omega)
    have hs33 : splice z33 0 cs = cs := by simp [splice, z33, cl]
    unfold z33 at c2 hs33
    have hset := fun y => sub_set (K := H4) (B := B) hU1 (by rw [g2]; simp) hBn y
    simp (maxSteps := 1000000) only [sx, fx, ux, implies_true, evBuildSlice, fillE, fillA, here, plain, laid, evOp, avOf, avCell, strOf, evBin, evInt, evStr, evUn, evResults, evResultsL, Heap.store, wbool_off, after_scope, Nat.reduceMul, Nat.reducePow, Nat.reduceSub, Nat.reduceBEq, UInt8.reduceToNat, Nat.reduceEqDiff, Nat.reduceLT, reduceCtorEq, Nat.reduceAdd, Nat.reduceLeDiff, c2, cl, cc, cs24, hs33]
    exact hK _ _ ⟨cs, er, rfl, cl, cc, fun h0 => by
      obtain ⟨p', e', hp', q⟩ := cp h0
      exact ⟨p', e', hp'.up (hset _), q⟩⟩ ((hU1.trans hU4).set (hF _ (by omega)) _) (hF4.set (hF4.lt c2) _)
  · simp (maxSteps := 1000000) only [sx, fx, ux, implies_true, evBuildSlice, fillE, fillA, here, plain, laid, evOp, avOf, avCell, strOf, evBin, evInt, evStr, evUn, evResults, evResultsL, Heap.store, wbool_off, after_scope, Nat.reduceMul, Nat.reducePow, Nat.reduceSub, Nat.reduceBEq, UInt8.reduceToNat, Nat.reduceEqDiff, Nat.reduceLT, reduceCtorEq, Nat.reduceAdd, Nat.reduceLeDiff, Int.reduceBEq, e1, hk, g0, g1, pt, et, hpl, hel]
    refine callStep (f62_ok (B := B) (hB.trans hU1) hpB heB hN (by rw [hk]; decide) (by rw [hk]; decide) hF1 _ fun r H4 hr hU4 hF4 => ?_)
    obtain ⟨cs, er, rfl, cl, cc, cp⟩ := hr
    have c2 := hU4 _ _ g2
    have cs24 : cs.take 24 = cs := List.take_of_length_le (by omega)
    have hs33 : splice z33 0 cs = cs := by simp [splice, z33, cl]
    unfold z33 at c2 hs33
    have hset := fun y => sub_set (K := H4) (B := B) hU1 (by rw [g2]; simp) hBn y
    simp (maxSteps := 1000000) only [sx, fx, ux, implies_true, evBuildSlice, fillE, fillA, here, plain, laid, evOp, avOf, avCell, strOf, evBin, evInt, evStr, evUn, evResults, evResultsL, Heap.store, wbool_off, after_scope, Nat.reduceMul, Nat.reducePow, Nat.reduceSub, Nat.reduceBEq, UInt8.reduceToNat, Nat.reduceEqDiff, Nat.reduceLT, reduceCtorEq, Nat.reduceAdd, Nat.reduceLeDiff, c2, cl, cc, cs24, hs33]
    exact hK _ _ ⟨cs, er, rfl, cl, cc, fun h0 => by
      obtain ⟨p', e', hp', q⟩ := cp h0
      exact ⟨p', e', hp'.up (hset _), q⟩⟩ ((hU1.trans hU4).set (hF _ (by omega)) _) (hF4.set (hF4.lt c2) _)
  · simp (maxSteps := 1000000) only [sx, fx, ux, implies_true, evBuildSlice, fillE, fillA, here, plain, laid, evOp, avOf, avCell, strOf, evBin, evInt, evStr, evUn, evResults, evResultsL, Heap.store, wbool_off, after_scope, Nat.reduceMul, Nat.reducePow, Nat.reduceSub, Nat.reduceBEq, UInt8.reduceToNat, Nat.reduceEqDiff, Nat.reduceLT, reduceCtorEq, Nat.reduceAdd, Nat.reduceLeDiff, Int.reduceBEq, e1, hk, g0, g1, pt, et, hpl, hel]
    refine callStep (f62_ok (B := B) (hB.trans hU1) hpB heB hN (by rw [hk]; decide) (by rw [hk]; decide) hF1 _ fun r H4 hr hU4 hF4 => ?_)
    obtain ⟨cs, er, rfl, cl, cc, cp⟩ := hr
    have c2 := hU4 _ _ g2
    have cs24 : cs.take 24 = cs := List.take_of_length_le (by omega)
    have hs33 : splice z33 0 cs = cs := by simp [splice, z33, cl]
    unfold z33 at c2 hs33
    have hset := fun y => sub_set (K := H4) (B := B) hU1 (by rw [g2]; simp) hBn y
    simp (maxSteps := 1000000) only [sx, fx, ux, implies_true, evBuildSlice, fillE, fillA, here, plain, laid, evOp, avOf, avCell, strOf, evBin, evInt, evStr, evUn, evResults, evResultsL, Heap.store, wbool_off, after_scope, Nat.reduceMul, Nat.reducePow, Nat.reduceSub, Nat.reduceBEq, UInt8.reduceToNat, Nat.reduceEqDiff, Nat.reduceLT, reduceCtorEq, Nat.reduceAdd, Nat.reduceLeDiff, c2, cl, cc, cs24, hs33]
    exact hK _ _ ⟨cs, er, rfl, cl, cc, fun h0 => by
      obtain ⟨p', e', hp', q⟩ := cp h0
      exact ⟨p', e', hp'.up (hset _), q⟩⟩ ((hU1.trans hU4).set (hF _ (by omega)) _) (hF4.set (hF4.lt c2) _)
  · simp (maxSteps := 1000000) only [sx, fx, ux, implies_true, evBuildSlice, fillE, fillA, here, plain, laid, evOp, avOf, avCell, strOf, evBin, evInt, evStr, evUn, evResults, evResultsL, Heap.store, wbool_off, after_scope, Nat.reduceMul, Nat.reducePow, Nat.reduceSub, Nat.reduceBEq, UInt8.reduceToNat, Nat.reduceEqDiff, Nat.reduceLT, reduceCtorEq, Nat.reduceAdd, Nat.reduceLeDiff, Int.reduceBEq, e1, hk, g0, g1, pt, et, hpl, hel]
    refine callStep (f63_ok (B := B) (hB.trans hU1) hpB heB hN (by rw [hk]; decide) (by rw [hk]; decide) hfit.1 (hfit.2 hk) hF1 _ fun r H4 hr hU4 hF4 => ?_)
    obtain ⟨cs, er, rfl, cl, cc, cp⟩ := hr
    have c2 := hU4 _ _ g2
    have cs24 : cs.take 24 = cs := List.take_of_length_le (by omega)
    have hs33 : splice z33 0 cs = cs := by simp [splice, z33, cl]
    unfold z33 at c2 hs33
    have hset := fun y => sub_set (K := H4) (B := B) hU1 (by rw [g2]; simp) hBn y
    simp (maxSteps := 1000000) only [sx, fx, ux, implies_true, evBuildSlice, fillE, fillA, here, plain, laid, evOp, avOf, avCell, strOf, evBin, evInt, evStr, evUn, evResults, evResultsL, Heap.store, wbool_off, after_scope, Nat.reduceMul, Nat.reducePow, Nat.reduceSub, Nat.reduceBEq, UInt8.reduceToNat, Nat.reduceEqDiff, Nat.reduceLT, reduceCtorEq, Nat.reduceAdd, Nat.reduceLeDiff, c2, cl, cc, cs24, hs33]
    exact hK _ _ ⟨cs, er, rfl, cl, cc, fun h0 => by
      obtain ⟨p', e', hp', q⟩ := cp h0
      exact ⟨p', e', hp'.up (hset _), q⟩⟩ ((hU1.trans hU4).set (hF _ (by omega)) _) (hF4.set (hF4.lt c2) _)
  · have hs33 := hs33p
    unfold z33 at hs33 g2
    simp (maxSteps := 1000000) only [sx, fx, ux, implies_true, evBuildSlice, fillE, fillA, here, plain, laid, evOp, avOf, avCell, strOf, evBin, evInt, evStr, evUn, evResults, evResultsL, Heap.store, wbool_off, after_scope, Nat.reduceMul, Nat.reducePow, Nat.reduceSub, Nat.reduceBEq, UInt8.reduceToNat, Nat.reduceEqDiff, Nat.reduceLT, reduceCtorEq, Nat.reduceAdd, Nat.reduceLeDiff, n2, n3, n4, n5, n6, n7, n14, n19, n23, n8, n9, n10, n11, n12, n13, n15, n16, n20, n21, n22, n24, n25, n27, n28, n17, n26, n29, e1, g0, g1, g2, pt, hpl, hpc, hs33]
    exact hK _ _ (PRes.ok ((hpB.mono (Nat.le_succ N)).up (sub_up hB (hU1.set (hF _ (by omega)) _))) ⟨fun h => absurd h (by simpa using n2), fun h => absurd h (by simpa using n7)⟩) (hU1.set (hF _ (by omega)) _) (hF1.set (hF1.lt g2) _)
end Go.Proofs.T
