import Derived.Test.YtlllflmjpclobaaW5
set_option linter.unusedVariables false
set_option linter.unusedSimpArgs false
set_option linter.unusedVariables false
set_option linter.unusedSimpArgs false
set_option maxRecDepth 100000
namespace Go.Proofs.T
open Go.Ev

set_option maxHeartbeats 4000000 in
theorem f55_ok {H B : Heap} {N : Nat} {p : PS} {e : ES} (hB : Up B H) (hpB : PR B N p) (heB : ER B e) (hN : N ≤ 60) (hk : e.k ≠ 7) (hF : Free H) (K : AV → Heap → Prop) (hK : ∀ r H', PRes (hsub H' H B) (N + 1) (Post e) r → Up H H' → Free H' → K r H') : WF Try.prog 55 [.agg p.cells, .agg e.cells] H K := by
  have hp := hpB.up hB
  have he := heB.up hB
  obtain ⟨nx, st, tk, ti, att, sq, pnm, inn, atr, cn, va, vt, vk, vs, vu, vr, acts, timers, kids, sends, upds, reqs⟩ := p
  obtain ⟨ni, hin⟩ : ∃ n, VR n H inn := hp.inn
  obtain ⟨i0, i1, i2, i3, i4, rfl⟩ := five hin.len
  obtain ⟨a0, a1, a2, a3, a4, rfl⟩ := five (show AT H N atr from hp.atr).len
  have hci := hin.cells
  have hca := (show AT H N [a0, a1, a2, a3, a4] from hp.atr).cells
  simp only [List.all_cons, List.all_nil, Bool.and_eq_true, Bool.and_true] at hci hca
  obtain ⟨hci0, hci1, hci2, hci3, hci4⟩ := hci
  obtain ⟨hca0, hca1, hca2, hca3, hca4⟩ := hca
  have hva : Holds H 32 va acts := hp.ha
  have hvt : Holds H 3 vt timers := hp.ht
  have hvk : Holds H 6 vk kids := hp.hk
  have hvs : Holds H 4 vs sends := hp.hs
  have hvu : Holds H 2 vu upds := hp.hu
  have hvr : Holds H 1 vr reqs := hp.hr
  have hcv0 := holds_cell hva
  have hcv1 := holds_cell hvt
  have hcv2 := holds_cell hvk
  have hcv3 := holds_cell hvs
  have hcv4 := holds_cell hvu
  have hcv5 := holds_cell hvr
  obtain ⟨id, k, tm, esq, rf, nn, cd, enm, ky, ed, eo⟩ := e
  obtain ⟨nd, hed⟩ : ∃ n, VR n H ed := he.d
  have heo : PolR H eo := he.o
  obtain ⟨d0, d1, d2, d3, d4, rfl⟩ := five hed.len
  obtain ⟨o0, o1, o2, o3, o4, o5, o6, o7, o8, o9, rfl⟩ := ten heo.len
  have hcd := hed.cells
  have hco := heo.cells
  simp only [List.all_cons, List.all_nil, Bool.and_eq_true, Bool.and_true] at hcd hco
  obtain ⟨hcd0, hcd1, hcd2, hcd3, hcd4⟩ := hcd
  obtain ⟨hco0, hco1, hco2, hco3, hco4, hco5, hco6, hco7, hco8, hco9⟩ := hco
  refine WF_body Try.func55 (by kernel_rfl) rfl Try.ntmps55 (by rw [Try.results55]) (of_decide_eq_true (by kernel_rfl)) ?_
  simp (maxSteps := 1000000) only [PS.cells, ES.cells, List.cons_append, List.nil_append, sx, fx, icI, icS, icB, icN, icL, implies_true, evBuildSlice, fillE, fillA, here, plain, laid, evOp, avOf, avCell, strOf, evBin, evInt, evStr, evUn, evResults, evResultsL, AV.isUndef, AV.cells, Heap.store, wbool_off, after_scope, Nat.reduceMul, Nat.reducePow, Nat.reduceSub, Nat.reduceBEq, UInt8.reduceToNat, Nat.reduceEqDiff, Nat.reduceLT, reduceCtorEq, Nat.reduceAdd, Nat.reduceLeDiff, hF.at, hF.hp]
  cases g2 : (k == 2) with
  | true =>
    cases g3 : (tk != 0) with
    | true =>
      simp (maxSteps := 1000000) only [sx, fx, icI, icS, icB, icN, icL, implies_true, evBuildSlice, fillE, fillA, here, plain, laid, evOp, avOf, avCell, strOf, evBin, evInt, evStr, evUn, evResults, evResultsL, AV.isUndef, AV.cells, Heap.store, wbool_off, after_scope, Nat.reduceMul, Nat.reducePow, Nat.reduceSub, Nat.reduceBEq, UInt8.reduceToNat, Nat.reduceEqDiff, Nat.reduceLT, reduceCtorEq, Nat.reduceAdd, Nat.reduceLeDiff, hF.at, hF.hp, g2, g3, hci0, hci1, hci2, hci3, hci4, hca0, hca1, hca2, hca3, hca4, hcv0, hcv1, hcv2, hcv3, hcv4, hcv5]
      exact hK _ _ (PRes.err (by decide)) (hF.hpU _) (hF.hpF _)
    | false =>
      simp (maxSteps := 1000000) only [sx, fx, icI, icS, icB, icN, icL, implies_true, evBuildSlice, fillE, fillA, here, plain, laid, evOp, avOf, avCell, strOf, evBin, evInt, evStr, evUn, evResults, evResultsL, AV.isUndef, AV.cells, Heap.store, wbool_off, after_scope, Nat.reduceMul, Nat.reducePow, Nat.reduceSub, Nat.reduceBEq, UInt8.reduceToNat, Nat.reduceEqDiff, Nat.reduceLT, reduceCtorEq, Nat.reduceAdd, Nat.reduceLeDiff, hF.at, hF.hp, g2, g3, hci0, hci1, hci2, hci3, hci4, hca0, hca1, hca2, hca3, hca4, hcv0, hcv1, hcv2, hcv3, hcv4, hcv5]
      refine hK _ _ (PRes.ok (p := (PS.mk nx st 1 id nn sq pnm [i0, i1, i2, i3, i4] [a0, a1, a2, a3, a4] cn va vt vk vs vu vr acts timers kids sends upds reqs)) (((hpB.chg nx st 1 id nn cn).mono (Nat.le_succ N)).up (sub_up hB (hF.hpU _))) ⟨fun h => ?_, fun h => absurd h hk⟩) (hF.hpU _) (hF.hpF _)
      exact ⟨rfl, rfl⟩
  | false =>
    have hk2 : k ≠ 2 := by simpa using g2
    cases g3 : (k == 3) with
    | true =>
      have g4 : (k == 4) = false := by have := (beq_iff_eq.1 g3); subst this; decide
      cases g5 : (tk != 1) with
      | true =>
        simp (maxSteps := 1000000) only [sx, fx, icI, icS, icB, icN, icL, implies_true, evBuildSlice, fillE, fillA, here, plain, laid, evOp, avOf, avCell, strOf, evBin, evInt, evStr, evUn, evResults, evResultsL, AV.isUndef, AV.cells, Heap.store, wbool_off, after_scope, Nat.reduceMul, Nat.reducePow, Nat.reduceSub, Nat.reduceBEq, UInt8.reduceToNat, Nat.reduceEqDiff, Nat.reduceLT, reduceCtorEq, Nat.reduceAdd, Nat.reduceLeDiff, hF.at, hF.hp, g2, g3, g5, hci0, hci1, hci2, hci3, hci4, hca0, hca1, hca2, hca3, hca4, hcv0, hcv1, hcv2, hcv3, hcv4, hcv5]
        exact hK _ _ (PRes.err (by decide)) (hF.hpU _) (hF.hpF _)
      | false =>
        cases g6 : (rf != ti) with
        | true =>
          simp (maxSteps := 1000000) only [sx, fx, icI, icS, icB, icN, icL, implies_true, evBuildSlice, fillE, fillA, here, plain, laid, evOp, avOf, avCell, strOf, evBin, evInt, evStr, evUn, evResults, evResultsL, AV.isUndef, AV.cells, Heap.store, wbool_off, after_scope, Nat.reduceMul, Nat.reducePow, Nat.reduceSub, Nat.reduceBEq, UInt8.reduceToNat, Nat.reduceEqDiff, Nat.reduceLT, reduceCtorEq, Nat.reduceAdd, Nat.reduceLeDiff, hF.at, hF.hp, g2, g3, g5, g6, hci0, hci1, hci2, hci3, hci4, hca0, hca1, hca2, hca3, hca4, hcv0, hcv1, hcv2, hcv3, hcv4, hcv5]
          exact hK _ _ (PRes.err (by decide)) (hF.hpU _) (hF.hpF _)
        | false =>
          simp (maxSteps := 1000000) only [sx, fx, icI, icS, icB, icN, icL, implies_true, evBuildSlice, fillE, fillA, here, plain, laid, evOp, avOf, avCell, strOf, evBin, evInt, evStr, evUn, evResults, evResultsL, AV.isUndef, AV.cells, Heap.store, wbool_off, after_scope, Nat.reduceMul, Nat.reducePow, Nat.reduceSub, Nat.reduceBEq, UInt8.reduceToNat, Nat.reduceEqDiff, Nat.reduceLT, reduceCtorEq, Nat.reduceAdd, Nat.reduceLeDiff, hF.at, hF.hp, g2, g3, g5, g6, hci0, hci1, hci2, hci3, hci4, hca0, hca1, hca2, hca3, hca4, hcv0, hcv1, hcv2, hcv3, hcv4, hcv5]
          refine hK _ _ (PRes.ok (p := (PS.mk nx st 2 id att sq pnm [i0, i1, i2, i3, i4] [a0, a1, a2, a3, a4] cn va vt vk vs vu vr acts timers kids sends upds reqs)) (((hpB.chg nx st 2 id att cn).mono (Nat.le_succ N)).up (sub_up hB (hF.hpU _))) ⟨fun h => ?_, fun h => absurd h hk⟩) (hF.hpU _) (hF.hpF _)
          exact absurd h hk2
    | false =>
      cases g5 : (tk != 2) with
      | true =>
        simp (maxSteps := 1000000) only [sx, fx, icI, icS, icB, icN, icL, implies_true, evBuildSlice, fillE, fillA, here, plain, laid, evOp, avOf, avCell, strOf, evBin, evInt, evStr, evUn, evResults, evResultsL, AV.isUndef, AV.cells, Heap.store, wbool_off, after_scope, Nat.reduceMul, Nat.reducePow, Nat.reduceSub, Nat.reduceBEq, UInt8.reduceToNat, Nat.reduceEqDiff, Nat.reduceLT, reduceCtorEq, Nat.reduceAdd, Nat.reduceLeDiff, hF.at, hF.hp, g2, g3, g5, hci0, hci1, hci2, hci3, hci4, hca0, hca1, hca2, hca3, hca4, hcv0, hcv1, hcv2, hcv3, hcv4, hcv5]
        exact hK _ _ (PRes.err (by decide)) (hF.hpU _) (hF.hpF _)
      | false =>
        cases g6 : (rf != ti) with
        | true =>
          simp (maxSteps := 1000000) only [sx, fx, icI, icS, icB, icN, icL, implies_true, evBuildSlice, fillE, fillA, here, plain, laid, evOp, avOf, avCell, strOf, evBin, evInt, evStr, evUn, evResults, evResultsL, AV.isUndef, AV.cells, Heap.store, wbool_off, after_scope, Nat.reduceMul, Nat.reducePow, Nat.reduceSub, Nat.reduceBEq, UInt8.reduceToNat, Nat.reduceEqDiff, Nat.reduceLT, reduceCtorEq, Nat.reduceAdd, Nat.reduceLeDiff, hF.at, hF.hp, g2, g3, g5, g6, hci0, hci1, hci2, hci3, hci4, hca0, hca1, hca2, hca3, hca4, hcv0, hcv1, hcv2, hcv3, hcv4, hcv5]
          exact hK _ _ (PRes.err (by decide)) (hF.hpU _) (hF.hpF _)
        | false =>
          cases g7 : (k == 4) with
          | true =>
            simp (maxSteps := 1000000) only [sx, fx, icI, icS, icB, icN, icL, implies_true, evBuildSlice, fillE, fillA, here, plain, laid, evOp, avOf, avCell, strOf, evBin, evInt, evStr, evUn, evResults, evResultsL, AV.isUndef, AV.cells, Heap.store, wbool_off, after_scope, Nat.reduceMul, Nat.reducePow, Nat.reduceSub, Nat.reduceBEq, UInt8.reduceToNat, Nat.reduceEqDiff, Nat.reduceLT, reduceCtorEq, Nat.reduceAdd, Nat.reduceLeDiff, hF.at, hF.hp, g2, g3, g5, g6, g7, hci0, hci1, hci2, hci3, hci4, hca0, hca1, hca2, hca3, hca4, hcv0, hcv1, hcv2, hcv3, hcv4, hcv5]
            refine hK _ _ (PRes.ok (p := (PS.mk nx st 0 0 0 sq pnm [i0, i1, i2, i3, i4] [a0, a1, a2, a3, a4] cn va vt vk vs vu vr acts timers kids sends upds reqs)) (((hpB.chg nx st 0 0 0 cn).mono (Nat.le_succ N)).up (sub_up hB (hF.hpU _))) ⟨fun h => ?_, fun h => absurd h hk⟩) (hF.hpU _) (hF.hpF _)
            exact absurd h hk2
          | false =>
            simp (maxSteps := 1000000) only [sx, fx, icI, icS, icB, icN, icL, implies_true, evBuildSlice, fillE, fillA, here, plain, laid, evOp, avOf, avCell, strOf, evBin, evInt, evStr, evUn, evResults, evResultsL, AV.isUndef, AV.cells, Heap.store, wbool_off, after_scope, Nat.reduceMul, Nat.reducePow, Nat.reduceSub, Nat.reduceBEq, UInt8.reduceToNat, Nat.reduceEqDiff, Nat.reduceLT, reduceCtorEq, Nat.reduceAdd, Nat.reduceLeDiff, hF.at, hF.hp, g2, g3, g5, g6, g7, hci0, hci1, hci2, hci3, hci4, hca0, hca1, hca2, hca3, hca4, hcv0, hcv1, hcv2, hcv3, hcv4, hcv5]
            refine hK _ _ (PRes.ok (p := (PS.mk nx st 0 0 att sq pnm [i0, i1, i2, i3, i4] [a0, a1, a2, a3, a4] cn va vt vk vs vu vr acts timers kids sends upds reqs)) (((hpB.chg nx st 0 0 att cn).mono (Nat.le_succ N)).up (sub_up hB (hF.hpU _))) ⟨fun h => ?_, fun h => absurd h hk⟩) (hF.hpU _) (hF.hpF _)
            exact absurd h hk2
end Go.Proofs.T
