import Derived.Test.YtakelljpblahbaaS25
set_option linter.unusedVariables false
set_option linter.unusedSimpArgs false
set_option maxRecDepth 100000
namespace Go.Proofs.T
open Go.Ev

theorem f5_ok {v : AV} {S : List (List AV)} (n : Int) (H : Heap) (hFr : Free H) (hv : ∀ H, Holds H 3 v S) (hS : ActL S) (hn : S.length < 2 ^ 60) (Q : AV → Heap → Prop) (hQ : ∀ H', Q (.bool true) H') : WF Try.prog 5 [.int .i64 n, v] H Q := by
  refine WF_body Try.func5 (by kernel_rfl) rfl Try.ntmps5 (by rw [Try.results5]) (of_decide_eq_true (by kernel_rfl)) ?_
  have hl := (hv H).lenAt und47
  by_cases hbig : (S.length : Int) > 100
  · simp (maxSteps := 1000000) only [sx, fx, implies_true, evBuildSlice, fillE, fillA, Nat.reduceMul, Nat.reducePow, AV.isCell, Nat.reduceSub, here, plain, laid, Nat.reduceBEq, evOp, avOf, avCell, strOf, UInt8.reduceToNat, evBin, evInt, evStr, evUn, Nat.reduceEqDiff, Nat.reduceLT, evResults, evResultsL, reduceCtorEq, AV.isUndef, AV.cells, Nat.reduceAdd, Heap.store, Nat.reduceLeDiff, hl, hbig]
    refine callStep (f16_ok _ hFr _ fun H2 hU2 hF2 => ?_)
    simp (maxSteps := 1000000) only [sx, fx, implies_true, evBuildSlice, fillE, fillA, Nat.reduceMul, Nat.reducePow, AV.isCell, Nat.reduceSub, here, plain, laid, Nat.reduceBEq, evOp, avOf, avCell, strOf, UInt8.reduceToNat, evBin, evInt, evStr, evUn, Nat.reduceEqDiff, Nat.reduceLT, evResults, evResultsL, reduceCtorEq, AV.isUndef, AV.cells, Nat.reduceAdd, Heap.store, Nat.reduceLeDiff]
    exact hQ _
  simp (maxSteps := 1000000) only [sx, fx, implies_true, evBuildSlice, fillE, fillA, Nat.reduceMul, Nat.reducePow, AV.isCell, Nat.reduceSub, here, plain, laid, Nat.reduceBEq, evOp, avOf, avCell, strOf, UInt8.reduceToNat, evBin, evInt, evStr, evUn, Nat.reduceEqDiff, Nat.reduceLT, evResults, evResultsL, reduceCtorEq, AV.isUndef, AV.cells, Nat.reduceAdd, Heap.store, Nat.reduceLeDiff, hl, hbig]
  by_cases hbad : n < 1 ∨ n > 64
  · refine callStep (f7_bad hbad _ _ ?_)
    simp (maxSteps := 1000000) only [sx, fx, implies_true, evBuildSlice, fillE, fillA, Nat.reduceMul, Nat.reducePow, AV.isCell, Nat.reduceSub, here, plain, laid, Nat.reduceBEq, evOp, avOf, avCell, strOf, UInt8.reduceToNat, evBin, evInt, evStr, evUn, Nat.reduceEqDiff, Nat.reduceLT, evResults, evResultsL, reduceCtorEq, AV.isUndef, AV.cells, Nat.reduceAdd, Heap.store, Nat.reduceLeDiff]
    refine callStep (f20_bad hbad _ _ ?_)
    have h20 : ((2 : Int) != 0) = true := by decide
    simp (maxSteps := 1000000) only [sx, fx, implies_true, evBuildSlice, fillE, fillA, Nat.reduceMul, Nat.reducePow, AV.isCell, Nat.reduceSub, here, plain, laid, Nat.reduceBEq, evOp, avOf, avCell, strOf, UInt8.reduceToNat, evBin, evInt, evStr, evUn, Nat.reduceEqDiff, Nat.reduceLT, evResults, evResultsL, reduceCtorEq, AV.isUndef, AV.cells, Nat.reduceAdd, Heap.store, Nat.reduceLeDiff, bne_self_eq_false, h20, eqOk, eqp22_n]
    refine callStep (f16_ok _ hFr _ fun H2 hU2 hF2 => ?_)
    simp (maxSteps := 1000000) only [sx, fx, implies_true, evBuildSlice, fillE, fillA, Nat.reduceMul, Nat.reducePow, AV.isCell, Nat.reduceSub, here, plain, laid, Nat.reduceBEq, evOp, avOf, avCell, strOf, UInt8.reduceToNat, evBin, evInt, evStr, evUn, Nat.reduceEqDiff, Nat.reduceLT, evResults, evResultsL, reduceCtorEq, AV.isUndef, AV.cells, Nat.reduceAdd, Heap.store, Nat.reduceLeDiff]
    exact hQ _
  have hok : 1 ≤ n ∧ n ≤ 64 := by omega
  refine callStep (f7_ok hok _ hFr _ fun cx F H1 hC1 hf1 hU1 hF1 => ?_)
  simp (maxSteps := 1000000) only [sx, fx, implies_true, evBuildSlice, fillE, fillA, Nat.reduceMul, Nat.reducePow, AV.isCell, Nat.reduceSub, here, plain, laid, Nat.reduceBEq, evOp, avOf, avCell, strOf, UInt8.reduceToNat, evBin, evInt, evStr, evUn, Nat.reduceEqDiff, Nat.reduceLT, evResults, evResultsL, reduceCtorEq, AV.isUndef, AV.cells, Nat.reduceAdd, Heap.store, Nat.reduceLeDiff]
  refine callStep (f20_ok hok _ hF1 _ fun rx G H2 hR2 hg2 hU2 hF2 => ?_)
  have hB2 : Both H2 F G cx rx n 0 0 [] := ⟨hC1.up hU2, hR2, fun b hb hg => hC1.dom b hb (hg2 b hg), by simp; omega⟩
  simp (maxSteps := 1000000) only [sx, fx, implies_true, evBuildSlice, fillE, fillA, Nat.reduceMul, Nat.reducePow, AV.isCell, Nat.reduceSub, here, plain, laid, Nat.reduceBEq, evOp, avOf, avCell, strOf, UInt8.reduceToNat, evBin, evInt, evStr, evUn, Nat.reduceEqDiff, Nat.reduceLT, evResults, evResultsL, reduceCtorEq, AV.isUndef, AV.cells, Nat.reduceAdd, Heap.store, Nat.reduceLeDiff, bne_self_eq_false, eqOk, eqp22_p, hl]
  refine loopStep' (fun env H' => Free H' ∧ ∃ (i : Nat) (F G : Nat → Prop) (h m : Int) (L : Stored), i ≤ S.length ∧ env.at (.tmp 39) = .int .i64 i ∧ env.at (.tmp 38) = .int .i64 S.length ∧ env.at (.tmp 37) = v ∧ env.at (.tmp 5) = .ptr cx 0 0 0 ∧ env.at (.tmp 7) = .ptr rx 0 0 0 ∧
      Both H' F G cx rx n h m L)
    (fun env H' => match env.at (.tmp 39) with | .int _ i => ((S.length : Int) - i).toNat | _ => 0) ?_ ?_
  · refine ⟨hF2, 0, F, G, 0, 0, [], Nat.zero_le _, ?_, ?_, ?_, ?_, ?_, hB2⟩
    · simp only [sx, fx, implies_true, evBuildSlice, fillE, fillA, splice, Nat.reduceMul, Nat.reducePow, AV.isCell, Nat.reduceSub, here, plain, laid, Nat.reduceBEq, evOp, avOf, avCell, strOf, UInt8.reduceToNat, evBin, evInt, evStr, evUn, Nat.reduceEqDiff, Nat.reduceLT, evResults, evResultsL, reduceCtorEq, AV.isUndef, AV.cells, Nat.reduceAdd, Heap.store, Nat.reduceLeDiff]; rfl
    · simp only [sx, fx, implies_true, evBuildSlice, fillE, fillA, splice, Nat.reduceMul, Nat.reducePow, AV.isCell, Nat.reduceSub, here, plain, laid, Nat.reduceBEq, evOp, avOf, avCell, strOf, UInt8.reduceToNat, evBin, evInt, evStr, evUn, Nat.reduceEqDiff, Nat.reduceLT, evResults, evResultsL, reduceCtorEq, AV.isUndef, AV.cells, Nat.reduceAdd, Heap.store, Nat.reduceLeDiff]
    · simp only [sx, fx, implies_true, evBuildSlice, fillE, fillA, splice, Nat.reduceMul, Nat.reducePow, AV.isCell, Nat.reduceSub, here, plain, laid, Nat.reduceBEq, evOp, avOf, avCell, strOf, UInt8.reduceToNat, evBin, evInt, evStr, evUn, Nat.reduceEqDiff, Nat.reduceLT, evResults, evResultsL, reduceCtorEq, AV.isUndef, AV.cells, Nat.reduceAdd, Heap.store, Nat.reduceLeDiff]
    · simp only [sx, fx, implies_true, evBuildSlice, fillE, fillA, splice, Nat.reduceMul, Nat.reducePow, AV.isCell, Nat.reduceSub, here, plain, laid, Nat.reduceBEq, evOp, avOf, avCell, strOf, UInt8.reduceToNat, evBin, evInt, evStr, evUn, Nat.reduceEqDiff, Nat.reduceLT, evResults, evResultsL, reduceCtorEq, AV.isUndef, AV.cells, Nat.reduceAdd, Heap.store, Nat.reduceLeDiff]
    · simp only [sx, fx, implies_true, evBuildSlice, fillE, fillA, splice, Nat.reduceMul, Nat.reducePow, AV.isCell, Nat.reduceSub, here, plain, laid, Nat.reduceBEq, evOp, avOf, avCell, strOf, UInt8.reduceToNat, evBin, evInt, evStr, evUn, Nat.reduceEqDiff, Nat.reduceLT, evResults, evResultsL, reduceCtorEq, AV.isUndef, AV.cells, Nat.reduceAdd, Heap.store, Nat.reduceLeDiff]
  · rintro env H' ⟨hF', i, F', G', h, m, L, hi, e39, e38, e37, e5, e7, hB⟩
    by_cases hlt : i < S.length
    · obtain ⟨cs, hcs⟩ : ∃ cs, S[i]? = some cs := ⟨_, List.getElem?_eq_getElem hlt⟩
      obtain ⟨kd, key, k, rfl⟩ := hS cs (List.mem_of_getElem? hcs)
      obtain ⟨p, hp, hload, _⟩ := (hv H').index und47 sz49 .i64 hcs
      simp (maxSteps := 1000000) only [sx, fx, implies_true, evBuildSlice, fillE, fillA, Nat.reduceMul, Nat.reducePow, AV.isCell, Nat.reduceSub, here, plain, laid, Nat.reduceBEq, evOp, avOf, avCell, strOf, UInt8.reduceToNat, evBin, evInt, evStr, evUn, Nat.reduceEqDiff, Nat.reduceLT, evResults, evResultsL, reduceCtorEq, AV.isUndef, AV.cells, Nat.reduceAdd, Heap.store, Nat.reduceLeDiff, e39, e38, e37, e5, e7, lt_true hlt, hp, hload _ (Up.refl _), hF'.at, hF'.hp]
      refine callStep (f21_ok kd key k (hF'.hpF _) (hB.up (hF'.hpU _)) hok.2 _ fun H3 F3 G3 h3 m3 L3 hB3 hF3 => ?_)
      simp (maxSteps := 1000000) only [sx, fx, implies_true, evBuildSlice, fillE, fillA, Nat.reduceMul, Nat.reducePow, AV.isCell, Nat.reduceSub, here, plain, laid, Nat.reduceBEq, evOp, avOf, avCell, strOf, UInt8.reduceToNat, evBin, evInt, evStr, evUn, Nat.reduceEqDiff, Nat.reduceLT, evResults, evResultsL, reduceCtorEq, AV.isUndef, AV.cells, Nat.reduceAdd, Heap.store, Nat.reduceLeDiff, e39, e38, e37, e5, e7, wrap_succ (i := i) (by omega)]
      refine ⟨⟨hF3, i + 1, F3, G3, h3, m3, L3, hlt, rfl, hB3⟩, ?_⟩
      omega
    · obtain rfl : i = S.length := by omega
      simp (maxSteps := 1000000) only [sx, fx, implies_true, evBuildSlice, fillE, fillA, Nat.reduceMul, Nat.reducePow, AV.isCell, Nat.reduceSub, here, plain, laid, Nat.reduceBEq, evOp, avOf, avCell, strOf, UInt8.reduceToNat, evBin, evInt, evStr, evUn, Nat.reduceEqDiff, Nat.reduceLT, evResults, evResultsL, reduceCtorEq, AV.isUndef, AV.cells, Nat.reduceAdd, Heap.store, Nat.reduceLeDiff, e39, e38, e37, e5, e7, lt_false hlt]
      refine callStep (f16_ok _ hF' _ fun H2 hU2 hF2 => ?_)
      simp (maxSteps := 1000000) only [sx, fx, implies_true, evBuildSlice, fillE, fillA, Nat.reduceMul, Nat.reducePow, AV.isCell, Nat.reduceSub, here, plain, laid, Nat.reduceBEq, evOp, avOf, avCell, strOf, UInt8.reduceToNat, evBin, evInt, evStr, evUn, Nat.reduceEqDiff, Nat.reduceLT, evResults, evResultsL, reduceCtorEq, AV.isUndef, AV.cells, Nat.reduceAdd, Heap.store, Nat.reduceLeDiff]
      exact hQ _
end Go.Proofs.T
