import Derived.Test.YtakelljpblahbaaS1
set_option linter.unusedVariables false
set_option linter.unusedSimpArgs false
set_option maxRecDepth 100000
namespace Go.Proofs.T
open Go.Ev

/-- The end of a round of a loop that is left in its first round. -/
def OutEnd (P : Program) (n : Nat) (ks : List KItem) (Q : Ex → Env → Heap → Prop) (ex : Ex) (env : Env) (H : Heap) : Prop :=
  match ex with
  | .normal => False
  | ex => After P n ks ex env H Q
theorem outEnd_exit {P : Program} {n i : Nat} {ks : List KItem} {Q : Ex → Env → Heap → Prop} {env : Env} {H : Heap} : OutEnd P n ks Q (.exit i) env H = After P n ks (.exit i) env H Q := rfl
theorem outEnd_ret {P : Program} {n : Nat} {ks : List KItem} {Q : Ex → Env → Heap → Prop} {env : Env} {H : Heap} : OutEnd P n ks Q .ret env H = After P n ks .ret env H Q := rfl

theorem loopOut {P : Program} {n : Nat} {c : Code} {ks : List KItem} {Q : Ex → Env → Heap → Prop} {env : Env} {H : Heap} (h : After P n [.code c] .normal env H (OutEnd P n ks Q)) : LoopStep P n c ks env H Q := by
  refine loopStep (fun e h => e = env ∧ h = H) (fun _ _ => 0) ⟨rfl, rfl⟩ ?_
  rintro _ _ ⟨rfl, rfl⟩
  simp only [After] at h ⊢
  refine WC_mono c (fun ex env H h => ?_) h
  cases ex
  · exact h.elim
  · exact h
  · exact h

theorem f68_ok (k m : Int) (H : Heap) (hF : Free H) (K : AV → Heap → Prop) (hK : ∀ H', Up H H' → Free H' → K (.bool true) H') : WF Try.prog 68 [.agg (vi k m), .agg (vi k m)] H K := by
  refine WF_body Try.func68 (by kernel_rfl) rfl Try.ntmps68 (by rw [Try.results68]) (of_decide_eq_true (by kernel_rfl)) ?_
  simp (maxSteps := 1000000) only [sx, fx, implies_true, evBuildSlice, fillE, fillA, Nat.reduceMul, Nat.reducePow, AV.isCell, Nat.reduceSub, here, plain, laid, Nat.reduceBEq, evOp, avOf, avCell, strOf, UInt8.reduceToNat, evBin, evInt, evStr, evUn, Nat.reduceEqDiff, Nat.reduceLT, evResults, evResultsL, reduceCtorEq, AV.isUndef, AV.cells, Nat.reduceAdd, Heap.store, Nat.reduceLeDiff, hF.at, hF.hp, vi, bne_self_eq_false, BEq.rfl, len_nil' und28, len_nil' und51]
  refine loopOut ?_
  simp (maxSteps := 1000000) only [sx, fx, implies_true, evBuildSlice, fillE, fillA, Nat.reduceMul, Nat.reducePow, AV.isCell, Nat.reduceSub, here, plain, laid, Nat.reduceBEq, evOp, avOf, avCell, strOf, UInt8.reduceToNat, evBin, evInt, evStr, evUn, Nat.reduceEqDiff, Nat.reduceLT, evResults, evResultsL, reduceCtorEq, AV.isUndef, AV.cells, Nat.reduceAdd, Heap.store, Nat.reduceLeDiff, len_nil' und28, len_nil' und51, Int.lt_irrefl, outEnd_exit]
  refine loopOut ?_
  simp (maxSteps := 1000000) only [sx, fx, implies_true, evBuildSlice, fillE, fillA, Nat.reduceMul, Nat.reducePow, AV.isCell, Nat.reduceSub, here, plain, laid, Nat.reduceBEq, evOp, avOf, avCell, strOf, UInt8.reduceToNat, evBin, evInt, evStr, evUn, Nat.reduceEqDiff, Nat.reduceLT, evResults, evResultsL, reduceCtorEq, AV.isUndef, AV.cells, Nat.reduceAdd, Heap.store, Nat.reduceLeDiff, len_nil' und28, len_nil' und51, Int.lt_irrefl, outEnd_exit]
  exact hK _ (hF.hpU _) (hF.hpF _)

theorem f61_ok (H : Heap) (K : AV → Heap → Prop) (hK : K (.bool true) H) : WF Try.prog 61 [.nilslice, .nilslice] H K := by
  refine WF_body Try.func61 (by kernel_rfl) rfl Try.ntmps61 (by rw [Try.results61]) (of_decide_eq_true (by kernel_rfl)) ?_
  simp (maxSteps := 1000000) only [sx, fx, implies_true, evBuildSlice, fillE, fillA, Nat.reduceMul, Nat.reducePow, AV.isCell, Nat.reduceSub, here, plain, laid, Nat.reduceBEq, evOp, avOf, avCell, strOf, UInt8.reduceToNat, evBin, evInt, evStr, evUn, Nat.reduceEqDiff, Nat.reduceLT, evResults, evResultsL, reduceCtorEq, AV.isUndef, AV.cells, Nat.reduceAdd, Heap.store, Nat.reduceLeDiff, bne_self_eq_false, BEq.rfl, len_nil' und32]
  refine loopOut ?_
  simp (maxSteps := 1000000) only [sx, fx, implies_true, evBuildSlice, fillE, fillA, Nat.reduceMul, Nat.reducePow, AV.isCell, Nat.reduceSub, here, plain, laid, Nat.reduceBEq, evOp, avOf, avCell, strOf, UInt8.reduceToNat, evBin, evInt, evStr, evUn, Nat.reduceEqDiff, Nat.reduceLT, evResults, evResultsL, reduceCtorEq, AV.isUndef, AV.cells, Nat.reduceAdd, Heap.store, Nat.reduceLeDiff, len_nil' und32, Int.lt_irrefl, outEnd_exit]
  exact hK

theorem f62_ok {a b : AV} {L : List (List AV)} (H : Heap) (hF : Free H) (ha : Holds H 5 a L) (hb : Holds H 5 b L) (hL : ViL L) (hn : L.length ≤ 1000) (K : AV → Heap → Prop) (hK : ∀ H', Up H H' → Free H' → K (.bool true) H') : WF Try.prog 62 [a, b] H K := by
  refine WF_body Try.func62 (by kernel_rfl) rfl Try.ntmps62 (by rw [Try.results62]) (of_decide_eq_true (by kernel_rfl)) ?_
  simp (maxSteps := 1000000) only [sx, fx, implies_true, evBuildSlice, fillE, fillA, Nat.reduceMul, Nat.reducePow, AV.isCell, Nat.reduceSub, here, plain, laid, Nat.reduceBEq, evOp, avOf, avCell, strOf, UInt8.reduceToNat, evBin, evInt, evStr, evUn, Nat.reduceEqDiff, Nat.reduceLT, evResults, evResultsL, reduceCtorEq, AV.isUndef, AV.cells, Nat.reduceAdd, Heap.store, Nat.reduceLeDiff, bne_self_eq_false, BEq.rfl, ha.lenAt und28, hb.lenAt und28]
  refine loopStep' (fun env H' => Up H H' ∧ Free H' ∧ ∃ (i : Nat), i ≤ L.length ∧ env.at (.tmp 5) = .int .i64 i ∧ env.at (.tmp 0) = a ∧ env.at (.tmp 1) = b)
    (fun env H' => match env.at (.tmp 5) with | .int _ i => ((L.length : Int) - i).toNat | _ => 0) ?_ ?_
  · refine ⟨Up.refl _, hF, 0, Nat.zero_le _, ?_, ?_, ?_⟩
    · simp only [sx, fx, implies_true, evBuildSlice, fillE, fillA, splice, Nat.reduceMul, Nat.reducePow, AV.isCell, Nat.reduceSub, here, plain, laid, Nat.reduceBEq, evOp, avOf, avCell, strOf, UInt8.reduceToNat, evBin, evInt, evStr, evUn, Nat.reduceEqDiff, Nat.reduceLT, evResults, evResultsL, reduceCtorEq, AV.isUndef, AV.cells, Nat.reduceAdd, Heap.store, Nat.reduceLeDiff]; rfl
    · simp only [sx, fx, implies_true, evBuildSlice, fillE, fillA, splice, Nat.reduceMul, Nat.reducePow, AV.isCell, Nat.reduceSub, here, plain, laid, Nat.reduceBEq, evOp, avOf, avCell, strOf, UInt8.reduceToNat, evBin, evInt, evStr, evUn, Nat.reduceEqDiff, Nat.reduceLT, evResults, evResultsL, reduceCtorEq, AV.isUndef, AV.cells, Nat.reduceAdd, Heap.store, Nat.reduceLeDiff]
    · simp only [sx, fx, implies_true, evBuildSlice, fillE, fillA, splice, Nat.reduceMul, Nat.reducePow, AV.isCell, Nat.reduceSub, here, plain, laid, Nat.reduceBEq, evOp, avOf, avCell, strOf, UInt8.reduceToNat, evBin, evInt, evStr, evUn, Nat.reduceEqDiff, Nat.reduceLT, evResults, evResultsL, reduceCtorEq, AV.isUndef, AV.cells, Nat.reduceAdd, Heap.store, Nat.reduceLeDiff]
  · rintro env H' ⟨hU, hF', i, hi, e5, e0, e1⟩
    by_cases hlt : i < L.length
    · obtain ⟨cs, hcs⟩ : ∃ cs, L[i]? = some cs := ⟨_, List.getElem?_eq_getElem hlt⟩
      obtain ⟨k, n, rfl⟩ := hL cs (List.mem_of_getElem? hcs)
      obtain ⟨p, hp, hload, _⟩ := (ha.up hU).index und28 sz60 .i64 hcs
      obtain ⟨q, hq, hload', _⟩ := (hb.up hU).index und28 sz60 .i64 hcs
      simp (maxSteps := 1000000) only [sx, fx, implies_true, evBuildSlice, fillE, fillA, Nat.reduceMul, Nat.reducePow, AV.isCell, Nat.reduceSub, here, plain, laid, Nat.reduceBEq, evOp, avOf, avCell, strOf, UInt8.reduceToNat, evBin, evInt, evStr, evUn, Nat.reduceEqDiff, Nat.reduceLT, evResults, evResultsL, reduceCtorEq, AV.isUndef, AV.cells, Nat.reduceAdd, Heap.store, Nat.reduceLeDiff, e5, e0, e1, lt_true hlt, ha.lenAt und28]
      refine drawStep [] [0, 1, 2, 3, 4, 5, 6, 7, 8, 9] _ rfl (by kernel_rfl) ?_
      simp (maxSteps := 1000000) only [sx, fx, implies_true, evBuildSlice, fillE, fillA, Nat.reduceMul, Nat.reducePow, AV.isCell, Nat.reduceSub, here, plain, laid, Nat.reduceBEq, evOp, avOf, avCell, strOf, UInt8.reduceToNat, evBin, evInt, evStr, evUn, Nat.reduceEqDiff, Nat.reduceLT, evResults, evResultsL, reduceCtorEq, AV.isUndef, AV.cells, Nat.reduceAdd, Heap.store, Nat.reduceLeDiff, e5, e0, e1, hp, hq, hload _ (Up.refl _), hload' _ (Up.refl _)]
      refine callStep (f68_ok k n _ hF' _ fun H2 hU2 hF2 => ?_)
      simp (maxSteps := 1000000) only [sx, fx, implies_true, evBuildSlice, fillE, fillA, Nat.reduceMul, Nat.reducePow, AV.isCell, Nat.reduceSub, here, plain, laid, Nat.reduceBEq, evOp, avOf, avCell, strOf, UInt8.reduceToNat, evBin, evInt, evStr, evUn, Nat.reduceEqDiff, Nat.reduceLT, evResults, evResultsL, reduceCtorEq, AV.isUndef, AV.cells, Nat.reduceAdd, Heap.store, Nat.reduceLeDiff, e5, e0, e1, wrap_succ (i := i) (by omega)]
      refine ⟨⟨hU.trans hU2, hF2, i + 1, hlt, rfl⟩, ?_⟩
      omega
    · obtain rfl : i = L.length := by omega
      simp (maxSteps := 1000000) only [sx, fx, implies_true, evBuildSlice, fillE, fillA, Nat.reduceMul, Nat.reducePow, AV.isCell, Nat.reduceSub, here, plain, laid, Nat.reduceBEq, evOp, avOf, avCell, strOf, UInt8.reduceToNat, evBin, evInt, evStr, evUn, Nat.reduceEqDiff, Nat.reduceLT, evResults, evResultsL, reduceCtorEq, AV.isUndef, AV.cells, Nat.reduceAdd, Heap.store, Nat.reduceLeDiff, e5, e0, e1, lt_false hlt, ha.lenAt und28]
      exact hK _ hU hF'

/-- A machine's cells. -/
def mc (g : AV) (sq nw : Int) : List AV := [g, .nilslice, .nilslice, .nilslice, .int .i64 sq, .int .i64 nw, .int .i64 0, .int .i64 0, .nilslice, .nilslice, .nilslice, .bool false, .bool false, .nilslice, .int .i64 0]

theorem f66_ok (a b : AV) (ha : a.isCell = true) (hb : b.isCell = true) (sq nw : Int) (H : Heap) (hF : Free H) (K : AV → Heap → Prop) (hK : ∀ H', Up H H' → Free H' → K (.bool true) H') : WF Try.prog 66 [.agg (mc a sq nw), .agg (mc b sq nw)] H K := by
  refine WF_body Try.func66 (by kernel_rfl) rfl Try.ntmps66 (by rw [Try.results66]) (of_decide_eq_true (by kernel_rfl)) ?_
  simp (maxSteps := 1000000) only [sx, fx, implies_true, evBuildSlice, fillE, fillA, Nat.reduceMul, Nat.reducePow, AV.isCell, Nat.reduceSub, here, plain, laid, Nat.reduceBEq, evOp, avOf, avCell, strOf, UInt8.reduceToNat, evBin, evInt, evStr, evUn, Nat.reduceEqDiff, Nat.reduceLT, evResults, evResultsL, reduceCtorEq, AV.isUndef, AV.cells, Nat.reduceAdd, Heap.store, Nat.reduceLeDiff, hF.at, hF.hp, mc, bne_self_eq_false, BEq.rfl, len_nil' und29, len_nil' und30, len_nil' und31, ha, hb]
  refine loopOut ?_
  simp (maxSteps := 1000000) only [sx, fx, implies_true, evBuildSlice, fillE, fillA, Nat.reduceMul, Nat.reducePow, AV.isCell, Nat.reduceSub, here, plain, laid, Nat.reduceBEq, evOp, avOf, avCell, strOf, UInt8.reduceToNat, evBin, evInt, evStr, evUn, Nat.reduceEqDiff, Nat.reduceLT, evResults, evResultsL, reduceCtorEq, AV.isUndef, AV.cells, Nat.reduceAdd, Heap.store, Nat.reduceLeDiff, len_nil' und29, len_nil' und30, len_nil' und31, Int.lt_irrefl, outEnd_exit]
  refine loopOut ?_
  simp (maxSteps := 1000000) only [sx, fx, implies_true, evBuildSlice, fillE, fillA, Nat.reduceMul, Nat.reducePow, AV.isCell, Nat.reduceSub, here, plain, laid, Nat.reduceBEq, evOp, avOf, avCell, strOf, UInt8.reduceToNat, evBin, evInt, evStr, evUn, Nat.reduceEqDiff, Nat.reduceLT, evResults, evResultsL, reduceCtorEq, AV.isUndef, AV.cells, Nat.reduceAdd, Heap.store, Nat.reduceLeDiff, len_nil' und29, len_nil' und30, len_nil' und31, Int.lt_irrefl, outEnd_exit]
  refine loopOut ?_
  simp (maxSteps := 1000000) only [sx, fx, implies_true, evBuildSlice, fillE, fillA, Nat.reduceMul, Nat.reducePow, AV.isCell, Nat.reduceSub, here, plain, laid, Nat.reduceBEq, evOp, avOf, avCell, strOf, UInt8.reduceToNat, evBin, evInt, evStr, evUn, Nat.reduceEqDiff, Nat.reduceLT, evResults, evResultsL, reduceCtorEq, AV.isUndef, AV.cells, Nat.reduceAdd, Heap.store, Nat.reduceLeDiff, len_nil' und29, len_nil' und30, len_nil' und31, Int.lt_irrefl, outEnd_exit]
  exact hK _ (hF.hpU _) (hF.hpF _)

theorem f60_ok {a b : AV} {L : List (List AV)} (sq nw : Int) (H : Heap) (hF : Free H) (ha : Holds H 5 a L) (hb : Holds H 5 b L) (hL : ViL L) (hn : L.length ≤ 1000) (K : AV → Heap → Prop) (hK : ∀ H', Up H H' → Free H' → K (.bool true) H') : WF Try.prog 60 [.agg (mc a sq nw), .agg (mc b sq nw)] H K := by
  refine WF_body Try.func60 (by kernel_rfl) rfl Try.ntmps60 (by rw [Try.results60]) (of_decide_eq_true (by kernel_rfl)) ?_
  have hac := holds_isCell ha
  have hbc := holds_isCell hb
  simp (maxSteps := 1000000) only [sx, fx, implies_true, evBuildSlice, fillE, fillA, Nat.reduceMul, Nat.reducePow, AV.isCell, Nat.reduceSub, here, plain, laid, Nat.reduceBEq, evOp, avOf, avCell, strOf, UInt8.reduceToNat, evBin, evInt, evStr, evUn, Nat.reduceEqDiff, Nat.reduceLT, evResults, evResultsL, reduceCtorEq, AV.isUndef, AV.cells, Nat.reduceAdd, Heap.store, Nat.reduceLeDiff, hF.at, hF.hp, mc, hac, hbc]
  refine callStep (f62_ok _ (hF.hpF _) (ha.up (hF.hpU _)) (hb.up (hF.hpU _)) hL hn _ fun H2 hU2 hF2 => ?_)
  have b0 : H2.blk H.next = some (.row 35 15 [mc a sq nw] 0 0) := hU2 _ _ (by rw [hp_blk0]; rfl)
  have b1 : H2.blk (H.next + 1) = some (.row 35 15 [mc b sq nw] 0 0) := hU2 _ _ (by rw [hp_blk]; rfl)
  simp only [mc] at b0 b1
  simp (maxSteps := 1000000) only [sx, fx, implies_true, evBuildSlice, fillE, fillA, Nat.reduceMul, Nat.reducePow, AV.isCell, Nat.reduceSub, here, plain, laid, Nat.reduceBEq, evOp, avOf, avCell, strOf, UInt8.reduceToNat, evBin, evInt, evStr, evUn, Nat.reduceEqDiff, Nat.reduceLT, evResults, evResultsL, reduceCtorEq, AV.isUndef, AV.cells, Nat.reduceAdd, Heap.store, Nat.reduceLeDiff, b0, b1]
  refine callStep (f66_ok a b hac hbc sq nw _ hF2 _ fun H3 hU3 hF3 => ?_)
  have c0 := hU3 _ _ b0
  have c1 := hU3 _ _ b1
  simp (maxSteps := 1000000) only [sx, fx, implies_true, evBuildSlice, fillE, fillA, Nat.reduceMul, Nat.reducePow, AV.isCell, Nat.reduceSub, here, plain, laid, Nat.reduceBEq, evOp, avOf, avCell, strOf, UInt8.reduceToNat, evBin, evInt, evStr, evUn, Nat.reduceEqDiff, Nat.reduceLT, evResults, evResultsL, reduceCtorEq, AV.isUndef, AV.cells, Nat.reduceAdd, Heap.store, Nat.reduceLeDiff, c0, c1]
  refine callStep (f61_ok _ _ ?_)
  simp (maxSteps := 1000000) only [sx, fx, implies_true, evBuildSlice, fillE, fillA, Nat.reduceMul, Nat.reducePow, AV.isCell, Nat.reduceSub, here, plain, laid, Nat.reduceBEq, evOp, avOf, avCell, strOf, UInt8.reduceToNat, evBin, evInt, evStr, evUn, Nat.reduceEqDiff, Nat.reduceLT, evResults, evResultsL, reduceCtorEq, AV.isUndef, AV.cells, Nat.reduceAdd, Heap.store, Nat.reduceLeDiff, c0, c1, bne_self_eq_false, BEq.rfl, len_nil' und33]
  refine loopOut ?_
  simp (maxSteps := 1000000) only [sx, fx, implies_true, evBuildSlice, fillE, fillA, Nat.reduceMul, Nat.reducePow, AV.isCell, Nat.reduceSub, here, plain, laid, Nat.reduceBEq, evOp, avOf, avCell, strOf, UInt8.reduceToNat, evBin, evInt, evStr, evUn, Nat.reduceEqDiff, Nat.reduceLT, evResults, evResultsL, reduceCtorEq, AV.isUndef, AV.cells, Nat.reduceAdd, Heap.store, Nat.reduceLeDiff, c0, c1, len_nil' und33, Int.lt_irrefl, outEnd_exit, BEq.rfl, bool_ok, bool_eqA]
  exact hK _ (((hF.hpU _).trans hU2).trans hU3) hF3
end Go.Proofs.T
