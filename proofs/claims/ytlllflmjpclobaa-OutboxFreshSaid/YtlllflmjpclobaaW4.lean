import Derived.Test.YtlllflmjpclobaaW2
set_option linter.unusedVariables false
set_option linter.unusedSimpArgs false
set_option linter.unusedVariables false
set_option linter.unusedSimpArgs false
set_option maxRecDepth 100000
namespace Go.Proofs.T
open Go.Ev

set_option maxHeartbeats 4000000 in
theorem f79_ok {s ev : Int} {nm : List Nat} {d o : List AV} {x5 x6 x7 x8 x9 x10 x11 : Int} {cn : Bool} {dt : List AV} {fl : List Nat} {H : Heap} (hdl : d.length = 5) (hol : o.length = 10) (htl : dt.length = 5) (hdc : d.all AV.isCell = true) (hoc : o.all AV.isCell = true) (hF : Free H) (K : AV → Heap → Prop)
    (hK : ∀ H', Up H H' → Free H' → K (.agg (actC s ev nm d o 1 1 x7 x7 0 0 0 cn zv [])) H') : WF Try.prog 79 [.agg (actC s ev nm d o x5 x6 x7 x8 x9 x10 x11 cn dt fl)] H K := by
  obtain ⟨d0, d1, d2, d3, d4, rfl⟩ := five hdl
  obtain ⟨o0, o1, o2, o3, o4, o5, o6, o7, o8, o9, rfl⟩ := ten hol
  obtain ⟨t0, t1, t2, t3, t4, rfl⟩ := five htl
  simp only [List.all_cons, List.all_nil, Bool.and_eq_true, Bool.and_true] at hdc hoc
  obtain ⟨hcd0, hcd1, hcd2, hcd3, hcd4⟩ := hdc
  obtain ⟨hco0, hco1, hco2, hco3, hco4, hco5, hco6, hco7, hco8, hco9⟩ := hoc
  refine WF_body Try.func79 (by kernel_rfl) rfl Try.ntmps79 (by rw [Try.results79]) (of_decide_eq_true (by kernel_rfl)) ?_
  simp (maxSteps := 1000000) only [actC, List.cons_append, List.nil_append, sx, fx, icI, icS, icB, icN, icL, implies_true, evBuildSlice, fillE, fillA, here, plain, laid, evOp, avOf, avCell, strOf, evBin, evInt, evStr, evUn, evResults, evResultsL, AV.isUndef, AV.cells, Heap.store, wbool_off, after_scope, Nat.reduceMul, Nat.reducePow, Nat.reduceSub, Nat.reduceBEq, UInt8.reduceToNat, Nat.reduceEqDiff, Nat.reduceLT, reduceCtorEq, Nat.reduceAdd, Nat.reduceLeDiff, splice, hF.at, hF.hp, hcd0, hcd1, hcd2, hcd3, hcd4, hco0, hco1, hco2, hco3, hco4, hco5, hco6, hco7, hco8, hco9]
  exact hK _ (hF.hpU _) (hF.hpF _)

theorem f83_ok {pc : List AV} {v : AV} {L : List (List AV)} {s : List Nat} {H : Heap} (hF : Free H) (hl : pc.length = 24) (hv' : (pc.drop 22).take 1 = [v]) (hv : Holds H 2 v L) (hn : L.length < 2 ^ 60) (hL : ∀ c ∈ L, UpdR c) (K : AV → Heap → Prop)
    (h1 : ∀ (i : Nat) H', i < L.length → Up H H' → Free H' → K (.int .i64 i) H') (h2 : ∀ H', Up H H' → Free H' → K (.int .i64 (-1)) H') : WF Try.prog 83 [.agg pc, .str s] H K := by
  refine WF_body Try.func83 (by kernel_rfl) rfl Try.ntmps83 (by rw [Try.results83]) (of_decide_eq_true (by kernel_rfl)) ?_
  simp (maxSteps := 1000000) only [sx, fx, implies_true, evBuildSlice, fillE, fillA, AV.isCell, here, plain, laid, evOp, avOf, avCell, strOf, evBin, evInt, evStr, evUn, evResults, evResultsL, AV.isUndef, AV.cells, Heap.store, wbool_off, after_scope, Nat.reduceMul, Nat.reducePow, Nat.reduceSub, Nat.reduceBEq, UInt8.reduceToNat, Nat.reduceEqDiff, Nat.reduceLT, reduceCtorEq, Nat.reduceAdd, Nat.reduceLeDiff, hF.at, hF.hp, hl]
  generalize hH1 : HP H [Blk.row 33 24 [pc] 0 0] = H1
  have hb : H1.blk H.next = some (.row 33 24 [pc] 0 0) := by rw [← hH1, hp_blk0]; rfl
  have hF1 : Free H1 := hH1 ▸ hF.hpF _
  have hU1 : Up H H1 := hH1 ▸ hF.hpU _
  have hv1 := hv.up hU1
  refine loopStep' (fun env H' => H' = H1 ∧ ∃ (i : Nat), i ≤ L.length ∧ env.at (.tmp 5) = .int .i64 i ∧ env.at (.tmp 1) = .str s ∧ env.at (.tmp 2) = .ptr H.next 0 0 0)
    (fun env H' => match env.at (.tmp 5) with | .int _ i => ((L.length : Int) - i).toNat | _ => 0) ?_ ?_
  · exact ⟨rfl, 0, Nat.zero_le _, by simp only [sx, fx, implies_true, evBuildSlice, fillE, fillA, AV.isCell, here, plain, laid, evOp, avOf, avCell, strOf, evBin, evInt, evStr, evUn, evResults, evResultsL, AV.isUndef, AV.cells, Heap.store, wbool_off, after_scope, Nat.reduceMul, Nat.reducePow, Nat.reduceSub, Nat.reduceBEq, UInt8.reduceToNat, Nat.reduceEqDiff, Nat.reduceLT, reduceCtorEq, Nat.reduceAdd, Nat.reduceLeDiff]; rfl, by simp only [sx, fx, implies_true, evBuildSlice, fillE, fillA, AV.isCell, here, plain, laid, evOp, avOf, avCell, strOf, evBin, evInt, evStr, evUn, evResults, evResultsL, AV.isUndef, AV.cells, Heap.store, wbool_off, after_scope, Nat.reduceMul, Nat.reducePow, Nat.reduceSub, Nat.reduceBEq, UInt8.reduceToNat, Nat.reduceEqDiff, Nat.reduceLT, reduceCtorEq, Nat.reduceAdd, Nat.reduceLeDiff], by simp only [sx, fx, implies_true, evBuildSlice, fillE, fillA, AV.isCell, here, plain, laid, evOp, avOf, avCell, strOf, evBin, evInt, evStr, evUn, evResults, evResultsL, AV.isUndef, AV.cells, Heap.store, wbool_off, after_scope, Nat.reduceMul, Nat.reducePow, Nat.reduceSub, Nat.reduceBEq, UInt8.reduceToNat, Nat.reduceEqDiff, Nat.reduceLT, reduceCtorEq, Nat.reduceAdd, Nat.reduceLeDiff]⟩
  · rintro env H' ⟨rfl, i, hi, e5, e1, e2⟩
    by_cases hlt : i < L.length
    · obtain ⟨c, hc⟩ : ∃ c, L[i]? = some c := ⟨_, List.getElem?_eq_getElem hlt⟩
      obtain ⟨q, b, rfl⟩ := hL c (List.mem_of_getElem? hc)
      have hw := wrap_succ (i := i) (by omega)
      rcases index2 hv1 und31 sz120 .i64 hc with hp | ⟨b', j, g, ty, els, gen, wgen, hp, hbk, hwg, hel⟩
      · cases hx : (q == s) with
        | true =>
          simp (maxSteps := 1000000) only [sx, fx, implies_true, evBuildSlice, fillE, fillA, AV.isCell, here, plain, laid, evOp, avOf, avCell, strOf, evBin, evInt, evStr, evUn, evResults, evResultsL, AV.isUndef, AV.cells, Heap.store, wbool_off, after_scope, Nat.reduceMul, Nat.reducePow, Nat.reduceSub, Nat.reduceBEq, UInt8.reduceToNat, Nat.reduceEqDiff, Nat.reduceLT, reduceCtorEq, Nat.reduceAdd, Nat.reduceLeDiff, e5, e1, e2, hb, hv', hv1.lenAt und31, lt_true hlt, hp, hx]
          exact h1 i _ hlt hU1 hF1
        | false =>
          simp (maxSteps := 1000000) only [sx, fx, implies_true, evBuildSlice, fillE, fillA, AV.isCell, here, plain, laid, evOp, avOf, avCell, strOf, evBin, evInt, evStr, evUn, evResults, evResultsL, AV.isUndef, AV.cells, Heap.store, wbool_off, after_scope, Nat.reduceMul, Nat.reducePow, Nat.reduceSub, Nat.reduceBEq, UInt8.reduceToNat, Nat.reduceEqDiff, Nat.reduceLT, reduceCtorEq, Nat.reduceAdd, Nat.reduceLeDiff, e5, e1, e2, hb, hv', hv1.lenAt und31, lt_true hlt, hp, hx, hw]
          refine ⟨⟨i + 1, hlt, rfl⟩, ?_⟩
          omega
      · cases hx : (q == s) with
        | true =>
          simp (maxSteps := 1000000) only [sx, fx, implies_true, evBuildSlice, fillE, fillA, AV.isCell, here, plain, laid, evOp, avOf, avCell, strOf, evBin, evInt, evStr, evUn, evResults, evResultsL, AV.isUndef, AV.cells, Heap.store, wbool_off, after_scope, Nat.reduceMul, Nat.reducePow, Nat.reduceSub, Nat.reduceBEq, UInt8.reduceToNat, Nat.reduceEqDiff, Nat.reduceLT, reduceCtorEq, Nat.reduceAdd, Nat.reduceLeDiff, e5, e1, e2, hb, hv', hv1.lenAt und31, lt_true hlt, hp, hbk, hwg, hel, hx]
          exact h1 i _ hlt hU1 hF1
        | false =>
          simp (maxSteps := 1000000) only [sx, fx, implies_true, evBuildSlice, fillE, fillA, AV.isCell, here, plain, laid, evOp, avOf, avCell, strOf, evBin, evInt, evStr, evUn, evResults, evResultsL, AV.isUndef, AV.cells, Heap.store, wbool_off, after_scope, Nat.reduceMul, Nat.reducePow, Nat.reduceSub, Nat.reduceBEq, UInt8.reduceToNat, Nat.reduceEqDiff, Nat.reduceLT, reduceCtorEq, Nat.reduceAdd, Nat.reduceLeDiff, e5, e1, e2, hb, hv', hv1.lenAt und31, lt_true hlt, hp, hbk, hwg, hel, hx, hw]
          refine ⟨⟨i + 1, hlt, rfl⟩, ?_⟩
          omega
    · simp (maxSteps := 1000000) only [sx, fx, implies_true, evBuildSlice, fillE, fillA, AV.isCell, here, plain, laid, evOp, avOf, avCell, strOf, evBin, evInt, evStr, evUn, evResults, evResultsL, AV.isUndef, AV.cells, Heap.store, wbool_off, after_scope, Nat.reduceMul, Nat.reducePow, Nat.reduceSub, Nat.reduceBEq, UInt8.reduceToNat, Nat.reduceEqDiff, Nat.reduceLT, reduceCtorEq, Nat.reduceAdd, Nat.reduceLeDiff, e5, e1, e2, hb, hv', hv1.lenAt und31, lt_false hlt]
      exact h2 _ hU1 hF1

theorem f84_ok {pc : List AV} {v : AV} {L : List (List AV)} {s : List Nat} {H : Heap} (hF : Free H) (hl : pc.length = 24) (hv' : (pc.drop 23).take 1 = [v]) (hv : Holds H 1 v L) (hn : L.length < 2 ^ 60) (hL : ∀ c ∈ L, ∃ s, c = [.str s]) (K : AV → Heap → Prop)
    (h1 : ∀ H', Up H H' → Free H' → K (.bool true) H') (h2 : ∀ H', Up H H' → Free H' → K (.bool false) H') : WF Try.prog 84 [.agg pc, .str s] H K := by
  refine WF_body Try.func84 (by kernel_rfl) rfl Try.ntmps84 (by rw [Try.results84]) (of_decide_eq_true (by kernel_rfl)) ?_
  simp (maxSteps := 1000000) only [sx, fx, implies_true, evBuildSlice, fillE, fillA, AV.isCell, here, plain, laid, evOp, avOf, avCell, strOf, evBin, evInt, evStr, evUn, evResults, evResultsL, AV.isUndef, AV.cells, Heap.store, wbool_off, after_scope, Nat.reduceMul, Nat.reducePow, Nat.reduceSub, Nat.reduceBEq, UInt8.reduceToNat, Nat.reduceEqDiff, Nat.reduceLT, reduceCtorEq, Nat.reduceAdd, Nat.reduceLeDiff, hF.at, hF.hp, hl]
  generalize hH1 : HP H [Blk.row 33 24 [pc] 0 0] = H1
  have hb : H1.blk H.next = some (.row 33 24 [pc] 0 0) := by rw [← hH1, hp_blk0]; rfl
  have hF1 : Free H1 := hH1 ▸ hF.hpF _
  have hU1 : Up H H1 := hH1 ▸ hF.hpU _
  have hv1 := hv.up hU1
  refine loopStep' (fun env H' => H' = H1 ∧ ∃ (i : Nat), i ≤ L.length ∧ env.at (.tmp 5) = .int .i64 i ∧ env.at (.tmp 1) = .str s ∧ env.at (.tmp 2) = .ptr H.next 0 0 0)
    (fun env H' => match env.at (.tmp 5) with | .int _ i => ((L.length : Int) - i).toNat | _ => 0) ?_ ?_
  · exact ⟨rfl, 0, Nat.zero_le _, by simp only [sx, fx, implies_true, evBuildSlice, fillE, fillA, AV.isCell, here, plain, laid, evOp, avOf, avCell, strOf, evBin, evInt, evStr, evUn, evResults, evResultsL, AV.isUndef, AV.cells, Heap.store, wbool_off, after_scope, Nat.reduceMul, Nat.reducePow, Nat.reduceSub, Nat.reduceBEq, UInt8.reduceToNat, Nat.reduceEqDiff, Nat.reduceLT, reduceCtorEq, Nat.reduceAdd, Nat.reduceLeDiff]; rfl, by simp only [sx, fx, implies_true, evBuildSlice, fillE, fillA, AV.isCell, here, plain, laid, evOp, avOf, avCell, strOf, evBin, evInt, evStr, evUn, evResults, evResultsL, AV.isUndef, AV.cells, Heap.store, wbool_off, after_scope, Nat.reduceMul, Nat.reducePow, Nat.reduceSub, Nat.reduceBEq, UInt8.reduceToNat, Nat.reduceEqDiff, Nat.reduceLT, reduceCtorEq, Nat.reduceAdd, Nat.reduceLeDiff], by simp only [sx, fx, implies_true, evBuildSlice, fillE, fillA, AV.isCell, here, plain, laid, evOp, avOf, avCell, strOf, evBin, evInt, evStr, evUn, evResults, evResultsL, AV.isUndef, AV.cells, Heap.store, wbool_off, after_scope, Nat.reduceMul, Nat.reducePow, Nat.reduceSub, Nat.reduceBEq, UInt8.reduceToNat, Nat.reduceEqDiff, Nat.reduceLT, reduceCtorEq, Nat.reduceAdd, Nat.reduceLeDiff]⟩
  · rintro env H' ⟨rfl, i, hi, e5, e1, e2⟩
    by_cases hlt : i < L.length
    · obtain ⟨c, hc⟩ : ∃ c, L[i]? = some c := ⟨_, List.getElem?_eq_getElem hlt⟩
      obtain ⟨q, rfl⟩ := hL c (List.mem_of_getElem? hc)
      have hw := wrap_succ (i := i) (by omega)
      rcases index2 hv1 und24 sz9 .i64 hc with hp | ⟨b, j, g, ty, els, gen, wgen, hp, hbk, hwg, hel⟩
      · cases hx : (q == s) with
        | true =>
          simp (maxSteps := 1000000) only [sx, fx, implies_true, evBuildSlice, fillE, fillA, AV.isCell, here, plain, laid, evOp, avOf, avCell, strOf, evBin, evInt, evStr, evUn, evResults, evResultsL, AV.isUndef, AV.cells, Heap.store, wbool_off, after_scope, Nat.reduceMul, Nat.reducePow, Nat.reduceSub, Nat.reduceBEq, UInt8.reduceToNat, Nat.reduceEqDiff, Nat.reduceLT, reduceCtorEq, Nat.reduceAdd, Nat.reduceLeDiff, e5, e1, e2, hb, hv', hv1.lenAt und24, lt_true hlt, hp, hx]
          exact h1 _ hU1 hF1
        | false =>
          simp (maxSteps := 1000000) only [sx, fx, implies_true, evBuildSlice, fillE, fillA, AV.isCell, here, plain, laid, evOp, avOf, avCell, strOf, evBin, evInt, evStr, evUn, evResults, evResultsL, AV.isUndef, AV.cells, Heap.store, wbool_off, after_scope, Nat.reduceMul, Nat.reducePow, Nat.reduceSub, Nat.reduceBEq, UInt8.reduceToNat, Nat.reduceEqDiff, Nat.reduceLT, reduceCtorEq, Nat.reduceAdd, Nat.reduceLeDiff, e5, e1, e2, hb, hv', hv1.lenAt und24, lt_true hlt, hp, hx, hw]
          refine ⟨⟨i + 1, hlt, rfl⟩, ?_⟩
          omega
      · cases hx : (q == s) with
        | true =>
          simp (maxSteps := 1000000) only [sx, fx, implies_true, evBuildSlice, fillE, fillA, AV.isCell, here, plain, laid, evOp, avOf, avCell, strOf, evBin, evInt, evStr, evUn, evResults, evResultsL, AV.isUndef, AV.cells, Heap.store, wbool_off, after_scope, Nat.reduceMul, Nat.reducePow, Nat.reduceSub, Nat.reduceBEq, UInt8.reduceToNat, Nat.reduceEqDiff, Nat.reduceLT, reduceCtorEq, Nat.reduceAdd, Nat.reduceLeDiff, e5, e1, e2, hb, hv', hv1.lenAt und24, lt_true hlt, hp, hbk, hwg, hel, hx]
          exact h1 _ hU1 hF1
        | false =>
          simp (maxSteps := 1000000) only [sx, fx, implies_true, evBuildSlice, fillE, fillA, AV.isCell, here, plain, laid, evOp, avOf, avCell, strOf, evBin, evInt, evStr, evUn, evResults, evResultsL, AV.isUndef, AV.cells, Heap.store, wbool_off, after_scope, Nat.reduceMul, Nat.reducePow, Nat.reduceSub, Nat.reduceBEq, UInt8.reduceToNat, Nat.reduceEqDiff, Nat.reduceLT, reduceCtorEq, Nat.reduceAdd, Nat.reduceLeDiff, e5, e1, e2, hb, hv', hv1.lenAt und24, lt_true hlt, hp, hbk, hwg, hel, hx, hw]
          refine ⟨⟨i + 1, hlt, rfl⟩, ?_⟩
          omega
    · simp (maxSteps := 1000000) only [sx, fx, implies_true, evBuildSlice, fillE, fillA, AV.isCell, here, plain, laid, evOp, avOf, avCell, strOf, evBin, evInt, evStr, evUn, evResults, evResultsL, AV.isUndef, AV.cells, Heap.store, wbool_off, after_scope, Nat.reduceMul, Nat.reducePow, Nat.reduceSub, Nat.reduceBEq, UInt8.reduceToNat, Nat.reduceEqDiff, Nat.reduceLT, reduceCtorEq, Nat.reduceAdd, Nat.reduceLeDiff, e5, e1, e2, hb, hv', hv1.lenAt und24, lt_false hlt]
      exact h2 _ hU1 hF1
end Go.Proofs.T
