import Derived.Test.YtlllflmjpclobaaV1
set_option linter.unusedVariables false
set_option linter.unusedSimpArgs false
set_option linter.unusedVariables false
set_option linter.unusedSimpArgs false
set_option maxRecDepth 100000
namespace Go.Proofs.T
open Go.Ev

theorem f94_ok : ∀ (n : Nat) (H : Heap) (cs : List AV), VR n H cs → Free H → ∀ (K : AV → Heap → Prop), (∀ b H', Up H H' → Free H' → K (.bool b) H') → WF Try.prog 94 [.agg cs] H K := by
  intro n
  induction n with
  | zero => intro H cs h; exact h.elim
  | succ n ih =>
    intro H cs h hF K hK
    obtain ⟨k, ix, s, v, w, L, M, rfl, hv, hvn, hvc, hw, hwn, hwc⟩ := h
    refine WF_body Try.func94 (by kernel_rfl) rfl Try.ntmps94 (by rw [Try.results94]) (of_decide_eq_true (by kernel_rfl)) ?_
    simp (maxSteps := 1000000) only [sx, fx, implies_true, evBuildSlice, fillE, fillA, AV.isCell, here, plain, laid, evOp, avOf, avCell, strOf, evBin, evInt, evStr, evUn, evResults, evResultsL, AV.isUndef, AV.cells, Heap.store, wbool_off, after_scope, Nat.reduceMul, Nat.reducePow, Nat.reduceSub, Nat.reduceBEq, UInt8.reduceToNat, Nat.reduceEqDiff, Nat.reduceLT, reduceCtorEq, Nat.reduceAdd, Nat.reduceLeDiff, hF.at, hF.hp, ln9]
    generalize hH1 : HP H [Blk.row 26 5 [[.int .i64 k, .int .i64 ix, .str s, v, w]] 0 0] = H1
    have hb : H1.blk H.next = some (.row 26 5 [[.int .i64 k, .int .i64 ix, .str s, v, w]] 0 0) := by rw [← hH1, hp_blk0]; rfl
    have hF1 : Free H1 := hH1 ▸ hF.hpF _
    have hU1 : Up H H1 := hH1 ▸ hF.hpU _
    by_cases hs : (s.length : Int) > 4096
    · simp (maxSteps := 1000000) only [sx, fx, implies_true, evBuildSlice, fillE, fillA, AV.isCell, here, plain, laid, evOp, avOf, avCell, strOf, evBin, evInt, evStr, evUn, evResults, evResultsL, AV.isUndef, AV.cells, Heap.store, wbool_off, after_scope, Nat.reduceMul, Nat.reducePow, Nat.reduceSub, Nat.reduceBEq, UInt8.reduceToNat, Nat.reduceEqDiff, Nat.reduceLT, reduceCtorEq, Nat.reduceAdd, Nat.reduceLeDiff, hb, hs, ln9]
      exact hK _ _ hU1 hF1
    simp (maxSteps := 1000000) only [sx, fx, implies_true, evBuildSlice, fillE, fillA, AV.isCell, here, plain, laid, evOp, avOf, avCell, strOf, evBin, evInt, evStr, evUn, evResults, evResultsL, AV.isUndef, AV.cells, Heap.store, wbool_off, after_scope, Nat.reduceMul, Nat.reducePow, Nat.reduceSub, Nat.reduceBEq, UInt8.reduceToNat, Nat.reduceEqDiff, Nat.reduceLT, reduceCtorEq, Nat.reduceAdd, Nat.reduceLeDiff, hb, hs, ln9]
    refine loopStepR (fun env H' => H' = H1 ∧ ∃ (i : Nat), i ≤ M.length ∧ env.at (.tmp 3) = .int .i64 i ∧ env.at (.tmp 1) = .ptr H.next 0 0 0)
      (fun env H' => match env.at (.tmp 3) with | .int _ i => ((M.length : Int) - i).toNat | _ => 0)
      (fun ex env H' => H' = H1 ∧ (ex = .exit 0 ∧ env.at (.tmp 1) = .ptr H.next 0 0 0 ∨ ex = .ret ∧ env.at (.tmp 2) = .bool false)) ?_ ?_ ?_
    · refine ⟨rfl, 0, Nat.zero_le _, ?_, ?_⟩
      · simp only [sx, fx, implies_true, evBuildSlice, fillE, fillA, AV.isCell, here, plain, laid, evOp, avOf, avCell, strOf, evBin, evInt, evStr, evUn, evResults, evResultsL, AV.isUndef, AV.cells, Heap.store, wbool_off, after_scope, Nat.reduceMul, Nat.reducePow, Nat.reduceSub, Nat.reduceBEq, UInt8.reduceToNat, Nat.reduceEqDiff, Nat.reduceLT, reduceCtorEq, Nat.reduceAdd, Nat.reduceLeDiff]; rfl
      · simp only [sx, fx, implies_true, evBuildSlice, fillE, fillA, AV.isCell, here, plain, laid, evOp, avOf, avCell, strOf, evBin, evInt, evStr, evUn, evResults, evResultsL, AV.isUndef, AV.cells, Heap.store, wbool_off, after_scope, Nat.reduceMul, Nat.reducePow, Nat.reduceSub, Nat.reduceBEq, UInt8.reduceToNat, Nat.reduceEqDiff, Nat.reduceLT, reduceCtorEq, Nat.reduceAdd, Nat.reduceLeDiff]
    · rintro env H' ⟨rfl, i, hi, e3, e1⟩
      by_cases hlt : i < M.length
      · obtain ⟨c, hc⟩ : ∃ c, M[i]? = some c := ⟨_, List.getElem?_eq_getElem hlt⟩
        obtain ⟨t, rfl⟩ := hwc c (List.mem_of_getElem? hc)
        obtain ⟨p, hp, hload, _⟩ := (hw.up hU1).index und24 sz9 .i64 hc
        by_cases ht : (t.length : Int) > 4096
        · simp (maxSteps := 1000000) only [sx, fx, implies_true, evBuildSlice, fillE, fillA, AV.isCell, here, plain, laid, evOp, avOf, avCell, strOf, evBin, evInt, evStr, evUn, evResults, evResultsL, AV.isUndef, AV.cells, Heap.store, wbool_off, after_scope, Nat.reduceMul, Nat.reducePow, Nat.reduceSub, Nat.reduceBEq, UInt8.reduceToNat, Nat.reduceEqDiff, Nat.reduceLT, reduceCtorEq, Nat.reduceAdd, Nat.reduceLeDiff, e3, e1, hb, (hw.up hU1).lenAt und24, lt_true hlt, hp, hload _ (Up.refl _), ht, ln9]
        · simp (maxSteps := 1000000) only [sx, fx, implies_true, evBuildSlice, fillE, fillA, AV.isCell, here, plain, laid, evOp, avOf, avCell, strOf, evBin, evInt, evStr, evUn, evResults, evResultsL, AV.isUndef, AV.cells, Heap.store, wbool_off, after_scope, Nat.reduceMul, Nat.reducePow, Nat.reduceSub, Nat.reduceBEq, UInt8.reduceToNat, Nat.reduceEqDiff, Nat.reduceLT, reduceCtorEq, Nat.reduceAdd, Nat.reduceLeDiff, e3, e1, hb, (hw.up hU1).lenAt und24, lt_true hlt, hp, hload _ (Up.refl _), ht, ln9, wrap_succ (i := i) (by omega)]
          refine ⟨⟨i + 1, hlt, rfl⟩, ?_⟩
          omega
      · simp (maxSteps := 1000000) only [sx, fx, implies_true, evBuildSlice, fillE, fillA, AV.isCell, here, plain, laid, evOp, avOf, avCell, strOf, evBin, evInt, evStr, evUn, evResults, evResultsL, AV.isUndef, AV.cells, Heap.store, wbool_off, after_scope, Nat.reduceMul, Nat.reducePow, Nat.reduceSub, Nat.reduceBEq, UInt8.reduceToNat, Nat.reduceEqDiff, Nat.reduceLT, reduceCtorEq, Nat.reduceAdd, Nat.reduceLeDiff, e3, e1, hb, (hw.up hU1).lenAt und24, lt_false hlt]
    · rintro ex env H' ⟨rfl, ⟨rfl, e1⟩ | ⟨rfl, e2⟩⟩
      · simp (maxSteps := 1000000) only [sx, fx, implies_true, evBuildSlice, fillE, fillA, AV.isCell, here, plain, laid, evOp, avOf, avCell, strOf, evBin, evInt, evStr, evUn, evResults, evResultsL, AV.isUndef, AV.cells, Heap.store, wbool_off, after_scope, Nat.reduceMul, Nat.reducePow, Nat.reduceSub, Nat.reduceBEq, UInt8.reduceToNat, Nat.reduceEqDiff, Nat.reduceLT, reduceCtorEq, Nat.reduceAdd, Nat.reduceLeDiff]
        refine loopStep' (fun env3 H3 => Up H' H3 ∧ Free H3 ∧ ∃ (i : Nat), i ≤ L.length ∧ env3.at (.tmp 4) = .int .i64 i ∧ env3.at (.tmp 1) = .ptr H.next 0 0 0)
          (fun env3 H3 => match env3.at (.tmp 4) with | .int _ i => ((L.length : Int) - i).toNat | _ => 0) ?_ ?_
        · exact ⟨Up.refl _, hF1, 0, Nat.zero_le _, by simp only [sx, fx, implies_true, evBuildSlice, fillE, fillA, AV.isCell, here, plain, laid, evOp, avOf, avCell, strOf, evBin, evInt, evStr, evUn, evResults, evResultsL, AV.isUndef, AV.cells, Heap.store, wbool_off, after_scope, Nat.reduceMul, Nat.reducePow, Nat.reduceSub, Nat.reduceBEq, UInt8.reduceToNat, Nat.reduceEqDiff, Nat.reduceLT, reduceCtorEq, Nat.reduceAdd, Nat.reduceLeDiff]; rfl, by simp only [sx, fx, implies_true, evBuildSlice, fillE, fillA, AV.isCell, here, plain, laid, evOp, avOf, avCell, strOf, evBin, evInt, evStr, evUn, evResults, evResultsL, AV.isUndef, AV.cells, Heap.store, wbool_off, after_scope, Nat.reduceMul, Nat.reducePow, Nat.reduceSub, Nat.reduceBEq, UInt8.reduceToNat, Nat.reduceEqDiff, Nat.reduceLT, reduceCtorEq, Nat.reduceAdd, Nat.reduceLeDiff, e1]⟩
        · rintro env3 H3 ⟨hU3, hF3, i, hi, d4, d1⟩
          have hb3 := hU3 _ _ hb
          have hv3 := hv.up (hU1.trans hU3)
          by_cases hlt : i < L.length
          · obtain ⟨c, hc⟩ : ∃ c, L[i]? = some c := ⟨_, List.getElem?_eq_getElem hlt⟩
            have hcm := List.mem_of_getElem? hc
            have hcl := (hvc c hcm).len
            obtain ⟨p, hp, hload, _⟩ := hv3.index und23 sz26 .i64 hc
            simp (maxSteps := 1000000) only [sx, fx, implies_true, evBuildSlice, fillE, fillA, AV.isCell, here, plain, laid, evOp, avOf, avCell, strOf, evBin, evInt, evStr, evUn, evResults, evResultsL, AV.isUndef, AV.cells, Heap.store, wbool_off, after_scope, Nat.reduceMul, Nat.reducePow, Nat.reduceSub, Nat.reduceBEq, UInt8.reduceToNat, Nat.reduceEqDiff, Nat.reduceLT, reduceCtorEq, Nat.reduceAdd, Nat.reduceLeDiff, d4, d1, hb3, hv3.lenAt und23, lt_true hlt, hp, hload _ (Up.refl _), hcl]
            refine callStep (ih H3 c ((hvc c hcm).up (hU1.trans hU3)) hF3 _ fun b H4 hU4 hF4 => ?_)
            cases b
            · simp (maxSteps := 1000000) only [sx, fx, implies_true, evBuildSlice, fillE, fillA, AV.isCell, here, plain, laid, evOp, avOf, avCell, strOf, evBin, evInt, evStr, evUn, evResults, evResultsL, AV.isUndef, AV.cells, Heap.store, wbool_off, after_scope, Nat.reduceMul, Nat.reducePow, Nat.reduceSub, Nat.reduceBEq, UInt8.reduceToNat, Nat.reduceEqDiff, Nat.reduceLT, reduceCtorEq, Nat.reduceAdd, Nat.reduceLeDiff]
              exact hK _ _ (hU1.trans (hU3.trans hU4)) hF4
            · simp (maxSteps := 1000000) only [sx, fx, implies_true, evBuildSlice, fillE, fillA, AV.isCell, here, plain, laid, evOp, avOf, avCell, strOf, evBin, evInt, evStr, evUn, evResults, evResultsL, AV.isUndef, AV.cells, Heap.store, wbool_off, after_scope, Nat.reduceMul, Nat.reducePow, Nat.reduceSub, Nat.reduceBEq, UInt8.reduceToNat, Nat.reduceEqDiff, Nat.reduceLT, reduceCtorEq, Nat.reduceAdd, Nat.reduceLeDiff, d4, d1, wrap_succ (i := i) (by omega)]
              refine ⟨⟨hU3.trans hU4, hF4, i + 1, hlt, rfl⟩, ?_⟩
              omega
          · simp (maxSteps := 1000000) only [sx, fx, implies_true, evBuildSlice, fillE, fillA, AV.isCell, here, plain, laid, evOp, avOf, avCell, strOf, evBin, evInt, evStr, evUn, evResults, evResultsL, AV.isUndef, AV.cells, Heap.store, wbool_off, after_scope, Nat.reduceMul, Nat.reducePow, Nat.reduceSub, Nat.reduceBEq, UInt8.reduceToNat, Nat.reduceEqDiff, Nat.reduceLT, reduceCtorEq, Nat.reduceAdd, Nat.reduceLeDiff, d4, d1, hb3, hv3.lenAt und23, lt_false hlt]
            exact hK _ _ (hU1.trans hU3) hF3
      · simp (maxSteps := 1000000) only [sx, fx, implies_true, evBuildSlice, fillE, fillA, AV.isCell, here, plain, laid, evOp, avOf, avCell, strOf, evBin, evInt, evStr, evUn, evResults, evResultsL, AV.isUndef, AV.cells, Heap.store, wbool_off, after_scope, Nat.reduceMul, Nat.reducePow, Nat.reduceSub, Nat.reduceBEq, UInt8.reduceToNat, Nat.reduceEqDiff, Nat.reduceLT, reduceCtorEq, Nat.reduceAdd, Nat.reduceLeDiff, e2]
        exact hK _ _ hU1 hF1

theorem f95_ok : ∀ (n : Nat) (H : Heap) (cs : List AV), VR n H cs → Free H → ∀ (K : AV → Heap → Prop), (∀ x H', Up H H' → Free H' → K (.int .i64 x) H') → WF Try.prog 95 [.agg cs] H K := by
  intro n
  induction n with
  | zero => intro H cs h; exact h.elim
  | succ n ih =>
    intro H cs h hF K hK
    obtain ⟨k, ix, s, v, w, L, M, rfl, hv, hvn, hvc, hw, hwn, hwc⟩ := h
    refine WF_body Try.func95 (by kernel_rfl) rfl Try.ntmps95 (by rw [Try.results95]) (of_decide_eq_true (by kernel_rfl)) ?_
    simp (maxSteps := 1000000) only [sx, fx, implies_true, evBuildSlice, fillE, fillA, AV.isCell, here, plain, laid, evOp, avOf, avCell, strOf, evBin, evInt, evStr, evUn, evResults, evResultsL, AV.isUndef, AV.cells, Heap.store, wbool_off, after_scope, Nat.reduceMul, Nat.reducePow, Nat.reduceSub, Nat.reduceBEq, UInt8.reduceToNat, Nat.reduceEqDiff, Nat.reduceLT, reduceCtorEq, Nat.reduceAdd, Nat.reduceLeDiff, hF.at, hF.hp, ln9]
    generalize hH1 : HP H [Blk.row 26 5 [[.int .i64 k, .int .i64 ix, .str s, v, w]] 0 0] = H1
    have hb : H1.blk H.next = some (.row 26 5 [[.int .i64 k, .int .i64 ix, .str s, v, w]] 0 0) := by rw [← hH1, hp_blk0]; rfl
    have hF1 : Free H1 := hH1 ▸ hF.hpF _
    have hU1 : Up H H1 := hH1 ▸ hF.hpU _
    refine loopStep' (fun env3 H3 => Up H1 H3 ∧ Free H3 ∧ ∃ (i : Nat) (x : Int), i ≤ L.length ∧ env3.at (.tmp 4) = .int .i64 i ∧ env3.at (.tmp 3) = .int .i64 x ∧ env3.at (.tmp 1) = .ptr H.next 0 0 0)
      (fun env3 H3 => match env3.at (.tmp 4) with | .int _ i => ((L.length : Int) - i).toNat | _ => 0) ?_ ?_
    · exact ⟨Up.refl _, hF1, 0, 0, Nat.zero_le _, by simp only [sx, fx, implies_true, evBuildSlice, fillE, fillA, AV.isCell, here, plain, laid, evOp, avOf, avCell, strOf, evBin, evInt, evStr, evUn, evResults, evResultsL, AV.isUndef, AV.cells, Heap.store, wbool_off, after_scope, Nat.reduceMul, Nat.reducePow, Nat.reduceSub, Nat.reduceBEq, UInt8.reduceToNat, Nat.reduceEqDiff, Nat.reduceLT, reduceCtorEq, Nat.reduceAdd, Nat.reduceLeDiff]; rfl, by simp only [sx, fx, implies_true, evBuildSlice, fillE, fillA, AV.isCell, here, plain, laid, evOp, avOf, avCell, strOf, evBin, evInt, evStr, evUn, evResults, evResultsL, AV.isUndef, AV.cells, Heap.store, wbool_off, after_scope, Nat.reduceMul, Nat.reducePow, Nat.reduceSub, Nat.reduceBEq, UInt8.reduceToNat, Nat.reduceEqDiff, Nat.reduceLT, reduceCtorEq, Nat.reduceAdd, Nat.reduceLeDiff], by simp only [sx, fx, implies_true, evBuildSlice, fillE, fillA, AV.isCell, here, plain, laid, evOp, avOf, avCell, strOf, evBin, evInt, evStr, evUn, evResults, evResultsL, AV.isUndef, AV.cells, Heap.store, wbool_off, after_scope, Nat.reduceMul, Nat.reducePow, Nat.reduceSub, Nat.reduceBEq, UInt8.reduceToNat, Nat.reduceEqDiff, Nat.reduceLT, reduceCtorEq, Nat.reduceAdd, Nat.reduceLeDiff]⟩
    · rintro env3 H3 ⟨hU3, hF3, i, x, hi, d4, d3, d1⟩
      have hb3 := hU3 _ _ hb
      have hv3 := hv.up (hU1.trans hU3)
      by_cases hlt : i < L.length
      · obtain ⟨c, hc⟩ : ∃ c, L[i]? = some c := ⟨_, List.getElem?_eq_getElem hlt⟩
        have hcm := List.mem_of_getElem? hc
        have hcl := (hvc c hcm).len
        obtain ⟨p, hp, hload, _⟩ := hv3.index und23 sz26 .i64 hc
        simp (maxSteps := 1000000) only [sx, fx, implies_true, evBuildSlice, fillE, fillA, AV.isCell, here, plain, laid, evOp, avOf, avCell, strOf, evBin, evInt, evStr, evUn, evResults, evResultsL, AV.isUndef, AV.cells, Heap.store, wbool_off, after_scope, Nat.reduceMul, Nat.reducePow, Nat.reduceSub, Nat.reduceBEq, UInt8.reduceToNat, Nat.reduceEqDiff, Nat.reduceLT, reduceCtorEq, Nat.reduceAdd, Nat.reduceLeDiff, d4, d3, d1, hb3, hv3.lenAt und23, lt_true hlt, hp, hload _ (Up.refl _), hcl]
        refine callStep (ih H3 c ((hvc c hcm).up (hU1.trans hU3)) hF3 _ fun y H4 hU4 hF4 => ?_)
        by_cases hy : y > x
        · simp (maxSteps := 1000000) only [sx, fx, implies_true, evBuildSlice, fillE, fillA, AV.isCell, here, plain, laid, evOp, avOf, avCell, strOf, evBin, evInt, evStr, evUn, evResults, evResultsL, AV.isUndef, AV.cells, Heap.store, wbool_off, after_scope, Nat.reduceMul, Nat.reducePow, Nat.reduceSub, Nat.reduceBEq, UInt8.reduceToNat, Nat.reduceEqDiff, Nat.reduceLT, reduceCtorEq, Nat.reduceAdd, Nat.reduceLeDiff, d4, d3, d1, hy, wrap_succ (i := i) (by omega)]
          refine ⟨⟨hU3.trans hU4, hF4, i + 1, _, hlt, rfl, rfl⟩, ?_⟩
          omega
        · simp (maxSteps := 1000000) only [sx, fx, implies_true, evBuildSlice, fillE, fillA, AV.isCell, here, plain, laid, evOp, avOf, avCell, strOf, evBin, evInt, evStr, evUn, evResults, evResultsL, AV.isUndef, AV.cells, Heap.store, wbool_off, after_scope, Nat.reduceMul, Nat.reducePow, Nat.reduceSub, Nat.reduceBEq, UInt8.reduceToNat, Nat.reduceEqDiff, Nat.reduceLT, reduceCtorEq, Nat.reduceAdd, Nat.reduceLeDiff, d4, d3, d1, hy, wrap_succ (i := i) (by omega)]
          refine ⟨⟨hU3.trans hU4, hF4, i + 1, _, hlt, rfl, rfl⟩, ?_⟩
          omega
      · simp (maxSteps := 1000000) only [sx, fx, implies_true, evBuildSlice, fillE, fillA, AV.isCell, here, plain, laid, evOp, avOf, avCell, strOf, evBin, evInt, evStr, evUn, evResults, evResultsL, AV.isUndef, AV.cells, Heap.store, wbool_off, after_scope, Nat.reduceMul, Nat.reducePow, Nat.reduceSub, Nat.reduceBEq, UInt8.reduceToNat, Nat.reduceEqDiff, Nat.reduceLT, reduceCtorEq, Nat.reduceAdd, Nat.reduceLeDiff, d4, d3, d1, hb3, hv3.lenAt und23, lt_false hlt]
        exact hK _ _ (hU1.trans hU3) hF3

theorem f96_ok : ∀ (n : Nat) (H : Heap) (cs : List AV), VR n H cs → Free H → ∀ (K : AV → Heap → Prop), (∀ x H', Up H H' → Free H' → K (.int .i64 x) H') → WF Try.prog 96 [.agg cs] H K := by
  intro n
  induction n with
  | zero => intro H cs h; exact h.elim
  | succ n ih =>
    intro H cs h hF K hK
    obtain ⟨k, ix, s, v, w, L, M, rfl, hv, hvn, hvc, hw, hwn, hwc⟩ := h
    refine WF_body Try.func96 (by kernel_rfl) rfl Try.ntmps96 (by rw [Try.results96]) (of_decide_eq_true (by kernel_rfl)) ?_
    simp (maxSteps := 1000000) only [sx, fx, implies_true, evBuildSlice, fillE, fillA, AV.isCell, here, plain, laid, evOp, avOf, avCell, strOf, evBin, evInt, evStr, evUn, evResults, evResultsL, AV.isUndef, AV.cells, Heap.store, wbool_off, after_scope, Nat.reduceMul, Nat.reducePow, Nat.reduceSub, Nat.reduceBEq, UInt8.reduceToNat, Nat.reduceEqDiff, Nat.reduceLT, reduceCtorEq, Nat.reduceAdd, Nat.reduceLeDiff, hF.at, hF.hp, ln9]
    generalize hH1 : HP H [Blk.row 26 5 [[.int .i64 k, .int .i64 ix, .str s, v, w]] 0 0] = H1
    have hb : H1.blk H.next = some (.row 26 5 [[.int .i64 k, .int .i64 ix, .str s, v, w]] 0 0) := by rw [← hH1, hp_blk0]; rfl
    have hF1 : Free H1 := hH1 ▸ hF.hpF _
    have hU1 : Up H H1 := hH1 ▸ hF.hpU _
    refine loopStep' (fun env3 H3 => Up H1 H3 ∧ Free H3 ∧ ∃ (i : Nat) (x : Int), i ≤ L.length ∧ env3.at (.tmp 4) = .int .i64 i ∧ env3.at (.tmp 3) = .int .i64 x ∧ env3.at (.tmp 1) = .ptr H.next 0 0 0)
      (fun env3 H3 => match env3.at (.tmp 4) with | .int _ i => ((L.length : Int) - i).toNat | _ => 0) ?_ ?_
    · exact ⟨Up.refl _, hF1, 0, 1, Nat.zero_le _, by simp only [sx, fx, implies_true, evBuildSlice, fillE, fillA, AV.isCell, here, plain, laid, evOp, avOf, avCell, strOf, evBin, evInt, evStr, evUn, evResults, evResultsL, AV.isUndef, AV.cells, Heap.store, wbool_off, after_scope, Nat.reduceMul, Nat.reducePow, Nat.reduceSub, Nat.reduceBEq, UInt8.reduceToNat, Nat.reduceEqDiff, Nat.reduceLT, reduceCtorEq, Nat.reduceAdd, Nat.reduceLeDiff]; rfl, by simp only [sx, fx, implies_true, evBuildSlice, fillE, fillA, AV.isCell, here, plain, laid, evOp, avOf, avCell, strOf, evBin, evInt, evStr, evUn, evResults, evResultsL, AV.isUndef, AV.cells, Heap.store, wbool_off, after_scope, Nat.reduceMul, Nat.reducePow, Nat.reduceSub, Nat.reduceBEq, UInt8.reduceToNat, Nat.reduceEqDiff, Nat.reduceLT, reduceCtorEq, Nat.reduceAdd, Nat.reduceLeDiff], by simp only [sx, fx, implies_true, evBuildSlice, fillE, fillA, AV.isCell, here, plain, laid, evOp, avOf, avCell, strOf, evBin, evInt, evStr, evUn, evResults, evResultsL, AV.isUndef, AV.cells, Heap.store, wbool_off, after_scope, Nat.reduceMul, Nat.reducePow, Nat.reduceSub, Nat.reduceBEq, UInt8.reduceToNat, Nat.reduceEqDiff, Nat.reduceLT, reduceCtorEq, Nat.reduceAdd, Nat.reduceLeDiff]⟩
    · rintro env3 H3 ⟨hU3, hF3, i, x, hi, d4, d3, d1⟩
      have hb3 := hU3 _ _ hb
      have hv3 := hv.up (hU1.trans hU3)
      by_cases hlt : i < L.length
      · obtain ⟨c, hc⟩ : ∃ c, L[i]? = some c := ⟨_, List.getElem?_eq_getElem hlt⟩
        have hcm := List.mem_of_getElem? hc
        have hcl := (hvc c hcm).len
        obtain ⟨p, hp, hload, _⟩ := hv3.index und23 sz26 .i64 hc
        simp (maxSteps := 1000000) only [sx, fx, implies_true, evBuildSlice, fillE, fillA, AV.isCell, here, plain, laid, evOp, avOf, avCell, strOf, evBin, evInt, evStr, evUn, evResults, evResultsL, AV.isUndef, AV.cells, Heap.store, wbool_off, after_scope, Nat.reduceMul, Nat.reducePow, Nat.reduceSub, Nat.reduceBEq, UInt8.reduceToNat, Nat.reduceEqDiff, Nat.reduceLT, reduceCtorEq, Nat.reduceAdd, Nat.reduceLeDiff, d4, d3, d1, hb3, hv3.lenAt und23, lt_true hlt, hp, hload _ (Up.refl _), hcl]
        refine callStep (ih H3 c ((hvc c hcm).up (hU1.trans hU3)) hF3 _ fun y H4 hU4 hF4 => ?_)
        simp (maxSteps := 1000000) only [sx, fx, implies_true, evBuildSlice, fillE, fillA, AV.isCell, here, plain, laid, evOp, avOf, avCell, strOf, evBin, evInt, evStr, evUn, evResults, evResultsL, AV.isUndef, AV.cells, Heap.store, wbool_off, after_scope, Nat.reduceMul, Nat.reducePow, Nat.reduceSub, Nat.reduceBEq, UInt8.reduceToNat, Nat.reduceEqDiff, Nat.reduceLT, reduceCtorEq, Nat.reduceAdd, Nat.reduceLeDiff, d4, d3, d1, wrap_succ (i := i) (by omega)]
        refine ⟨⟨hU3.trans hU4, hF4, i + 1, _, hlt, rfl, rfl⟩, ?_⟩
        omega
      · simp (maxSteps := 1000000) only [sx, fx, implies_true, evBuildSlice, fillE, fillA, AV.isCell, here, plain, laid, evOp, avOf, avCell, strOf, evBin, evInt, evStr, evUn, evResults, evResultsL, AV.isUndef, AV.cells, Heap.store, wbool_off, after_scope, Nat.reduceMul, Nat.reducePow, Nat.reduceSub, Nat.reduceBEq, UInt8.reduceToNat, Nat.reduceEqDiff, Nat.reduceLT, reduceCtorEq, Nat.reduceAdd, Nat.reduceLeDiff, d4, d3, d1, hb3, hv3.lenAt und23, lt_false hlt]
        exact hK _ _ (hU1.trans hU3) hF3

theorem f89_ok : ∀ (n : Nat) (H : Heap) (cs : List AV), VR n H cs → Free H → ∀ (K : AV → Heap → Prop), (∀ b H', Up H H' → Free H' → K (.bool b) H') → WF Try.prog 89 [.agg cs] H K := by
  intro n
  induction n with
  | zero => intro H cs h; exact h.elim
  | succ n ih =>
    intro H cs h hF K hK
    obtain ⟨k, ix, s, v, w, L, M, rfl, hv, hvn, hvc, hw, hwn, hwc⟩ := h
    refine WF_body Try.func89 (by kernel_rfl) rfl Try.ntmps89 (by rw [Try.results89]) (of_decide_eq_true (by kernel_rfl)) ?_
    simp (maxSteps := 1000000) only [sx, fx, implies_true, evBuildSlice, fillE, fillA, AV.isCell, here, plain, laid, evOp, avOf, avCell, strOf, evBin, evInt, evStr, evUn, evResults, evResultsL, AV.isUndef, AV.cells, Heap.store, wbool_off, after_scope, Nat.reduceMul, Nat.reducePow, Nat.reduceSub, Nat.reduceBEq, UInt8.reduceToNat, Nat.reduceEqDiff, Nat.reduceLT, reduceCtorEq, Nat.reduceAdd, Nat.reduceLeDiff, hF.at, hF.hp, ln9]
    generalize hH1 : HP H [Blk.row 26 5 [[.int .i64 k, .int .i64 ix, .str s, v, w]] 0 0] = H1
    have hb : H1.blk H.next = some (.row 26 5 [[.int .i64 k, .int .i64 ix, .str s, v, w]] 0 0) := by rw [← hH1, hp_blk0]; rfl
    have hF1 : Free H1 := hH1 ▸ hF.hpF _
    have hU1 : Up H H1 := hH1 ▸ hF.hpU _
    refine loopStep' (fun env3 H3 => Up H1 H3 ∧ Free H3 ∧ ∃ (i : Nat), i ≤ L.length ∧ env3.at (.tmp 3) = .int .i64 i ∧ env3.at (.tmp 1) = .ptr H.next 0 0 0)
      (fun env3 H3 => match env3.at (.tmp 3) with | .int _ i => ((L.length : Int) - i).toNat | _ => 0) ?_ ?_
    · exact ⟨Up.refl _, hF1, 0, Nat.zero_le _, by simp only [sx, fx, implies_true, evBuildSlice, fillE, fillA, AV.isCell, here, plain, laid, evOp, avOf, avCell, strOf, evBin, evInt, evStr, evUn, evResults, evResultsL, AV.isUndef, AV.cells, Heap.store, wbool_off, after_scope, Nat.reduceMul, Nat.reducePow, Nat.reduceSub, Nat.reduceBEq, UInt8.reduceToNat, Nat.reduceEqDiff, Nat.reduceLT, reduceCtorEq, Nat.reduceAdd, Nat.reduceLeDiff]; rfl, by simp only [sx, fx, implies_true, evBuildSlice, fillE, fillA, AV.isCell, here, plain, laid, evOp, avOf, avCell, strOf, evBin, evInt, evStr, evUn, evResults, evResultsL, AV.isUndef, AV.cells, Heap.store, wbool_off, after_scope, Nat.reduceMul, Nat.reducePow, Nat.reduceSub, Nat.reduceBEq, UInt8.reduceToNat, Nat.reduceEqDiff, Nat.reduceLT, reduceCtorEq, Nat.reduceAdd, Nat.reduceLeDiff]⟩
    · rintro env3 H3 ⟨hU3, hF3, i, hi, d3, d1⟩
      have hb3 := hU3 _ _ hb
      have hv3 := hv.up (hU1.trans hU3)
      by_cases hlt : i < L.length
      · obtain ⟨c, hc⟩ : ∃ c, L[i]? = some c := ⟨_, List.getElem?_eq_getElem hlt⟩
        have hcm := List.mem_of_getElem? hc
        have hcl := (hvc c hcm).len
        obtain ⟨p, hp, hload, _⟩ := hv3.index und23 sz26 .i64 hc
        simp (maxSteps := 1000000) only [sx, fx, implies_true, evBuildSlice, fillE, fillA, AV.isCell, here, plain, laid, evOp, avOf, avCell, strOf, evBin, evInt, evStr, evUn, evResults, evResultsL, AV.isUndef, AV.cells, Heap.store, wbool_off, after_scope, Nat.reduceMul, Nat.reducePow, Nat.reduceSub, Nat.reduceBEq, UInt8.reduceToNat, Nat.reduceEqDiff, Nat.reduceLT, reduceCtorEq, Nat.reduceAdd, Nat.reduceLeDiff, d3, d1, hb3, hv3.lenAt und23, lt_true hlt, hp, hload _ (Up.refl _), hcl]
        refine callStep (ih H3 c ((hvc c hcm).up (hU1.trans hU3)) hF3 _ fun b H4 hU4 hF4 => ?_)
        cases b
        · simp (maxSteps := 1000000) only [sx, fx, implies_true, evBuildSlice, fillE, fillA, AV.isCell, here, plain, laid, evOp, avOf, avCell, strOf, evBin, evInt, evStr, evUn, evResults, evResultsL, AV.isUndef, AV.cells, Heap.store, wbool_off, after_scope, Nat.reduceMul, Nat.reducePow, Nat.reduceSub, Nat.reduceBEq, UInt8.reduceToNat, Nat.reduceEqDiff, Nat.reduceLT, reduceCtorEq, Nat.reduceAdd, Nat.reduceLeDiff, d3, d1, wrap_succ (i := i) (by omega)]
          refine ⟨⟨hU3.trans hU4, hF4, i + 1, hlt, rfl⟩, ?_⟩
          omega
        · simp (maxSteps := 1000000) only [sx, fx, implies_true, evBuildSlice, fillE, fillA, AV.isCell, here, plain, laid, evOp, avOf, avCell, strOf, evBin, evInt, evStr, evUn, evResults, evResultsL, AV.isUndef, AV.cells, Heap.store, wbool_off, after_scope, Nat.reduceMul, Nat.reducePow, Nat.reduceSub, Nat.reduceBEq, UInt8.reduceToNat, Nat.reduceEqDiff, Nat.reduceLT, reduceCtorEq, Nat.reduceAdd, Nat.reduceLeDiff]
          exact hK _ _ (hU1.trans (hU3.trans hU4)) hF4
      · simp (maxSteps := 1000000) only [sx, fx, implies_true, evBuildSlice, fillE, fillA, AV.isCell, here, plain, laid, evOp, avOf, avCell, strOf, evBin, evInt, evStr, evUn, evResults, evResultsL, AV.isUndef, AV.cells, Heap.store, wbool_off, after_scope, Nat.reduceMul, Nat.reducePow, Nat.reduceSub, Nat.reduceBEq, UInt8.reduceToNat, Nat.reduceEqDiff, Nat.reduceLT, reduceCtorEq, Nat.reduceAdd, Nat.reduceLeDiff, d3, d1, hb3, hv3.lenAt und23, lt_false hlt]
        exact hK _ _ (hU1.trans hU3) hF3
end Go.Proofs.T
