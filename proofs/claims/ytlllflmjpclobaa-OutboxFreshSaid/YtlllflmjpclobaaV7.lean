import Derived.Test.YtlllflmjpclobaaV6
set_option linter.unusedVariables false
set_option linter.unusedSimpArgs false
set_option linter.unusedVariables false
set_option linter.unusedSimpArgs false
set_option maxRecDepth 100000
namespace Go.Proofs.T
open Go.Ev

theorem bne_len {a b : Nat} (h : a = b) : ((a : Int) != (b : Int)) = false := by simp [h]

set_option maxHeartbeats 8000000 in
theorem f91_ok : ∀ (n m : Nat) (H : Heap) (cs ds : List AV), VR n H cs → VR m H ds → Free H → ∀ (K : AV → Heap → Prop), (∀ b H', Up H H' → Free H' → K (.bool b) H') → WF Try.prog 91 [.agg cs, .agg ds] H K := by
  intro n
  induction n with
  | zero => intro m H cs ds h; exact h.elim
  | succ n ih =>
    intro m H cs ds h h' hF K hK
    cases m with
    | zero => exact h'.elim
    | succ m =>
    obtain ⟨k, ix, s, v, w, L, M, rfl, hv, hvn, hvc, hw, hwn, hwc⟩ := h
    obtain ⟨k', ix', s', v', w', Lb, Mb, rfl, hv', hvn', hvc', hw', hwn', hwc'⟩ := h'
    refine WF_body Try.func91 (by kernel_rfl) rfl Try.ntmps91 (by rw [Try.results91]) (of_decide_eq_true (by kernel_rfl)) ?_
    simp (maxSteps := 1000000) only [sx, fx, implies_true, evBuildSlice, fillE, fillA, AV.isCell, here, plain, laid, evOp, avOf, avCell, strOf, evBin, evInt, evStr, evUn, evResults, evResultsL, AV.isUndef, AV.cells, Heap.store, wbool_off, after_scope, Nat.reduceMul, Nat.reducePow, Nat.reduceSub, Nat.reduceBEq, UInt8.reduceToNat, Nat.reduceEqDiff, Nat.reduceLT, reduceCtorEq, Nat.reduceAdd, Nat.reduceLeDiff, hF.at, hF.hp, ln9]
    generalize hH1 : HP H [Blk.row 26 5 [[.int .i64 k, .int .i64 ix, .str s, v, w]] 0 0, Blk.row 26 5 [[.int .i64 k', .int .i64 ix', .str s', v', w']] 0 0] = H1
    have hb : H1.blk H.next = some (.row 26 5 [[.int .i64 k, .int .i64 ix, .str s, v, w]] 0 0) := by rw [← hH1, hp_blk0]; rfl
    have hb' : H1.blk (H.next + 1) = some (.row 26 5 [[.int .i64 k', .int .i64 ix', .str s', v', w']] 0 0) := by rw [← hH1, hp_blk]; rfl
    have hF1 : Free H1 := hH1 ▸ hF.hpF _
    have hU1 : Up H H1 := hH1 ▸ hF.hpU _
    have lv := (hv.up hU1).lenAt und23
    have lw := (hw.up hU1).lenAt und24
    have lv' := (hv'.up hU1).lenAt und23
    have lw' := (hw'.up hU1).lenAt und24
    generalize h1 : (k != k') = b1
    generalize h2 : (ix != ix') = b2
    generalize h3 : (!(s == s')) = b3
    generalize h4 : ((L.length : Int) != (Lb.length : Int)) = b4
    generalize h5 : ((M.length : Int) != (Mb.length : Int)) = b5
    cases b1 with
    | true =>
      simp (maxSteps := 1000000) only [sx, fx, implies_true, evBuildSlice, fillE, fillA, AV.isCell, here, plain, laid, evOp, avOf, avCell, strOf, evBin, evInt, evStr, evUn, evResults, evResultsL, AV.isUndef, AV.cells, Heap.store, wbool_off, after_scope, Nat.reduceMul, Nat.reducePow, Nat.reduceSub, Nat.reduceBEq, UInt8.reduceToNat, Nat.reduceEqDiff, Nat.reduceLT, reduceCtorEq, Nat.reduceAdd, Nat.reduceLeDiff, hb, hb', lv, lw, lv', lw', h1]
      exact hK _ _ hU1 hF1
    | false =>
      cases b2 with
      | true =>
        simp (maxSteps := 1000000) only [sx, fx, implies_true, evBuildSlice, fillE, fillA, AV.isCell, here, plain, laid, evOp, avOf, avCell, strOf, evBin, evInt, evStr, evUn, evResults, evResultsL, AV.isUndef, AV.cells, Heap.store, wbool_off, after_scope, Nat.reduceMul, Nat.reducePow, Nat.reduceSub, Nat.reduceBEq, UInt8.reduceToNat, Nat.reduceEqDiff, Nat.reduceLT, reduceCtorEq, Nat.reduceAdd, Nat.reduceLeDiff, hb, hb', lv, lw, lv', lw', h1, h2]
        exact hK _ _ hU1 hF1
      | false =>
        cases b3 with
        | true =>
          simp (maxSteps := 1000000) only [sx, fx, implies_true, evBuildSlice, fillE, fillA, AV.isCell, here, plain, laid, evOp, avOf, avCell, strOf, evBin, evInt, evStr, evUn, evResults, evResultsL, AV.isUndef, AV.cells, Heap.store, wbool_off, after_scope, Nat.reduceMul, Nat.reducePow, Nat.reduceSub, Nat.reduceBEq, UInt8.reduceToNat, Nat.reduceEqDiff, Nat.reduceLT, reduceCtorEq, Nat.reduceAdd, Nat.reduceLeDiff, hb, hb', lv, lw, lv', lw', h1, h2, h3]
          exact hK _ _ hU1 hF1
        | false =>
          cases b4 with
          | true =>
            simp (maxSteps := 1000000) only [sx, fx, implies_true, evBuildSlice, fillE, fillA, AV.isCell, here, plain, laid, evOp, avOf, avCell, strOf, evBin, evInt, evStr, evUn, evResults, evResultsL, AV.isUndef, AV.cells, Heap.store, wbool_off, after_scope, Nat.reduceMul, Nat.reducePow, Nat.reduceSub, Nat.reduceBEq, UInt8.reduceToNat, Nat.reduceEqDiff, Nat.reduceLT, reduceCtorEq, Nat.reduceAdd, Nat.reduceLeDiff, hb, hb', lv, lw, lv', lw', h1, h2, h3, h4]
            exact hK _ _ hU1 hF1
          | false =>
            cases b5 with
            | true =>
              simp (maxSteps := 1000000) only [sx, fx, implies_true, evBuildSlice, fillE, fillA, AV.isCell, here, plain, laid, evOp, avOf, avCell, strOf, evBin, evInt, evStr, evUn, evResults, evResultsL, AV.isUndef, AV.cells, Heap.store, wbool_off, after_scope, Nat.reduceMul, Nat.reducePow, Nat.reduceSub, Nat.reduceBEq, UInt8.reduceToNat, Nat.reduceEqDiff, Nat.reduceLT, reduceCtorEq, Nat.reduceAdd, Nat.reduceLeDiff, hb, hb', lv, lw, lv', lw', h1, h2, h3, h4, h5]
              exact hK _ _ hU1 hF1
            | false =>
              have hLb : L.length = Lb.length := by have := h4; simp at this; omega
              have hMb : M.length = Mb.length := by have := h5; simp at this; omega
              simp (maxSteps := 1000000) only [sx, fx, implies_true, evBuildSlice, fillE, fillA, AV.isCell, here, plain, laid, evOp, avOf, avCell, strOf, evBin, evInt, evStr, evUn, evResults, evResultsL, AV.isUndef, AV.cells, Heap.store, wbool_off, after_scope, Nat.reduceMul, Nat.reducePow, Nat.reduceSub, Nat.reduceBEq, UInt8.reduceToNat, Nat.reduceEqDiff, Nat.reduceLT, reduceCtorEq, Nat.reduceAdd, Nat.reduceLeDiff, hb, hb', lv, lw, lv', lw', h1, h2, h3, h4, h5]
              refine loopStepR (fun env H' => H' = H1 ∧ ∃ (i : Nat), i ≤ M.length ∧ env.at (.tmp 5) = .int .i64 i ∧ env.at (.tmp 2) = .ptr H.next 0 0 0 ∧ env.at (.tmp 3) = .ptr (H.next + 1) 0 0 0)
                (fun env H' => match env.at (.tmp 5) with | .int _ i => ((M.length : Int) - i).toNat | _ => 0)
                (fun ex env H' => H' = H1 ∧ (ex = .exit 0 ∧ env.at (.tmp 2) = .ptr H.next 0 0 0 ∧ env.at (.tmp 3) = .ptr (H.next + 1) 0 0 0 ∨ ex = .ret ∧ env.at (.tmp 4) = .bool false)) ?_ ?_ ?_
              · exact ⟨rfl, 0, Nat.zero_le _, by simp only [sx, fx, implies_true, evBuildSlice, fillE, fillA, AV.isCell, here, plain, laid, evOp, avOf, avCell, strOf, evBin, evInt, evStr, evUn, evResults, evResultsL, AV.isUndef, AV.cells, Heap.store, wbool_off, after_scope, Nat.reduceMul, Nat.reducePow, Nat.reduceSub, Nat.reduceBEq, UInt8.reduceToNat, Nat.reduceEqDiff, Nat.reduceLT, reduceCtorEq, Nat.reduceAdd, Nat.reduceLeDiff]; rfl, by simp only [sx, fx, implies_true, evBuildSlice, fillE, fillA, AV.isCell, here, plain, laid, evOp, avOf, avCell, strOf, evBin, evInt, evStr, evUn, evResults, evResultsL, AV.isUndef, AV.cells, Heap.store, wbool_off, after_scope, Nat.reduceMul, Nat.reducePow, Nat.reduceSub, Nat.reduceBEq, UInt8.reduceToNat, Nat.reduceEqDiff, Nat.reduceLT, reduceCtorEq, Nat.reduceAdd, Nat.reduceLeDiff], by simp only [sx, fx, implies_true, evBuildSlice, fillE, fillA, AV.isCell, here, plain, laid, evOp, avOf, avCell, strOf, evBin, evInt, evStr, evUn, evResults, evResultsL, AV.isUndef, AV.cells, Heap.store, wbool_off, after_scope, Nat.reduceMul, Nat.reducePow, Nat.reduceSub, Nat.reduceBEq, UInt8.reduceToNat, Nat.reduceEqDiff, Nat.reduceLT, reduceCtorEq, Nat.reduceAdd, Nat.reduceLeDiff]⟩
              · rintro env H' ⟨rfl, i, hi, e5, e2, e3⟩
                by_cases hlt : i < M.length
                · obtain ⟨c, hc⟩ : ∃ c, M[i]? = some c := ⟨_, List.getElem?_eq_getElem hlt⟩
                  obtain ⟨t, rfl⟩ := hwc c (List.mem_of_getElem? hc)
                  obtain ⟨d, hd⟩ : ∃ d, Mb[i]? = some d := ⟨_, List.getElem?_eq_getElem (by omega)⟩
                  obtain ⟨u, rfl⟩ := hwc' d (List.mem_of_getElem? hd)
                  obtain ⟨p, hp, hload, _⟩ := (hw.up hU1).index und24 sz9 .i64 hc
                  obtain ⟨q, hq, hload2, _⟩ := (hw'.up hU1).index und24 sz9 .i64 hd
                  simp (maxSteps := 1000000) only [sx, fx, implies_true, evBuildSlice, fillE, fillA, AV.isCell, here, plain, laid, evOp, avOf, avCell, strOf, evBin, evInt, evStr, evUn, evResults, evResultsL, AV.isUndef, AV.cells, Heap.store, wbool_off, after_scope, Nat.reduceMul, Nat.reducePow, Nat.reduceSub, Nat.reduceBEq, UInt8.reduceToNat, Nat.reduceEqDiff, Nat.reduceLT, reduceCtorEq, Nat.reduceAdd, Nat.reduceLeDiff, e5, e2, e3, hb, lw, lt_true hlt]
                  refine drawStep [] [0, 1, 2, 3, 4, 5, 6, 7, 8, 9, 10] _ rfl (by kernel_rfl) ?_
                  generalize hx : (!(t == u)) = x
                  cases x
                  · simp (maxSteps := 1000000) only [sx, fx, implies_true, evBuildSlice, fillE, fillA, AV.isCell, here, plain, laid, evOp, avOf, avCell, strOf, evBin, evInt, evStr, evUn, evResults, evResultsL, AV.isUndef, AV.cells, Heap.store, wbool_off, after_scope, Nat.reduceMul, Nat.reducePow, Nat.reduceSub, Nat.reduceBEq, UInt8.reduceToNat, Nat.reduceEqDiff, Nat.reduceLT, reduceCtorEq, Nat.reduceAdd, Nat.reduceLeDiff, e5, e2, e3, hb, hb', hp, hq, hload _ (Up.refl _), hload2 _ (Up.refl _), hx, wrap_succ (i := i) (by omega)]
                    refine ⟨⟨i + 1, hlt, rfl⟩, ?_⟩
                    omega
                  · simp (maxSteps := 1000000) only [sx, fx, implies_true, evBuildSlice, fillE, fillA, AV.isCell, here, plain, laid, evOp, avOf, avCell, strOf, evBin, evInt, evStr, evUn, evResults, evResultsL, AV.isUndef, AV.cells, Heap.store, wbool_off, after_scope, Nat.reduceMul, Nat.reducePow, Nat.reduceSub, Nat.reduceBEq, UInt8.reduceToNat, Nat.reduceEqDiff, Nat.reduceLT, reduceCtorEq, Nat.reduceAdd, Nat.reduceLeDiff, e5, e2, e3, hb, hb', hp, hq, hload _ (Up.refl _), hload2 _ (Up.refl _), hx]
                · simp (maxSteps := 1000000) only [sx, fx, implies_true, evBuildSlice, fillE, fillA, AV.isCell, here, plain, laid, evOp, avOf, avCell, strOf, evBin, evInt, evStr, evUn, evResults, evResultsL, AV.isUndef, AV.cells, Heap.store, wbool_off, after_scope, Nat.reduceMul, Nat.reducePow, Nat.reduceSub, Nat.reduceBEq, UInt8.reduceToNat, Nat.reduceEqDiff, Nat.reduceLT, reduceCtorEq, Nat.reduceAdd, Nat.reduceLeDiff, e5, e2, e3, hb, lw, lt_false hlt]
              · rintro ex env G ⟨rfl, ⟨rfl, e2, e3⟩ | ⟨rfl, e4⟩⟩
                case inr => simp (maxSteps := 1000000) only [sx, fx, implies_true, evBuildSlice, fillE, fillA, AV.isCell, here, plain, laid, evOp, avOf, avCell, strOf, evBin, evInt, evStr, evUn, evResults, evResultsL, AV.isUndef, AV.cells, Heap.store, wbool_off, after_scope, Nat.reduceMul, Nat.reducePow, Nat.reduceSub, Nat.reduceBEq, UInt8.reduceToNat, Nat.reduceEqDiff, Nat.reduceLT, reduceCtorEq, Nat.reduceAdd, Nat.reduceLeDiff, e4]; exact hK _ _ hU1 hF1
                simp (maxSteps := 1000000) only [sx, fx, implies_true, evBuildSlice, fillE, fillA, AV.isCell, here, plain, laid, evOp, avOf, avCell, strOf, evBin, evInt, evStr, evUn, evResults, evResultsL, AV.isUndef, AV.cells, Heap.store, wbool_off, after_scope, Nat.reduceMul, Nat.reducePow, Nat.reduceSub, Nat.reduceBEq, UInt8.reduceToNat, Nat.reduceEqDiff, Nat.reduceLT, reduceCtorEq, Nat.reduceAdd, Nat.reduceLeDiff]
                refine loopStep' (fun env3 H3 => Up G H3 ∧ Free H3 ∧ ∃ (i : Nat), i ≤ L.length ∧ env3.at (.tmp 6) = .int .i64 i ∧ env3.at (.tmp 2) = .ptr H.next 0 0 0 ∧ env3.at (.tmp 3) = .ptr (H.next + 1) 0 0 0)
                  (fun env3 H3 => match env3.at (.tmp 6) with | .int _ i => ((L.length : Int) - i).toNat | _ => 0) ?_ ?_
                · exact ⟨Up.refl _, hF1, 0, Nat.zero_le _, by simp only [sx, fx, implies_true, evBuildSlice, fillE, fillA, AV.isCell, here, plain, laid, evOp, avOf, avCell, strOf, evBin, evInt, evStr, evUn, evResults, evResultsL, AV.isUndef, AV.cells, Heap.store, wbool_off, after_scope, Nat.reduceMul, Nat.reducePow, Nat.reduceSub, Nat.reduceBEq, UInt8.reduceToNat, Nat.reduceEqDiff, Nat.reduceLT, reduceCtorEq, Nat.reduceAdd, Nat.reduceLeDiff]; rfl, by simp only [sx, fx, implies_true, evBuildSlice, fillE, fillA, AV.isCell, here, plain, laid, evOp, avOf, avCell, strOf, evBin, evInt, evStr, evUn, evResults, evResultsL, AV.isUndef, AV.cells, Heap.store, wbool_off, after_scope, Nat.reduceMul, Nat.reducePow, Nat.reduceSub, Nat.reduceBEq, UInt8.reduceToNat, Nat.reduceEqDiff, Nat.reduceLT, reduceCtorEq, Nat.reduceAdd, Nat.reduceLeDiff, e2], by simp only [sx, fx, implies_true, evBuildSlice, fillE, fillA, AV.isCell, here, plain, laid, evOp, avOf, avCell, strOf, evBin, evInt, evStr, evUn, evResults, evResultsL, AV.isUndef, AV.cells, Heap.store, wbool_off, after_scope, Nat.reduceMul, Nat.reducePow, Nat.reduceSub, Nat.reduceBEq, UInt8.reduceToNat, Nat.reduceEqDiff, Nat.reduceLT, reduceCtorEq, Nat.reduceAdd, Nat.reduceLeDiff, e3]⟩
                · rintro env3 H3 ⟨hU3, hF3, i, hi, d6, d2, d3⟩
                  have hb3 := hU3 _ _ hb
                  have hb3' := hU3 _ _ hb'
                  have hv3 := hv.up (hU1.trans hU3)
                  have hv3' := hv'.up (hU1.trans hU3)
                  by_cases hlt : i < L.length
                  · obtain ⟨c, hc⟩ : ∃ c, L[i]? = some c := ⟨_, List.getElem?_eq_getElem hlt⟩
                    have hcm := List.mem_of_getElem? hc
                    have hcl := (hvc c hcm).len
                    obtain ⟨d, hd⟩ : ∃ d, Lb[i]? = some d := ⟨_, List.getElem?_eq_getElem (by omega)⟩
                    have hdm := List.mem_of_getElem? hd
                    have hdl := (hvc' d hdm).len
                    obtain ⟨p, hp, hload, _⟩ := hv3.index und23 sz26 .i64 hc
                    obtain ⟨q, hq, hload2, _⟩ := hv3'.index und23 sz26 .i64 hd
                    simp (maxSteps := 1000000) only [sx, fx, implies_true, evBuildSlice, fillE, fillA, AV.isCell, here, plain, laid, evOp, avOf, avCell, strOf, evBin, evInt, evStr, evUn, evResults, evResultsL, AV.isUndef, AV.cells, Heap.store, wbool_off, after_scope, Nat.reduceMul, Nat.reducePow, Nat.reduceSub, Nat.reduceBEq, UInt8.reduceToNat, Nat.reduceEqDiff, Nat.reduceLT, reduceCtorEq, Nat.reduceAdd, Nat.reduceLeDiff, d6, d2, d3, hb3, hv3.lenAt und23, lt_true hlt]
                    refine drawStep [] [0, 1, 2, 3, 4, 5, 6, 7, 8, 9, 10, 11] _ rfl (by kernel_rfl) ?_
                    simp (maxSteps := 1000000) only [sx, fx, implies_true, evBuildSlice, fillE, fillA, AV.isCell, here, plain, laid, evOp, avOf, avCell, strOf, evBin, evInt, evStr, evUn, evResults, evResultsL, AV.isUndef, AV.cells, Heap.store, wbool_off, after_scope, Nat.reduceMul, Nat.reducePow, Nat.reduceSub, Nat.reduceBEq, UInt8.reduceToNat, Nat.reduceEqDiff, Nat.reduceLT, reduceCtorEq, Nat.reduceAdd, Nat.reduceLeDiff, d6, d2, d3, hb3, hb3', hp, hq, hload _ (Up.refl _), hload2 _ (Up.refl _), hcl, hdl]
                    refine callStep (ih _ H3 c d ((hvc c hcm).up (hU1.trans hU3)) ((hvc' d hdm).up (hU1.trans hU3)) hF3 _ fun b H4 hU4 hF4 => ?_)
                    cases b
                    · simp (maxSteps := 1000000) only [sx, fx, implies_true, evBuildSlice, fillE, fillA, AV.isCell, here, plain, laid, evOp, avOf, avCell, strOf, evBin, evInt, evStr, evUn, evResults, evResultsL, AV.isUndef, AV.cells, Heap.store, wbool_off, after_scope, Nat.reduceMul, Nat.reducePow, Nat.reduceSub, Nat.reduceBEq, UInt8.reduceToNat, Nat.reduceEqDiff, Nat.reduceLT, reduceCtorEq, Nat.reduceAdd, Nat.reduceLeDiff]
                      exact hK _ _ (hU1.trans (hU3.trans hU4)) hF4
                    · simp (maxSteps := 1000000) only [sx, fx, implies_true, evBuildSlice, fillE, fillA, AV.isCell, here, plain, laid, evOp, avOf, avCell, strOf, evBin, evInt, evStr, evUn, evResults, evResultsL, AV.isUndef, AV.cells, Heap.store, wbool_off, after_scope, Nat.reduceMul, Nat.reducePow, Nat.reduceSub, Nat.reduceBEq, UInt8.reduceToNat, Nat.reduceEqDiff, Nat.reduceLT, reduceCtorEq, Nat.reduceAdd, Nat.reduceLeDiff, d6, d2, d3, wrap_succ (i := i) (by omega)]
                      refine ⟨⟨hU3.trans hU4, hF4, i + 1, hlt, rfl⟩, ?_⟩
                      omega
                  · simp (maxSteps := 1000000) only [sx, fx, implies_true, evBuildSlice, fillE, fillA, AV.isCell, here, plain, laid, evOp, avOf, avCell, strOf, evBin, evInt, evStr, evUn, evResults, evResultsL, AV.isUndef, AV.cells, Heap.store, wbool_off, after_scope, Nat.reduceMul, Nat.reducePow, Nat.reduceSub, Nat.reduceBEq, UInt8.reduceToNat, Nat.reduceEqDiff, Nat.reduceLT, reduceCtorEq, Nat.reduceAdd, Nat.reduceLeDiff, d6, d2, d3, hb3, hv3.lenAt und23, lt_false hlt]
                    exact hK _ _ (hU1.trans hU3) hF3

/-- A policy's cells, in a heap. -/
def PolR (H : Heap) (cs : List AV) : Prop := ∃ (q : List Nat) (i1 i2 i3 i4 i5 i6 i7 i8 : Int) (w : AV) (M : List (List AV)), cs = [.str q, .int .i64 i1, .int .i64 i2, .int .i64 i3, .int .i64 i4, .int .i64 i5, .int .i64 i6, .int .i64 i7, .int .i64 i8, w] ∧ q.length < 2 ^ 60 ∧ Holds H 1 w M ∧ M.length < 2 ^ 60 ∧ ∀ c ∈ M, ∃ s, c = [.str s]
theorem PolR.up {H G : Heap} {cs : List AV} (h : PolR H cs) (hu : Up H G) : PolR G cs := by
  obtain ⟨q, i1, i2, i3, i4, i5, i6, i7, i8, w, M, e, hq, hw, h1, h2⟩ := h
  exact ⟨q, i1, i2, i3, i4, i5, i6, i7, i8, w, M, e, hq, hw.up hu, h1, h2⟩
theorem PolR.len {H : Heap} {cs : List AV} (h : PolR H cs) : cs.length = 10 := by
  obtain ⟨q, i1, i2, i3, i4, i5, i6, i7, i8, w, M, rfl, _⟩ := h; rfl

set_option maxHeartbeats 8000000 in
theorem f69_ok {H : Heap} {cs ds : List AV} (h : PolR H cs) (h' : PolR H ds) (hF : Free H) (K : AV → Heap → Prop) (hK : ∀ b H', Up H H' → Free H' → K (.bool b) H') : WF Try.prog 69 [.agg cs, .agg ds] H K := by
  obtain ⟨q, i1, i2, i3, i4, i5, i6, i7, i8, w, M, rfl, _, hw, hwn, hwc⟩ := h
  obtain ⟨q', j1, j2, j3, j4, j5, j6, j7, j8, w', Mb, rfl, _, hw', hwn', hwc'⟩ := h'
  refine WF_body Try.func69 (by kernel_rfl) rfl Try.ntmps69 (by rw [Try.results69]) (of_decide_eq_true (by kernel_rfl)) ?_
  simp (maxSteps := 1000000) only [sx, fx, implies_true, evBuildSlice, fillE, fillA, AV.isCell, here, plain, laid, evOp, avOf, avCell, strOf, evBin, evInt, evStr, evUn, evResults, evResultsL, AV.isUndef, AV.cells, Heap.store, wbool_off, after_scope, Nat.reduceMul, Nat.reducePow, Nat.reduceSub, Nat.reduceBEq, UInt8.reduceToNat, Nat.reduceEqDiff, Nat.reduceLT, reduceCtorEq, Nat.reduceAdd, Nat.reduceLeDiff, hF.at, hF.hp]
  generalize hH1 : HP H [Blk.row 58 10 [[.str q, .int .i64 i1, .int .i64 i2, .int .i64 i3, .int .i64 i4, .int .i64 i5, .int .i64 i6, .int .i64 i7, .int .i64 i8, w]] 0 0, Blk.row 58 10 [[.str q', .int .i64 j1, .int .i64 j2, .int .i64 j3, .int .i64 j4, .int .i64 j5, .int .i64 j6, .int .i64 j7, .int .i64 j8, w']] 0 0] = H1
  have hb : H1.blk H.next = some (.row 58 10 [[.str q, .int .i64 i1, .int .i64 i2, .int .i64 i3, .int .i64 i4, .int .i64 i5, .int .i64 i6, .int .i64 i7, .int .i64 i8, w]] 0 0) := by rw [← hH1, hp_blk0]; rfl
  have hb' : H1.blk (H.next + 1) = some (.row 58 10 [[.str q', .int .i64 j1, .int .i64 j2, .int .i64 j3, .int .i64 j4, .int .i64 j5, .int .i64 j6, .int .i64 j7, .int .i64 j8, w']] 0 0) := by rw [← hH1, hp_blk]; rfl
  have hF1 : Free H1 := hH1 ▸ hF.hpF _
  have hU1 : Up H H1 := hH1 ▸ hF.hpU _
  have lw := (hw.up hU1).lenAt und24
  have lw' := (hw'.up hU1).lenAt und24
  generalize h1 : (!(q == q')) = b1
  generalize h2 : (i1 != j1) = b2
  generalize h3 : (i2 != j2) = b3
  generalize h4 : (i3 != j3) = b4
  generalize h5 : (i4 != j4) = b5
  generalize h6 : (i5 != j5) = b6
  generalize h7 : (i6 != j6) = b7
  generalize h8 : (i7 != j7) = b8
  generalize h9 : (i8 != j8) = b9
  generalize h10 : ((M.length : Int) != (Mb.length : Int)) = b10
  cases b1 with
  | true =>
    simp (maxSteps := 1000000) only [sx, fx, implies_true, evBuildSlice, fillE, fillA, AV.isCell, here, plain, laid, evOp, avOf, avCell, strOf, evBin, evInt, evStr, evUn, evResults, evResultsL, AV.isUndef, AV.cells, Heap.store, wbool_off, after_scope, Nat.reduceMul, Nat.reducePow, Nat.reduceSub, Nat.reduceBEq, UInt8.reduceToNat, Nat.reduceEqDiff, Nat.reduceLT, reduceCtorEq, Nat.reduceAdd, Nat.reduceLeDiff, hb, hb', lw, lw', h1]
    exact hK _ _ hU1 hF1
  | false =>
    cases b2 with
    | true =>
      simp (maxSteps := 1000000) only [sx, fx, implies_true, evBuildSlice, fillE, fillA, AV.isCell, here, plain, laid, evOp, avOf, avCell, strOf, evBin, evInt, evStr, evUn, evResults, evResultsL, AV.isUndef, AV.cells, Heap.store, wbool_off, after_scope, Nat.reduceMul, Nat.reducePow, Nat.reduceSub, Nat.reduceBEq, UInt8.reduceToNat, Nat.reduceEqDiff, Nat.reduceLT, reduceCtorEq, Nat.reduceAdd, Nat.reduceLeDiff, hb, hb', lw, lw', h1, h2]
      exact hK _ _ hU1 hF1
    | false =>
      cases b3 with
      | true =>
        simp (maxSteps := 1000000) only [sx, fx, implies_true, evBuildSlice, fillE, fillA, AV.isCell, here, plain, laid, evOp, avOf, avCell, strOf, evBin, evInt, evStr, evUn, evResults, evResultsL, AV.isUndef, AV.cells, Heap.store, wbool_off, after_scope, Nat.reduceMul, Nat.reducePow, Nat.reduceSub, Nat.reduceBEq, UInt8.reduceToNat, Nat.reduceEqDiff, Nat.reduceLT, reduceCtorEq, Nat.reduceAdd, Nat.reduceLeDiff, hb, hb', lw, lw', h1, h2, h3]
        exact hK _ _ hU1 hF1
      | false =>
        cases b4 with
        | true =>
          simp (maxSteps := 1000000) only [sx, fx, implies_true, evBuildSlice, fillE, fillA, AV.isCell, here, plain, laid, evOp, avOf, avCell, strOf, evBin, evInt, evStr, evUn, evResults, evResultsL, AV.isUndef, AV.cells, Heap.store, wbool_off, after_scope, Nat.reduceMul, Nat.reducePow, Nat.reduceSub, Nat.reduceBEq, UInt8.reduceToNat, Nat.reduceEqDiff, Nat.reduceLT, reduceCtorEq, Nat.reduceAdd, Nat.reduceLeDiff, hb, hb', lw, lw', h1, h2, h3, h4]
          exact hK _ _ hU1 hF1
        | false =>
          cases b5 with
          | true =>
            simp (maxSteps := 1000000) only [sx, fx, implies_true, evBuildSlice, fillE, fillA, AV.isCell, here, plain, laid, evOp, avOf, avCell, strOf, evBin, evInt, evStr, evUn, evResults, evResultsL, AV.isUndef, AV.cells, Heap.store, wbool_off, after_scope, Nat.reduceMul, Nat.reducePow, Nat.reduceSub, Nat.reduceBEq, UInt8.reduceToNat, Nat.reduceEqDiff, Nat.reduceLT, reduceCtorEq, Nat.reduceAdd, Nat.reduceLeDiff, hb, hb', lw, lw', h1, h2, h3, h4, h5]
            exact hK _ _ hU1 hF1
          | false =>
            cases b6 with
            | true =>
              simp (maxSteps := 1000000) only [sx, fx, implies_true, evBuildSlice, fillE, fillA, AV.isCell, here, plain, laid, evOp, avOf, avCell, strOf, evBin, evInt, evStr, evUn, evResults, evResultsL, AV.isUndef, AV.cells, Heap.store, wbool_off, after_scope, Nat.reduceMul, Nat.reducePow, Nat.reduceSub, Nat.reduceBEq, UInt8.reduceToNat, Nat.reduceEqDiff, Nat.reduceLT, reduceCtorEq, Nat.reduceAdd, Nat.reduceLeDiff, hb, hb', lw, lw', h1, h2, h3, h4, h5, h6]
              exact hK _ _ hU1 hF1
            | false =>
              cases b7 with
              | true =>
                simp (maxSteps := 1000000) only [sx, fx, implies_true, evBuildSlice, fillE, fillA, AV.isCell, here, plain, laid, evOp, avOf, avCell, strOf, evBin, evInt, evStr, evUn, evResults, evResultsL, AV.isUndef, AV.cells, Heap.store, wbool_off, after_scope, Nat.reduceMul, Nat.reducePow, Nat.reduceSub, Nat.reduceBEq, UInt8.reduceToNat, Nat.reduceEqDiff, Nat.reduceLT, reduceCtorEq, Nat.reduceAdd, Nat.reduceLeDiff, hb, hb', lw, lw', h1, h2, h3, h4, h5, h6, h7]
                exact hK _ _ hU1 hF1
              | false =>
                cases b8 with
                | true =>
                  simp (maxSteps := 1000000) only [sx, fx, implies_true, evBuildSlice, fillE, fillA, AV.isCell, here, plain, laid, evOp, avOf, avCell, strOf, evBin, evInt, evStr, evUn, evResults, evResultsL, AV.isUndef, AV.cells, Heap.store, wbool_off, after_scope, Nat.reduceMul, Nat.reducePow, Nat.reduceSub, Nat.reduceBEq, UInt8.reduceToNat, Nat.reduceEqDiff, Nat.reduceLT, reduceCtorEq, Nat.reduceAdd, Nat.reduceLeDiff, hb, hb', lw, lw', h1, h2, h3, h4, h5, h6, h7, h8]
                  exact hK _ _ hU1 hF1
                | false =>
                  cases b9 with
                  | true =>
                    simp (maxSteps := 1000000) only [sx, fx, implies_true, evBuildSlice, fillE, fillA, AV.isCell, here, plain, laid, evOp, avOf, avCell, strOf, evBin, evInt, evStr, evUn, evResults, evResultsL, AV.isUndef, AV.cells, Heap.store, wbool_off, after_scope, Nat.reduceMul, Nat.reducePow, Nat.reduceSub, Nat.reduceBEq, UInt8.reduceToNat, Nat.reduceEqDiff, Nat.reduceLT, reduceCtorEq, Nat.reduceAdd, Nat.reduceLeDiff, hb, hb', lw, lw', h1, h2, h3, h4, h5, h6, h7, h8, h9]
                    exact hK _ _ hU1 hF1
                  | false =>
                    cases b10 with
                    | true =>
                      simp (maxSteps := 1000000) only [sx, fx, implies_true, evBuildSlice, fillE, fillA, AV.isCell, here, plain, laid, evOp, avOf, avCell, strOf, evBin, evInt, evStr, evUn, evResults, evResultsL, AV.isUndef, AV.cells, Heap.store, wbool_off, after_scope, Nat.reduceMul, Nat.reducePow, Nat.reduceSub, Nat.reduceBEq, UInt8.reduceToNat, Nat.reduceEqDiff, Nat.reduceLT, reduceCtorEq, Nat.reduceAdd, Nat.reduceLeDiff, hb, hb', lw, lw', h1, h2, h3, h4, h5, h6, h7, h8, h9, h10]
                      exact hK _ _ hU1 hF1
                    | false =>
                      have hMb : M.length = Mb.length := by have := h10; simp at this; omega
                      simp (maxSteps := 1000000) only [sx, fx, implies_true, evBuildSlice, fillE, fillA, AV.isCell, here, plain, laid, evOp, avOf, avCell, strOf, evBin, evInt, evStr, evUn, evResults, evResultsL, AV.isUndef, AV.cells, Heap.store, wbool_off, after_scope, Nat.reduceMul, Nat.reducePow, Nat.reduceSub, Nat.reduceBEq, UInt8.reduceToNat, Nat.reduceEqDiff, Nat.reduceLT, reduceCtorEq, Nat.reduceAdd, Nat.reduceLeDiff, hb, hb', lw, lw', h1, h2, h3, h4, h5, h6, h7, h8, h9, h10]
                      refine loopStep' (fun env H' => H' = H1 ∧ ∃ (i : Nat), i ≤ M.length ∧ env.at (.tmp 5) = .int .i64 i ∧ env.at (.tmp 2) = .ptr H.next 0 0 0 ∧ env.at (.tmp 3) = .ptr (H.next + 1) 0 0 0)
                        (fun env H' => match env.at (.tmp 5) with | .int _ i => ((M.length : Int) - i).toNat | _ => 0) ?_ ?_
                      · exact ⟨rfl, 0, Nat.zero_le _, by simp only [sx, fx, implies_true, evBuildSlice, fillE, fillA, AV.isCell, here, plain, laid, evOp, avOf, avCell, strOf, evBin, evInt, evStr, evUn, evResults, evResultsL, AV.isUndef, AV.cells, Heap.store, wbool_off, after_scope, Nat.reduceMul, Nat.reducePow, Nat.reduceSub, Nat.reduceBEq, UInt8.reduceToNat, Nat.reduceEqDiff, Nat.reduceLT, reduceCtorEq, Nat.reduceAdd, Nat.reduceLeDiff]; rfl, by simp only [sx, fx, implies_true, evBuildSlice, fillE, fillA, AV.isCell, here, plain, laid, evOp, avOf, avCell, strOf, evBin, evInt, evStr, evUn, evResults, evResultsL, AV.isUndef, AV.cells, Heap.store, wbool_off, after_scope, Nat.reduceMul, Nat.reducePow, Nat.reduceSub, Nat.reduceBEq, UInt8.reduceToNat, Nat.reduceEqDiff, Nat.reduceLT, reduceCtorEq, Nat.reduceAdd, Nat.reduceLeDiff], by simp only [sx, fx, implies_true, evBuildSlice, fillE, fillA, AV.isCell, here, plain, laid, evOp, avOf, avCell, strOf, evBin, evInt, evStr, evUn, evResults, evResultsL, AV.isUndef, AV.cells, Heap.store, wbool_off, after_scope, Nat.reduceMul, Nat.reducePow, Nat.reduceSub, Nat.reduceBEq, UInt8.reduceToNat, Nat.reduceEqDiff, Nat.reduceLT, reduceCtorEq, Nat.reduceAdd, Nat.reduceLeDiff]⟩
                      · rintro env H' ⟨rfl, i, hi, e5, e2, e3⟩
                        by_cases hlt : i < M.length
                        · obtain ⟨c, hc⟩ : ∃ c, M[i]? = some c := ⟨_, List.getElem?_eq_getElem hlt⟩
                          obtain ⟨t, rfl⟩ := hwc c (List.mem_of_getElem? hc)
                          obtain ⟨d, hd⟩ : ∃ d, Mb[i]? = some d := ⟨_, List.getElem?_eq_getElem (by omega)⟩
                          obtain ⟨u, rfl⟩ := hwc' d (List.mem_of_getElem? hd)
                          obtain ⟨p, hp, hload, _⟩ := (hw.up hU1).index und24 sz9 .i64 hc
                          obtain ⟨r, hr, hload2, _⟩ := (hw'.up hU1).index und24 sz9 .i64 hd
                          simp (maxSteps := 1000000) only [sx, fx, implies_true, evBuildSlice, fillE, fillA, AV.isCell, here, plain, laid, evOp, avOf, avCell, strOf, evBin, evInt, evStr, evUn, evResults, evResultsL, AV.isUndef, AV.cells, Heap.store, wbool_off, after_scope, Nat.reduceMul, Nat.reducePow, Nat.reduceSub, Nat.reduceBEq, UInt8.reduceToNat, Nat.reduceEqDiff, Nat.reduceLT, reduceCtorEq, Nat.reduceAdd, Nat.reduceLeDiff, e5, e2, e3, hb, lw, lt_true hlt]
                          refine drawStep [] [0, 1, 2, 3, 4, 5, 6, 7, 8, 9, 10] _ rfl (by kernel_rfl) ?_
                          generalize hx : (!(t == u)) = x
                          cases x
                          · simp (maxSteps := 1000000) only [sx, fx, implies_true, evBuildSlice, fillE, fillA, AV.isCell, here, plain, laid, evOp, avOf, avCell, strOf, evBin, evInt, evStr, evUn, evResults, evResultsL, AV.isUndef, AV.cells, Heap.store, wbool_off, after_scope, Nat.reduceMul, Nat.reducePow, Nat.reduceSub, Nat.reduceBEq, UInt8.reduceToNat, Nat.reduceEqDiff, Nat.reduceLT, reduceCtorEq, Nat.reduceAdd, Nat.reduceLeDiff, e5, e2, e3, hb, hb', hp, hr, hload _ (Up.refl _), hload2 _ (Up.refl _), hx, wrap_succ (i := i) (by omega)]
                            refine ⟨⟨i + 1, hlt, rfl⟩, ?_⟩
                            omega
                          · simp (maxSteps := 1000000) only [sx, fx, implies_true, evBuildSlice, fillE, fillA, AV.isCell, here, plain, laid, evOp, avOf, avCell, strOf, evBin, evInt, evStr, evUn, evResults, evResultsL, AV.isUndef, AV.cells, Heap.store, wbool_off, after_scope, Nat.reduceMul, Nat.reducePow, Nat.reduceSub, Nat.reduceBEq, UInt8.reduceToNat, Nat.reduceEqDiff, Nat.reduceLT, reduceCtorEq, Nat.reduceAdd, Nat.reduceLeDiff, e5, e2, e3, hb, hb', hp, hr, hload _ (Up.refl _), hload2 _ (Up.refl _), hx]
                            exact hK _ _ hU1 hF1
                        · simp (maxSteps := 1000000) only [sx, fx, implies_true, evBuildSlice, fillE, fillA, AV.isCell, here, plain, laid, evOp, avOf, avCell, strOf, evBin, evInt, evStr, evUn, evResults, evResultsL, AV.isUndef, AV.cells, Heap.store, wbool_off, after_scope, Nat.reduceMul, Nat.reducePow, Nat.reduceSub, Nat.reduceBEq, UInt8.reduceToNat, Nat.reduceEqDiff, Nat.reduceLT, reduceCtorEq, Nat.reduceAdd, Nat.reduceLeDiff, e5, e2, e3, hb, lw, lt_false hlt]
                          exact hK _ _ hU1 hF1
end Go.Proofs.T
