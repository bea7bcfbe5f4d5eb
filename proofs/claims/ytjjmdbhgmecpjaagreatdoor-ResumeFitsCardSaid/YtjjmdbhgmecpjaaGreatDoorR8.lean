import Derived.Test.YtjjmdbhgmecpjaaGreatDoorR67
import Derived.Test.YtjjmdbhgmecpjaaGreatDoorLv5
set_option linter.unusedVariables false
set_option linter.unusedSimpArgs false
set_option maxRecDepth 100000
namespace Go.Proofs.T
open Go.Ev
theorem EvT.evs {x : List AV} (h : EvT x) : EvS x := by
  obtain ⟨a, b, c, e, f, g, h', nm, ky, d, q, i1, i2, i3, i4, i5, i6, i7, i8, pw, M, n, rfl, hd, hpw, hpm, hpM⟩ := evc_split h
  obtain ⟨d0, d1, d2, d3, d4, rfl⟩ := five hd.len
  exact ⟨rfl, ⟨nm, rfl⟩, ⟨ky, rfl⟩, ⟨n, hd.ok⟩, ⟨q, rfl⟩, ⟨pw, M, rfl, hpw, by omega, hpM⟩⟩
theorem EvT.kd {L : List (List AV)} (h : ∀ c ∈ L, EvT c) : Kd L := fun x hx => by
  obtain ⟨a, b, c, e, f, g, h', nm, ky, d, q, i1, i2, i3, i4, i5, i6, i7, i8, pw, M, n, rfl, hd, hpw, hpm, hpM⟩ := evc_split (h x hx)
  exact ⟨rfl, by simp [evc, pol, hd.len]⟩

theorem eqA4 (a b : Bool) : eqA Tryz.prog 10000 4 (.bool a) (.bool b) = some (a == b) := by rw [show (10000 : Nat) = 9999 + 1 from rfl]; simp [eqA, und4]
theorem law_ok {v : AV} {L : List (List AV)} (hv : ∀ H, Holds H 24 v L) (hL : ∀ c ∈ L, EvT c) (hb : L.length * 272 ≤ 140737488355328) (dn : Int) (lv : Bool) : WF Tryz.prog 3 [v, .int .i64 dn, .bool lv] (H00 M0) fun r _ => r = .bool true := by
  have hF := free_H00
  generalize H00 M0 = H at hF ⊢
  refine WF_body Tryz.func3 (by kernel_rfl) rfl Tryz.ntmps3 (by rw [Tryz.results3]) (of_decide_eq_true (by kernel_rfl)) ?_
  simp (maxSteps := 1000000) only [sx, fx, ux, implies_true, evBuildSlice, fillE, fillA, Nat.reduceMul, Nat.reducePow, Nat.reduceSub, here, plain, laid, Nat.reduceBEq, evOp, avOf, avCell, strOf, UInt8.reduceToNat, evBin, evInt, evStr, evUn, Nat.reduceEqDiff, Nat.reduceLT, evResults, evResultsL, reduceCtorEq, Nat.reduceAdd, Heap.store, Nat.reduceLeDiff, wbool_off, after_scope]
  refine callStep (f4_ok H hF hv (fun c hc => (hL c hc).evs) (by omega) _ fun b H1 hb1 hU1 hF1 => ?_)
  cases b with
  | false =>
    simp (maxSteps := 1000000) only [sx, fx, ux, implies_true, evBuildSlice, fillE, fillA, Nat.reduceMul, Nat.reducePow, Nat.reduceSub, here, plain, laid, Nat.reduceBEq, evOp, avOf, avCell, strOf, UInt8.reduceToNat, evBin, evInt, evStr, evUn, Nat.reduceEqDiff, Nat.reduceLT, evResults, evResultsL, reduceCtorEq, Nat.reduceAdd, Heap.store, Nat.reduceLeDiff, wbool_off, after_scope]
    refine callStep (lv_ok hF1 _ fun G _ => ?_)
    simp (maxSteps := 1000000) only [sx, fx, ux, implies_true, evBuildSlice, fillE, fillA, Nat.reduceMul, Nat.reducePow, Nat.reduceSub, here, plain, laid, Nat.reduceBEq, evOp, avOf, avCell, strOf, UInt8.reduceToNat, evBin, evInt, evStr, evUn, Nat.reduceEqDiff, Nat.reduceLT, evResults, evResultsL, reduceCtorEq, Nat.reduceAdd, Heap.store, Nat.reduceLeDiff, wbool_off, after_scope]
  | true =>
    have h60 := hb1 rfl
    simp (maxSteps := 1000000) only [sx, fx, ux, implies_true, evBuildSlice, fillE, fillA, Nat.reduceMul, Nat.reducePow, Nat.reduceSub, here, plain, laid, Nat.reduceBEq, evOp, avOf, avCell, strOf, UInt8.reduceToNat, evBin, evInt, evStr, evUn, Nat.reduceEqDiff, Nat.reduceLT, evResults, evResultsL, reduceCtorEq, Nat.reduceAdd, Heap.store, Nat.reduceLeDiff, wbool_off, after_scope]
    refine callStep (f6_ok (dn := dn) (lv := lv) rfl rfl rfl hv (EvT.kd hL) (by omega) H1 hF1 _ fun H2 hU2 hF2 => ?_)
    simp (maxSteps := 1000000) only [sx, fx, ux, implies_true, evBuildSlice, fillE, fillA, Nat.reduceMul, Nat.reducePow, Nat.reduceSub, here, plain, laid, Nat.reduceBEq, evOp, avOf, avCell, strOf, UInt8.reduceToNat, evBin, evInt, evStr, evUn, Nat.reduceEqDiff, Nat.reduceLT, evResults, evResultsL, reduceCtorEq, Nat.reduceAdd, Heap.store, Nat.reduceLeDiff, wbool_off, after_scope]
    refine callStep (f7_ok (dn := dn) (lv := lv) rfl rfl rfl hv (EvT.kd hL) (by omega) H2 hF2 _ fun H3 hU3 hF3 => ?_)
    simp (maxSteps := 1000000) only [sx, fx, ux, implies_true, evBuildSlice, fillE, fillA, Nat.reduceMul, Nat.reducePow, Nat.reduceSub, here, plain, laid, Nat.reduceBEq, evOp, avOf, avCell, strOf, UInt8.reduceToNat, evBin, evInt, evStr, evUn, Nat.reduceEqDiff, Nat.reduceLT, evResults, evResultsL, reduceCtorEq, Nat.reduceAdd, Heap.store, Nat.reduceLeDiff, wbool_off, after_scope, bneq_self, eqOk, eqA4, beq_self_eq_true]
    refine callStep (f8_ok hv hL hb dn H3 hF3 _ fun u L2 H4 hU4 hF4 hO4 hlen hE => ?_)
    by_cases c1 : dn < 0
    · rw [show dl0 dn L.length = 0 from if_pos c1] at hlen hE
      have hlen2 : L2.length = L.length - 0 := by rw [hlen]; simp
      have w0 : IntKind.i64.wrap ((L.length : Int) - 0) = ((L.length : Int) - 0) := IntWalk.i64_in _ (by omega)
      have g0 : ((L2.length : Int) != (L.length : Int) - 0) = false := by simp; omega
      simp (maxSteps := 1000000) only [sx, fx, ux, implies_true, evBuildSlice, fillE, fillA, Nat.reduceMul, Nat.reducePow, Nat.reduceSub, here, plain, laid, Nat.reduceBEq, evOp, avOf, avCell, strOf, UInt8.reduceToNat, evBin, evInt, evStr, evUn, Nat.reduceEqDiff, Nat.reduceLT, evResults, evResultsL, reduceCtorEq, Nat.reduceAdd, Heap.store, Nat.reduceLeDiff, wbool_off, after_scope, c1, (hv H4).lenAt und22, hO4.lenAt und22, w0, g0]
      refine loopStep' (fun env H' => Up H4 H' ∧ Free H' ∧ ∃ (i : Nat), i ≤ L2.length ∧ env.at (.tmp 8) = .int .i64 i ∧ env.at (.tmp 7) = u ∧ env.at (.tmp 0) = v ∧ env.at (.tmp 1) = .int .i64 0)
        (fun env H' => match env.at (.tmp 8) with | .int _ i => ((L2.length : Int) - i).toNat | _ => 0) ?_ ?_
      · exact ⟨Up.refl _, hF4, 0, Nat.zero_le _, by simp only [sx, fx, ux, implies_true, evBuildSlice, fillE, fillA, Nat.reduceMul, Nat.reducePow, Nat.reduceSub, here, plain, laid, Nat.reduceBEq, evOp, avOf, avCell, strOf, UInt8.reduceToNat, evBin, evInt, evStr, evUn, Nat.reduceEqDiff, Nat.reduceLT, evResults, evResultsL, reduceCtorEq, Nat.reduceAdd, Heap.store, Nat.reduceLeDiff, wbool_off, after_scope]; rfl, by simp only [sx, fx, ux, implies_true, evBuildSlice, fillE, fillA, Nat.reduceMul, Nat.reducePow, Nat.reduceSub, here, plain, laid, Nat.reduceBEq, evOp, avOf, avCell, strOf, UInt8.reduceToNat, evBin, evInt, evStr, evUn, Nat.reduceEqDiff, Nat.reduceLT, evResults, evResultsL, reduceCtorEq, Nat.reduceAdd, Heap.store, Nat.reduceLeDiff, wbool_off, after_scope], by simp only [sx, fx, ux, implies_true, evBuildSlice, fillE, fillA, Nat.reduceMul, Nat.reducePow, Nat.reduceSub, here, plain, laid, Nat.reduceBEq, evOp, avOf, avCell, strOf, UInt8.reduceToNat, evBin, evInt, evStr, evUn, Nat.reduceEqDiff, Nat.reduceLT, evResults, evResultsL, reduceCtorEq, Nat.reduceAdd, Heap.store, Nat.reduceLeDiff, wbool_off, after_scope], by simp only [sx, fx, ux, implies_true, evBuildSlice, fillE, fillA, Nat.reduceMul, Nat.reducePow, Nat.reduceSub, here, plain, laid, Nat.reduceBEq, evOp, avOf, avCell, strOf, UInt8.reduceToNat, evBin, evInt, evStr, evUn, Nat.reduceEqDiff, Nat.reduceLT, evResults, evResultsL, reduceCtorEq, Nat.reduceAdd, Heap.store, Nat.reduceLeDiff, wbool_off, after_scope]⟩
      · rintro env H' ⟨hU', hF', i, hi, e8, e7, e0, e1⟩
        have hO' := hO4.up hU'
        by_cases hlt : i < L2.length
        · obtain ⟨x, hx⟩ : ∃ x, L2[i]? = some x := ⟨_, List.getElem?_eq_getElem hlt⟩
          obtain ⟨y, hy⟩ : ∃ y, L[i]? = some y := ⟨_, List.getElem?_eq_getElem (by omega)⟩
          have hxy := (hE i x y hx (by rw [List.getElem?_drop, Nat.zero_add]; exact hy)).up hU'
          obtain ⟨p1, hp1, hl1⟩ := idx_of hO' und22 sz46 hx
          obtain ⟨p2, hp2, hl2⟩ := idx_of (hv H') und22 sz46 hy
          have w1 : IntKind.i64.wrap (0 + (i : Int)) = (((i : Nat)) : Int) := by rw [IntWalk.i64_in _ (by omega)]; simp
          simp (maxSteps := 1000000) only [sx, fx, ux, implies_true, evBuildSlice, fillE, fillA, Nat.reduceMul, Nat.reducePow, Nat.reduceSub, here, plain, laid, Nat.reduceBEq, evOp, avOf, avCell, strOf, UInt8.reduceToNat, evBin, evInt, evStr, evUn, Nat.reduceEqDiff, Nat.reduceLT, evResults, evResultsL, reduceCtorEq, Nat.reduceAdd, Heap.store, Nat.reduceLeDiff, wbool_off, after_scope, e8, e7, e0, e1, hO'.lenAt und22, lt_true hlt]
          refine drawStep [] [0, 1, 2, 3, 4, 5, 6, 7, 8, 9, 10, 11] _ rfl (by kernel_rfl) ?_
          simp (maxSteps := 1000000) only [sx, fx, ux, implies_true, evBuildSlice, fillE, fillA, Nat.reduceMul, Nat.reducePow, Nat.reduceSub, here, plain, laid, Nat.reduceBEq, evOp, avOf, avCell, strOf, UInt8.reduceToNat, evBin, evInt, evStr, evUn, Nat.reduceEqDiff, Nat.reduceLT, evResults, evResultsL, reduceCtorEq, Nat.reduceAdd, Heap.store, Nat.reduceLeDiff, wbool_off, after_scope, e8, e7, e0, e1, w1, hp1, hp2, hl1 H' (Up.refl _), hl2 H' (Up.refl _)]
          refine callStep (sameE_ok hxy hF' _ fun H5 hU5 hF5 => ?_)
          simp (maxSteps := 1000000) only [sx, fx, ux, implies_true, evBuildSlice, fillE, fillA, Nat.reduceMul, Nat.reducePow, Nat.reduceSub, here, plain, laid, Nat.reduceBEq, evOp, avOf, avCell, strOf, UInt8.reduceToNat, evBin, evInt, evStr, evUn, Nat.reduceEqDiff, Nat.reduceLT, evResults, evResultsL, reduceCtorEq, Nat.reduceAdd, Heap.store, Nat.reduceLeDiff, wbool_off, after_scope, e8, e7, e0, e1, wrap_succ (i := i) (by omega)]
          refine ⟨⟨hU'.trans hU5, hF5, i + 1, hlt, rfl⟩, ?_⟩
          omega
        · simp (maxSteps := 1000000) only [sx, fx, ux, implies_true, evBuildSlice, fillE, fillA, Nat.reduceMul, Nat.reducePow, Nat.reduceSub, here, plain, laid, Nat.reduceBEq, evOp, avOf, avCell, strOf, UInt8.reduceToNat, evBin, evInt, evStr, evUn, Nat.reduceEqDiff, Nat.reduceLT, evResults, evResultsL, reduceCtorEq, Nat.reduceAdd, Heap.store, Nat.reduceLeDiff, wbool_off, after_scope, e8, e7, e0, e1, hO'.lenAt und22, lt_false hlt]
          refine callStep (lv_ok hF' _ fun G _ => ?_)
          simp (maxSteps := 1000000) only [sx, fx, ux, implies_true, evBuildSlice, fillE, fillA, Nat.reduceMul, Nat.reducePow, Nat.reduceSub, here, plain, laid, Nat.reduceBEq, evOp, avOf, avCell, strOf, UInt8.reduceToNat, evBin, evInt, evStr, evUn, Nat.reduceEqDiff, Nat.reduceLT, evResults, evResultsL, reduceCtorEq, Nat.reduceAdd, Heap.store, Nat.reduceLeDiff, wbool_off, after_scope]
    · by_cases c2 : dn > (L.length : Int)
      · rw [show dl0 dn L.length = 0 by unfold dl0; rw [if_neg c1, if_pos c2]] at hlen hE
        have hlen2 : L2.length = L.length - 0 := by rw [hlen]; simp
        have w0 : IntKind.i64.wrap ((L.length : Int) - 0) = ((L.length : Int) - 0) := IntWalk.i64_in _ (by omega)
        have g0 : ((L2.length : Int) != (L.length : Int) - 0) = false := by simp; omega
        simp (maxSteps := 1000000) only [sx, fx, ux, implies_true, evBuildSlice, fillE, fillA, Nat.reduceMul, Nat.reducePow, Nat.reduceSub, here, plain, laid, Nat.reduceBEq, evOp, avOf, avCell, strOf, UInt8.reduceToNat, evBin, evInt, evStr, evUn, Nat.reduceEqDiff, Nat.reduceLT, evResults, evResultsL, reduceCtorEq, Nat.reduceAdd, Heap.store, Nat.reduceLeDiff, wbool_off, after_scope, c1, c2, (hv H4).lenAt und22, hO4.lenAt und22, w0, g0]
        refine loopStep' (fun env H' => Up H4 H' ∧ Free H' ∧ ∃ (i : Nat), i ≤ L2.length ∧ env.at (.tmp 8) = .int .i64 i ∧ env.at (.tmp 7) = u ∧ env.at (.tmp 0) = v ∧ env.at (.tmp 1) = .int .i64 0)
          (fun env H' => match env.at (.tmp 8) with | .int _ i => ((L2.length : Int) - i).toNat | _ => 0) ?_ ?_
        · exact ⟨Up.refl _, hF4, 0, Nat.zero_le _, by simp only [sx, fx, ux, implies_true, evBuildSlice, fillE, fillA, Nat.reduceMul, Nat.reducePow, Nat.reduceSub, here, plain, laid, Nat.reduceBEq, evOp, avOf, avCell, strOf, UInt8.reduceToNat, evBin, evInt, evStr, evUn, Nat.reduceEqDiff, Nat.reduceLT, evResults, evResultsL, reduceCtorEq, Nat.reduceAdd, Heap.store, Nat.reduceLeDiff, wbool_off, after_scope]; rfl, by simp only [sx, fx, ux, implies_true, evBuildSlice, fillE, fillA, Nat.reduceMul, Nat.reducePow, Nat.reduceSub, here, plain, laid, Nat.reduceBEq, evOp, avOf, avCell, strOf, UInt8.reduceToNat, evBin, evInt, evStr, evUn, Nat.reduceEqDiff, Nat.reduceLT, evResults, evResultsL, reduceCtorEq, Nat.reduceAdd, Heap.store, Nat.reduceLeDiff, wbool_off, after_scope], by simp only [sx, fx, ux, implies_true, evBuildSlice, fillE, fillA, Nat.reduceMul, Nat.reducePow, Nat.reduceSub, here, plain, laid, Nat.reduceBEq, evOp, avOf, avCell, strOf, UInt8.reduceToNat, evBin, evInt, evStr, evUn, Nat.reduceEqDiff, Nat.reduceLT, evResults, evResultsL, reduceCtorEq, Nat.reduceAdd, Heap.store, Nat.reduceLeDiff, wbool_off, after_scope], by simp only [sx, fx, ux, implies_true, evBuildSlice, fillE, fillA, Nat.reduceMul, Nat.reducePow, Nat.reduceSub, here, plain, laid, Nat.reduceBEq, evOp, avOf, avCell, strOf, UInt8.reduceToNat, evBin, evInt, evStr, evUn, Nat.reduceEqDiff, Nat.reduceLT, evResults, evResultsL, reduceCtorEq, Nat.reduceAdd, Heap.store, Nat.reduceLeDiff, wbool_off, after_scope]⟩
        · rintro env H' ⟨hU', hF', i, hi, e8, e7, e0, e1⟩
          have hO' := hO4.up hU'
          by_cases hlt : i < L2.length
          · obtain ⟨x, hx⟩ : ∃ x, L2[i]? = some x := ⟨_, List.getElem?_eq_getElem hlt⟩
            obtain ⟨y, hy⟩ : ∃ y, L[i]? = some y := ⟨_, List.getElem?_eq_getElem (by omega)⟩
            have hxy := (hE i x y hx (by rw [List.getElem?_drop, Nat.zero_add]; exact hy)).up hU'
            obtain ⟨p1, hp1, hl1⟩ := idx_of hO' und22 sz46 hx
            obtain ⟨p2, hp2, hl2⟩ := idx_of (hv H') und22 sz46 hy
            have w1 : IntKind.i64.wrap (0 + (i : Int)) = (((i : Nat)) : Int) := by rw [IntWalk.i64_in _ (by omega)]; simp
            simp (maxSteps := 1000000) only [sx, fx, ux, implies_true, evBuildSlice, fillE, fillA, Nat.reduceMul, Nat.reducePow, Nat.reduceSub, here, plain, laid, Nat.reduceBEq, evOp, avOf, avCell, strOf, UInt8.reduceToNat, evBin, evInt, evStr, evUn, Nat.reduceEqDiff, Nat.reduceLT, evResults, evResultsL, reduceCtorEq, Nat.reduceAdd, Heap.store, Nat.reduceLeDiff, wbool_off, after_scope, e8, e7, e0, e1, hO'.lenAt und22, lt_true hlt]
            refine drawStep [] [0, 1, 2, 3, 4, 5, 6, 7, 8, 9, 10, 11] _ rfl (by kernel_rfl) ?_
            simp (maxSteps := 1000000) only [sx, fx, ux, implies_true, evBuildSlice, fillE, fillA, Nat.reduceMul, Nat.reducePow, Nat.reduceSub, here, plain, laid, Nat.reduceBEq, evOp, avOf, avCell, strOf, UInt8.reduceToNat, evBin, evInt, evStr, evUn, Nat.reduceEqDiff, Nat.reduceLT, evResults, evResultsL, reduceCtorEq, Nat.reduceAdd, Heap.store, Nat.reduceLeDiff, wbool_off, after_scope, e8, e7, e0, e1, w1, hp1, hp2, hl1 H' (Up.refl _), hl2 H' (Up.refl _)]
            refine callStep (sameE_ok hxy hF' _ fun H5 hU5 hF5 => ?_)
            simp (maxSteps := 1000000) only [sx, fx, ux, implies_true, evBuildSlice, fillE, fillA, Nat.reduceMul, Nat.reducePow, Nat.reduceSub, here, plain, laid, Nat.reduceBEq, evOp, avOf, avCell, strOf, UInt8.reduceToNat, evBin, evInt, evStr, evUn, Nat.reduceEqDiff, Nat.reduceLT, evResults, evResultsL, reduceCtorEq, Nat.reduceAdd, Heap.store, Nat.reduceLeDiff, wbool_off, after_scope, e8, e7, e0, e1, wrap_succ (i := i) (by omega)]
            refine ⟨⟨hU'.trans hU5, hF5, i + 1, hlt, rfl⟩, ?_⟩
            omega
          · simp (maxSteps := 1000000) only [sx, fx, ux, implies_true, evBuildSlice, fillE, fillA, Nat.reduceMul, Nat.reducePow, Nat.reduceSub, here, plain, laid, Nat.reduceBEq, evOp, avOf, avCell, strOf, UInt8.reduceToNat, evBin, evInt, evStr, evUn, Nat.reduceEqDiff, Nat.reduceLT, evResults, evResultsL, reduceCtorEq, Nat.reduceAdd, Heap.store, Nat.reduceLeDiff, wbool_off, after_scope, e8, e7, e0, e1, hO'.lenAt und22, lt_false hlt]
            refine callStep (lv_ok hF' _ fun G _ => ?_)
            simp (maxSteps := 1000000) only [sx, fx, ux, implies_true, evBuildSlice, fillE, fillA, Nat.reduceMul, Nat.reducePow, Nat.reduceSub, here, plain, laid, Nat.reduceBEq, evOp, avOf, avCell, strOf, UInt8.reduceToNat, evBin, evInt, evStr, evUn, Nat.reduceEqDiff, Nat.reduceLT, evResults, evResultsL, reduceCtorEq, Nat.reduceAdd, Heap.store, Nat.reduceLeDiff, wbool_off, after_scope]
      · obtain ⟨m, rfl⟩ := Int.eq_ofNat_of_zero_le (show 0 ≤ dn by omega)
        rw [show dl0 (m : Int) L.length = m by unfold dl0; rw [if_neg c1, if_neg c2]; rfl] at hlen hE
        have hlen2 : L2.length = L.length - m := by rw [hlen]; simp
        have w0 : IntKind.i64.wrap ((L.length : Int) - m) = ((L.length : Int) - m) := IntWalk.i64_in _ (by omega)
        have g0 : ((L2.length : Int) != (L.length : Int) - m) = false := by simp; omega
        simp (maxSteps := 1000000) only [sx, fx, ux, implies_true, evBuildSlice, fillE, fillA, Nat.reduceMul, Nat.reducePow, Nat.reduceSub, here, plain, laid, Nat.reduceBEq, evOp, avOf, avCell, strOf, UInt8.reduceToNat, evBin, evInt, evStr, evUn, Nat.reduceEqDiff, Nat.reduceLT, evResults, evResultsL, reduceCtorEq, Nat.reduceAdd, Heap.store, Nat.reduceLeDiff, wbool_off, after_scope, c1, c2, (hv H4).lenAt und22, hO4.lenAt und22, w0, g0]
        refine loopStep' (fun env H' => Up H4 H' ∧ Free H' ∧ ∃ (i : Nat), i ≤ L2.length ∧ env.at (.tmp 8) = .int .i64 i ∧ env.at (.tmp 7) = u ∧ env.at (.tmp 0) = v ∧ env.at (.tmp 1) = .int .i64 m)
          (fun env H' => match env.at (.tmp 8) with | .int _ i => ((L2.length : Int) - i).toNat | _ => 0) ?_ ?_
        · exact ⟨Up.refl _, hF4, 0, Nat.zero_le _, by simp only [sx, fx, ux, implies_true, evBuildSlice, fillE, fillA, Nat.reduceMul, Nat.reducePow, Nat.reduceSub, here, plain, laid, Nat.reduceBEq, evOp, avOf, avCell, strOf, UInt8.reduceToNat, evBin, evInt, evStr, evUn, Nat.reduceEqDiff, Nat.reduceLT, evResults, evResultsL, reduceCtorEq, Nat.reduceAdd, Heap.store, Nat.reduceLeDiff, wbool_off, after_scope]; rfl, by simp only [sx, fx, ux, implies_true, evBuildSlice, fillE, fillA, Nat.reduceMul, Nat.reducePow, Nat.reduceSub, here, plain, laid, Nat.reduceBEq, evOp, avOf, avCell, strOf, UInt8.reduceToNat, evBin, evInt, evStr, evUn, Nat.reduceEqDiff, Nat.reduceLT, evResults, evResultsL, reduceCtorEq, Nat.reduceAdd, Heap.store, Nat.reduceLeDiff, wbool_off, after_scope], by simp only [sx, fx, ux, implies_true, evBuildSlice, fillE, fillA, Nat.reduceMul, Nat.reducePow, Nat.reduceSub, here, plain, laid, Nat.reduceBEq, evOp, avOf, avCell, strOf, UInt8.reduceToNat, evBin, evInt, evStr, evUn, Nat.reduceEqDiff, Nat.reduceLT, evResults, evResultsL, reduceCtorEq, Nat.reduceAdd, Heap.store, Nat.reduceLeDiff, wbool_off, after_scope], by simp only [sx, fx, ux, implies_true, evBuildSlice, fillE, fillA, Nat.reduceMul, Nat.reducePow, Nat.reduceSub, here, plain, laid, Nat.reduceBEq, evOp, avOf, avCell, strOf, UInt8.reduceToNat, evBin, evInt, evStr, evUn, Nat.reduceEqDiff, Nat.reduceLT, evResults, evResultsL, reduceCtorEq, Nat.reduceAdd, Heap.store, Nat.reduceLeDiff, wbool_off, after_scope]⟩
        · rintro env H' ⟨hU', hF', i, hi, e8, e7, e0, e1⟩
          have hO' := hO4.up hU'
          by_cases hlt : i < L2.length
          · obtain ⟨x, hx⟩ : ∃ x, L2[i]? = some x := ⟨_, List.getElem?_eq_getElem hlt⟩
            obtain ⟨y, hy⟩ : ∃ y, L[m + i]? = some y := ⟨_, List.getElem?_eq_getElem (by omega)⟩
            have hxy := (hE i x y hx (by rw [List.getElem?_drop]; exact hy)).up hU'
            obtain ⟨p1, hp1, hl1⟩ := idx_of hO' und22 sz46 hx
            obtain ⟨p2, hp2, hl2⟩ := idx_of (hv H') und22 sz46 hy
            have w1 : IntKind.i64.wrap (m + (i : Int)) = (((m + i : Nat)) : Int) := by rw [IntWalk.i64_in _ (by omega)]; simp
            simp (maxSteps := 1000000) only [sx, fx, ux, implies_true, evBuildSlice, fillE, fillA, Nat.reduceMul, Nat.reducePow, Nat.reduceSub, here, plain, laid, Nat.reduceBEq, evOp, avOf, avCell, strOf, UInt8.reduceToNat, evBin, evInt, evStr, evUn, Nat.reduceEqDiff, Nat.reduceLT, evResults, evResultsL, reduceCtorEq, Nat.reduceAdd, Heap.store, Nat.reduceLeDiff, wbool_off, after_scope, e8, e7, e0, e1, hO'.lenAt und22, lt_true hlt]
            refine drawStep [] [0, 1, 2, 3, 4, 5, 6, 7, 8, 9, 10, 11] _ rfl (by kernel_rfl) ?_
            simp (maxSteps := 1000000) only [sx, fx, ux, implies_true, evBuildSlice, fillE, fillA, Nat.reduceMul, Nat.reducePow, Nat.reduceSub, here, plain, laid, Nat.reduceBEq, evOp, avOf, avCell, strOf, UInt8.reduceToNat, evBin, evInt, evStr, evUn, Nat.reduceEqDiff, Nat.reduceLT, evResults, evResultsL, reduceCtorEq, Nat.reduceAdd, Heap.store, Nat.reduceLeDiff, wbool_off, after_scope, e8, e7, e0, e1, w1, hp1, hp2, hl1 H' (Up.refl _), hl2 H' (Up.refl _)]
            refine callStep (sameE_ok hxy hF' _ fun H5 hU5 hF5 => ?_)
            simp (maxSteps := 1000000) only [sx, fx, ux, implies_true, evBuildSlice, fillE, fillA, Nat.reduceMul, Nat.reducePow, Nat.reduceSub, here, plain, laid, Nat.reduceBEq, evOp, avOf, avCell, strOf, UInt8.reduceToNat, evBin, evInt, evStr, evUn, Nat.reduceEqDiff, Nat.reduceLT, evResults, evResultsL, reduceCtorEq, Nat.reduceAdd, Heap.store, Nat.reduceLeDiff, wbool_off, after_scope, e8, e7, e0, e1, wrap_succ (i := i) (by omega)]
            refine ⟨⟨hU'.trans hU5, hF5, i + 1, hlt, rfl⟩, ?_⟩
            omega
          · simp (maxSteps := 1000000) only [sx, fx, ux, implies_true, evBuildSlice, fillE, fillA, Nat.reduceMul, Nat.reducePow, Nat.reduceSub, here, plain, laid, Nat.reduceBEq, evOp, avOf, avCell, strOf, UInt8.reduceToNat, evBin, evInt, evStr, evUn, Nat.reduceEqDiff, Nat.reduceLT, evResults, evResultsL, reduceCtorEq, Nat.reduceAdd, Heap.store, Nat.reduceLeDiff, wbool_off, after_scope, e8, e7, e0, e1, hO'.lenAt und22, lt_false hlt]
            refine callStep (lv_ok hF' _ fun G _ => ?_)
            simp (maxSteps := 1000000) only [sx, fx, ux, implies_true, evBuildSlice, fillE, fillA, Nat.reduceMul, Nat.reducePow, Nat.reduceSub, here, plain, laid, Nat.reduceBEq, evOp, avOf, avCell, strOf, UInt8.reduceToNat, evBin, evInt, evStr, evUn, Nat.reduceEqDiff, Nat.reduceLT, evResults, evResultsL, reduceCtorEq, Nat.reduceAdd, Heap.store, Nat.reduceLeDiff, wbool_off, after_scope]
end Go.Proofs.T
