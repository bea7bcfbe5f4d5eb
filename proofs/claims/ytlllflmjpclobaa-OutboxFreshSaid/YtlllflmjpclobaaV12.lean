import Derived.Test.YtlllflmjpclobaaV11
set_option linter.unusedVariables false
set_option linter.unusedSimpArgs false
set_option linter.unusedVariables false
set_option linter.unusedSimpArgs false
set_option maxRecDepth 100000
namespace Go.Proofs.T
open Go.Ev

set_option maxHeartbeats 16000000 in
theorem f53_ok {n : Nat} {H : Heap} {cs : List AV} (h : VR n H cs) (hF : Free H) (K : AV → Heap → Prop) (hK : ∀ b H', Up H H' → Free H' → K (.bool b) H') : WF Try.prog 53 [.agg cs] H K := by
  have hall := h
  cases n with
  | zero => exact h.elim
  | succ n =>
  obtain ⟨k, ix, s, v, w, L, M, rfl, hv, hvn, hvc, hw, hwn, hwc⟩ := h
  refine WF_body Try.func53 (by kernel_rfl) rfl Try.ntmps53 (by rw [Try.results53]) (of_decide_eq_true (by kernel_rfl)) ?_
  simp (maxSteps := 1000000) only [sx, fx, implies_true, evBuildSlice, fillE, fillA, AV.isCell, here, plain, laid, evOp, avOf, avCell, strOf, evBin, evInt, evStr, evUn, evResults, evResultsL, AV.isUndef, AV.cells, Heap.store, wbool_off, after_scope, Nat.reduceMul, Nat.reducePow, Nat.reduceSub, Nat.reduceBEq, UInt8.reduceToNat, Nat.reduceEqDiff, Nat.reduceLT, reduceCtorEq, Nat.reduceAdd, Nat.reduceLeDiff, hF.at, hF.hp]
  generalize hH1 : HP H [Blk.row 26 5 [[.int .i64 k, .int .i64 ix, .str s, v, w]] 0 0] = H1
  have hb0 : H1.blk H.next = some (.row 26 5 [[.int .i64 k, .int .i64 ix, .str s, v, w]] 0 0) := by rw [← hH1, hp_blk0]; rfl
  have hF1 : Free H1 := hH1 ▸ hF.hpF _
  have hU1 : Up H H1 := hH1 ▸ hF.hpU _
  refine callStep (f68_ok (hall.up hU1) hF1 _ fun b H2 _ hU2 hF2 => ?_)
  have hb := hU2 _ _ hb0
  have hU12 := hU1.trans hU2
  cases b
  · simp (maxSteps := 1000000) only [sx, fx, implies_true, evBuildSlice, fillE, fillA, AV.isCell, here, plain, laid, evOp, avOf, avCell, strOf, evBin, evInt, evStr, evUn, evResults, evResultsL, AV.isUndef, AV.cells, Heap.store, wbool_off, after_scope, Nat.reduceMul, Nat.reducePow, Nat.reduceSub, Nat.reduceBEq, UInt8.reduceToNat, Nat.reduceEqDiff, Nat.reduceLT, reduceCtorEq, Nat.reduceAdd, Nat.reduceLeDiff]; exact hK _ _ hU12 hF2
  have lv := (hv.up hU12).lenAt und23
  generalize hx1 : (k != 4) = x1
  generalize hx2 : ((L.length : Int) != 2) = x2
  cases x1 with
  | true => simp (maxSteps := 1000000) only [sx, fx, implies_true, evBuildSlice, fillE, fillA, AV.isCell, here, plain, laid, evOp, avOf, avCell, strOf, evBin, evInt, evStr, evUn, evResults, evResultsL, AV.isUndef, AV.cells, Heap.store, wbool_off, after_scope, Nat.reduceMul, Nat.reducePow, Nat.reduceSub, Nat.reduceBEq, UInt8.reduceToNat, Nat.reduceEqDiff, Nat.reduceLT, reduceCtorEq, Nat.reduceAdd, Nat.reduceLeDiff, hb, hx1]; exact hK _ _ hU12 hF2
  | false =>
  cases x2 with
  | true => simp (maxSteps := 1000000) only [sx, fx, implies_true, evBuildSlice, fillE, fillA, AV.isCell, here, plain, laid, evOp, avOf, avCell, strOf, evBin, evInt, evStr, evUn, evResults, evResultsL, AV.isUndef, AV.cells, Heap.store, wbool_off, after_scope, Nat.reduceMul, Nat.reducePow, Nat.reduceSub, Nat.reduceBEq, UInt8.reduceToNat, Nat.reduceEqDiff, Nat.reduceLT, reduceCtorEq, Nat.reduceAdd, Nat.reduceLeDiff, hb, hx1, lv, hx2]; exact hK _ _ hU12 hF2
  | false =>
  have hl2 : L.length = 2 := by have := hx2; simp at this; omega
  obtain ⟨c1, hc1⟩ : ∃ c, L[1]? = some c := ⟨_, List.getElem?_eq_getElem (by omega)⟩
  have hv1r := hvc c1 (List.mem_of_getElem? hc1)
  cases n with
  | zero => exact hv1r.elim
  | succ n =>
  obtain ⟨k1, ix1, s1, v1, w1, L1, M1, rfl, hv1, hvn1, hvc1, hw1, hwn1, hwc1⟩ := hv1r
  generalize hx3 : (k1 != 4) = x3
  have hvc1 : ∀ c ∈ L1, VRn H c := fun c hc => by
    have := hvc1 c hc
    cases n with
    | zero => exact this.elim
    | succ n => exact ⟨n, this⟩
  rcases elem5 (P := Try.prog) (hv.up hU12) und23 sz26 .i64 hc1 with hp | ⟨b, j, g, ty, els, gen, wgen, hp, hblk, hle, hel⟩
  · have hp : evIndexAddr Try.prog H2 23 v (.int .i64 1) = some (.iptr [.int .i64 k1, .int .i64 ix1, .str s1, v1, w1] 0) := hp
    cases x3 with
    | true => simp (maxSteps := 1000000) only [sx, fx, implies_true, evBuildSlice, fillE, fillA, AV.isCell, here, plain, laid, evOp, avOf, avCell, strOf, evBin, evInt, evStr, evUn, evResults, evResultsL, AV.isUndef, AV.cells, Heap.store, wbool_off, after_scope, Nat.reduceMul, Nat.reducePow, Nat.reduceSub, Nat.reduceBEq, UInt8.reduceToNat, Nat.reduceEqDiff, Nat.reduceLT, reduceCtorEq, Nat.reduceAdd, Nat.reduceLeDiff, hb, hx1, lv, hx2, hp, hx3]; exact hK _ _ hU12 hF2
    | false =>
    simp (maxSteps := 1000000) only [sx, fx, implies_true, evBuildSlice, fillE, fillA, AV.isCell, here, plain, laid, evOp, avOf, avCell, strOf, evBin, evInt, evStr, evUn, evResults, evResultsL, AV.isUndef, AV.cells, Heap.store, wbool_off, after_scope, Nat.reduceMul, Nat.reducePow, Nat.reduceSub, Nat.reduceBEq, UInt8.reduceToNat, Nat.reduceEqDiff, Nat.reduceLT, reduceCtorEq, Nat.reduceAdd, Nat.reduceLeDiff, hb, hx1, lv, hx2, hp, hx3]
    refine loopStep' (fun env H' => Up H2 H' ∧ Free H' ∧ ∃ (i : Nat), i ≤ L1.length ∧ env.at (.tmp 4) = .int .i64 i ∧ env.at (.tmp 3) = v1)
      (fun env H' => match env.at (.tmp 4) with | .int _ i => ((L1.length : Int) - i).toNat | _ => 0) ?_ ?_
    · exact ⟨Up.refl _, hF2, 0, Nat.zero_le _, by simp only [sx, fx, implies_true, evBuildSlice, fillE, fillA, AV.isCell, here, plain, laid, evOp, avOf, avCell, strOf, evBin, evInt, evStr, evUn, evResults, evResultsL, AV.isUndef, AV.cells, Heap.store, wbool_off, after_scope, Nat.reduceMul, Nat.reducePow, Nat.reduceSub, Nat.reduceBEq, UInt8.reduceToNat, Nat.reduceEqDiff, Nat.reduceLT, reduceCtorEq, Nat.reduceAdd, Nat.reduceLeDiff]; rfl, by simp only [sx, fx, implies_true, evBuildSlice, fillE, fillA, AV.isCell, here, plain, laid, evOp, avOf, avCell, strOf, evBin, evInt, evStr, evUn, evResults, evResultsL, AV.isUndef, AV.cells, Heap.store, wbool_off, after_scope, Nat.reduceMul, Nat.reducePow, Nat.reduceSub, Nat.reduceBEq, UInt8.reduceToNat, Nat.reduceEqDiff, Nat.reduceLT, reduceCtorEq, Nat.reduceAdd, Nat.reduceLeDiff]⟩
    · rintro env H' ⟨hU', hF', i, hi, e4, e3⟩
      have hUU := hU12.trans hU'
      have lv1 := (hv1.up hUU).lenAt und23
      by_cases hlt : i < L1.length
      · obtain ⟨c, hc⟩ : ∃ c, L1[i]? = some c := ⟨_, List.getElem?_eq_getElem hlt⟩
        obtain ⟨m2, hv2r⟩ := hvc1 c (List.mem_of_getElem? hc)
        obtain ⟨k2, ix2, s2, v2, w2, L2, M2, rfl, hv2, hvn2, hvc2, hw2, hwn2, hwc2⟩ := hv2r
        have lv2 := (hv2.up hUU).lenAt und23
        generalize hy1 : (k2 != 4) = y1
        generalize hy2 : ((L2.length : Int) != 2) = y2
        rcases elem5 (P := Try.prog) (hv1.up hUU) und23 sz26 .i64 hc with hq | ⟨bq, jq, gq, tyq, elsq, genq, wgenq, hq, hblkq, hleq, helq⟩
        · skip
          cases y1 with
          | true =>
            simp (maxSteps := 1000000) only [sx, fx, icI, icS, icB, icN, icL, implies_true, evBuildSlice, fillE, fillA, here, plain, laid, evOp, avOf, avCell, strOf, evBin, evInt, evStr, evUn, evResults, evResultsL, AV.isUndef, AV.cells, Heap.store, wbool_off, after_scope, Nat.reduceMul, Nat.reducePow, Nat.reduceSub, Nat.reduceBEq, UInt8.reduceToNat, Nat.reduceEqDiff, Nat.reduceLT, reduceCtorEq, Nat.reduceAdd, Nat.reduceLeDiff, e4, e3, lv1, lt_true hlt, hq, hy1]
            exact hK _ _ hUU hF'
          | false =>
          cases y2 with
          | true =>
            simp (maxSteps := 1000000) only [sx, fx, icI, icS, icB, icN, icL, implies_true, evBuildSlice, fillE, fillA, here, plain, laid, evOp, avOf, avCell, strOf, evBin, evInt, evStr, evUn, evResults, evResultsL, AV.isUndef, AV.cells, Heap.store, wbool_off, after_scope, Nat.reduceMul, Nat.reducePow, Nat.reduceSub, Nat.reduceBEq, UInt8.reduceToNat, Nat.reduceEqDiff, Nat.reduceLT, reduceCtorEq, Nat.reduceAdd, Nat.reduceLeDiff, e4, e3, lv1, lt_true hlt, hq, hy1, lv2, hy2]
            exact hK _ _ hUU hF'
          | false =>
          have hl3 : L2.length = 2 := by have := hy2; simp at this; omega
          obtain ⟨c3, hc3⟩ : ∃ c, L2[0]? = some c := ⟨_, List.getElem?_eq_getElem (by omega)⟩
          have hv3r := hvc2 c3 (List.mem_of_getElem? hc3)
          cases m2 with
          | zero => exact hv3r.elim
          | succ m2 =>
          obtain ⟨k3, ix3, s3, v3, w3, L3, M3, rfl, hv3, hvn3, hvc3, hw3, hwn3, hwc3⟩ := hv3r
          generalize hy3 : (k3 != 3) = y3
          rcases elem5 (P := Try.prog) (hv2.up hUU) und23 sz26 .i64 hc3 with hr | ⟨b', j', g', ty', els', gen', wgen', hr, hblk', hle', hel'⟩
          · have hr : evIndexAddr Try.prog _ 23 v2 (.int .i64 0) = some (.iptr [.int .i64 k3, .int .i64 ix3, .str s3, v3, w3] 0) := hr
            cases y3 with
            | true =>
              simp (maxSteps := 1000000) only [sx, fx, icI, icS, icB, icN, icL, implies_true, evBuildSlice, fillE, fillA, here, plain, laid, evOp, avOf, avCell, strOf, evBin, evInt, evStr, evUn, evResults, evResultsL, AV.isUndef, AV.cells, Heap.store, wbool_off, after_scope, Nat.reduceMul, Nat.reducePow, Nat.reduceSub, Nat.reduceBEq, UInt8.reduceToNat, Nat.reduceEqDiff, Nat.reduceLT, reduceCtorEq, Nat.reduceAdd, Nat.reduceLeDiff, e4, e3, lv1, lt_true hlt, hq, hy1, lv2, hy2, hr, hy3]
              exact hK _ _ hUU hF'
            | false =>
            simp (maxSteps := 1000000) only [sx, fx, icI, icS, icB, icN, icL, implies_true, evBuildSlice, fillE, fillA, here, plain, laid, evOp, avOf, avCell, strOf, evBin, evInt, evStr, evUn, evResults, evResultsL, AV.isUndef, AV.cells, Heap.store, wbool_off, after_scope, Nat.reduceMul, Nat.reducePow, Nat.reduceSub, Nat.reduceBEq, UInt8.reduceToNat, Nat.reduceEqDiff, Nat.reduceLT, reduceCtorEq, Nat.reduceAdd, Nat.reduceLeDiff, e4, e3, lv1, lt_true hlt, hq, hy1, lv2, hy2, hr, hy3]
            refine callStep (f51_ok _ _ _ fun b => ?_)
            cases b
            · simp (maxSteps := 1000000) only [sx, fx, implies_true, evBuildSlice, fillE, fillA, AV.isCell, here, plain, laid, evOp, avOf, avCell, strOf, evBin, evInt, evStr, evUn, evResults, evResultsL, AV.isUndef, AV.cells, Heap.store, wbool_off, after_scope, Nat.reduceMul, Nat.reducePow, Nat.reduceSub, Nat.reduceBEq, UInt8.reduceToNat, Nat.reduceEqDiff, Nat.reduceLT, reduceCtorEq, Nat.reduceAdd, Nat.reduceLeDiff]; exact hK _ _ hUU hF'
            · simp (maxSteps := 1000000) only [sx, fx, implies_true, evBuildSlice, fillE, fillA, AV.isCell, here, plain, laid, evOp, avOf, avCell, strOf, evBin, evInt, evStr, evUn, evResults, evResultsL, AV.isUndef, AV.cells, Heap.store, wbool_off, after_scope, Nat.reduceMul, Nat.reducePow, Nat.reduceSub, Nat.reduceBEq, UInt8.reduceToNat, Nat.reduceEqDiff, Nat.reduceLT, reduceCtorEq, Nat.reduceAdd, Nat.reduceLeDiff, e4, e3, wrap_succ (i := i) (by omega)]
              refine ⟨⟨hU', hF', i + 1, hlt, rfl⟩, ?_⟩
              omega
          · have hr : evIndexAddr Try.prog _ 23 v2 (.int .i64 0) = some (.ptr b' j' 0 g') := hr
            cases y3 with
            | true =>
              simp (maxSteps := 1000000) only [sx, fx, icI, icS, icB, icN, icL, implies_true, evBuildSlice, fillE, fillA, here, plain, laid, evOp, avOf, avCell, strOf, evBin, evInt, evStr, evUn, evResults, evResultsL, AV.isUndef, AV.cells, Heap.store, wbool_off, after_scope, Nat.reduceMul, Nat.reducePow, Nat.reduceSub, Nat.reduceBEq, UInt8.reduceToNat, Nat.reduceEqDiff, Nat.reduceLT, reduceCtorEq, Nat.reduceAdd, Nat.reduceLeDiff, e4, e3, lv1, lt_true hlt, hq, hy1, lv2, hy2, hr, hblk', hle', hel', hy3]
              exact hK _ _ hUU hF'
            | false =>
            simp (maxSteps := 1000000) only [sx, fx, icI, icS, icB, icN, icL, implies_true, evBuildSlice, fillE, fillA, here, plain, laid, evOp, avOf, avCell, strOf, evBin, evInt, evStr, evUn, evResults, evResultsL, AV.isUndef, AV.cells, Heap.store, wbool_off, after_scope, Nat.reduceMul, Nat.reducePow, Nat.reduceSub, Nat.reduceBEq, UInt8.reduceToNat, Nat.reduceEqDiff, Nat.reduceLT, reduceCtorEq, Nat.reduceAdd, Nat.reduceLeDiff, e4, e3, lv1, lt_true hlt, hq, hy1, lv2, hy2, hr, hblk', hle', hel', hy3]
            refine callStep (f51_ok _ _ _ fun b => ?_)
            cases b
            · simp (maxSteps := 1000000) only [sx, fx, implies_true, evBuildSlice, fillE, fillA, AV.isCell, here, plain, laid, evOp, avOf, avCell, strOf, evBin, evInt, evStr, evUn, evResults, evResultsL, AV.isUndef, AV.cells, Heap.store, wbool_off, after_scope, Nat.reduceMul, Nat.reducePow, Nat.reduceSub, Nat.reduceBEq, UInt8.reduceToNat, Nat.reduceEqDiff, Nat.reduceLT, reduceCtorEq, Nat.reduceAdd, Nat.reduceLeDiff]; exact hK _ _ hUU hF'
            · simp (maxSteps := 1000000) only [sx, fx, implies_true, evBuildSlice, fillE, fillA, AV.isCell, here, plain, laid, evOp, avOf, avCell, strOf, evBin, evInt, evStr, evUn, evResults, evResultsL, AV.isUndef, AV.cells, Heap.store, wbool_off, after_scope, Nat.reduceMul, Nat.reducePow, Nat.reduceSub, Nat.reduceBEq, UInt8.reduceToNat, Nat.reduceEqDiff, Nat.reduceLT, reduceCtorEq, Nat.reduceAdd, Nat.reduceLeDiff, e4, e3, wrap_succ (i := i) (by omega)]
              refine ⟨⟨hU', hF', i + 1, hlt, rfl⟩, ?_⟩
              omega
        · skip
          cases y1 with
          | true =>
            simp (maxSteps := 1000000) only [sx, fx, icI, icS, icB, icN, icL, implies_true, evBuildSlice, fillE, fillA, here, plain, laid, evOp, avOf, avCell, strOf, evBin, evInt, evStr, evUn, evResults, evResultsL, AV.isUndef, AV.cells, Heap.store, wbool_off, after_scope, Nat.reduceMul, Nat.reducePow, Nat.reduceSub, Nat.reduceBEq, UInt8.reduceToNat, Nat.reduceEqDiff, Nat.reduceLT, reduceCtorEq, Nat.reduceAdd, Nat.reduceLeDiff, e4, e3, lv1, lt_true hlt, hq, hblkq, hleq, helq, hy1]
            exact hK _ _ hUU hF'
          | false =>
          cases y2 with
          | true =>
            simp (maxSteps := 1000000) only [sx, fx, icI, icS, icB, icN, icL, implies_true, evBuildSlice, fillE, fillA, here, plain, laid, evOp, avOf, avCell, strOf, evBin, evInt, evStr, evUn, evResults, evResultsL, AV.isUndef, AV.cells, Heap.store, wbool_off, after_scope, Nat.reduceMul, Nat.reducePow, Nat.reduceSub, Nat.reduceBEq, UInt8.reduceToNat, Nat.reduceEqDiff, Nat.reduceLT, reduceCtorEq, Nat.reduceAdd, Nat.reduceLeDiff, e4, e3, lv1, lt_true hlt, hq, hblkq, hleq, helq, hy1, lv2, hy2]
            exact hK _ _ hUU hF'
          | false =>
          have hl3 : L2.length = 2 := by have := hy2; simp at this; omega
          obtain ⟨c3, hc3⟩ : ∃ c, L2[0]? = some c := ⟨_, List.getElem?_eq_getElem (by omega)⟩
          have hv3r := hvc2 c3 (List.mem_of_getElem? hc3)
          cases m2 with
          | zero => exact hv3r.elim
          | succ m2 =>
          obtain ⟨k3, ix3, s3, v3, w3, L3, M3, rfl, hv3, hvn3, hvc3, hw3, hwn3, hwc3⟩ := hv3r
          generalize hy3 : (k3 != 3) = y3
          rcases elem5 (P := Try.prog) (hv2.up hUU) und23 sz26 .i64 hc3 with hr | ⟨b', j', g', ty', els', gen', wgen', hr, hblk', hle', hel'⟩
          · have hr : evIndexAddr Try.prog _ 23 v2 (.int .i64 0) = some (.iptr [.int .i64 k3, .int .i64 ix3, .str s3, v3, w3] 0) := hr
            cases y3 with
            | true =>
              simp (maxSteps := 1000000) only [sx, fx, icI, icS, icB, icN, icL, implies_true, evBuildSlice, fillE, fillA, here, plain, laid, evOp, avOf, avCell, strOf, evBin, evInt, evStr, evUn, evResults, evResultsL, AV.isUndef, AV.cells, Heap.store, wbool_off, after_scope, Nat.reduceMul, Nat.reducePow, Nat.reduceSub, Nat.reduceBEq, UInt8.reduceToNat, Nat.reduceEqDiff, Nat.reduceLT, reduceCtorEq, Nat.reduceAdd, Nat.reduceLeDiff, e4, e3, lv1, lt_true hlt, hq, hblkq, hleq, helq, hy1, lv2, hy2, hr, hy3]
              exact hK _ _ hUU hF'
            | false =>
            simp (maxSteps := 1000000) only [sx, fx, icI, icS, icB, icN, icL, implies_true, evBuildSlice, fillE, fillA, here, plain, laid, evOp, avOf, avCell, strOf, evBin, evInt, evStr, evUn, evResults, evResultsL, AV.isUndef, AV.cells, Heap.store, wbool_off, after_scope, Nat.reduceMul, Nat.reducePow, Nat.reduceSub, Nat.reduceBEq, UInt8.reduceToNat, Nat.reduceEqDiff, Nat.reduceLT, reduceCtorEq, Nat.reduceAdd, Nat.reduceLeDiff, e4, e3, lv1, lt_true hlt, hq, hblkq, hleq, helq, hy1, lv2, hy2, hr, hy3]
            refine callStep (f51_ok _ _ _ fun b => ?_)
            cases b
            · simp (maxSteps := 1000000) only [sx, fx, implies_true, evBuildSlice, fillE, fillA, AV.isCell, here, plain, laid, evOp, avOf, avCell, strOf, evBin, evInt, evStr, evUn, evResults, evResultsL, AV.isUndef, AV.cells, Heap.store, wbool_off, after_scope, Nat.reduceMul, Nat.reducePow, Nat.reduceSub, Nat.reduceBEq, UInt8.reduceToNat, Nat.reduceEqDiff, Nat.reduceLT, reduceCtorEq, Nat.reduceAdd, Nat.reduceLeDiff]; exact hK _ _ hUU hF'
            · simp (maxSteps := 1000000) only [sx, fx, implies_true, evBuildSlice, fillE, fillA, AV.isCell, here, plain, laid, evOp, avOf, avCell, strOf, evBin, evInt, evStr, evUn, evResults, evResultsL, AV.isUndef, AV.cells, Heap.store, wbool_off, after_scope, Nat.reduceMul, Nat.reducePow, Nat.reduceSub, Nat.reduceBEq, UInt8.reduceToNat, Nat.reduceEqDiff, Nat.reduceLT, reduceCtorEq, Nat.reduceAdd, Nat.reduceLeDiff, e4, e3, wrap_succ (i := i) (by omega)]
              refine ⟨⟨hU', hF', i + 1, hlt, rfl⟩, ?_⟩
              omega
          · have hr : evIndexAddr Try.prog _ 23 v2 (.int .i64 0) = some (.ptr b' j' 0 g') := hr
            cases y3 with
            | true =>
              simp (maxSteps := 1000000) only [sx, fx, icI, icS, icB, icN, icL, implies_true, evBuildSlice, fillE, fillA, here, plain, laid, evOp, avOf, avCell, strOf, evBin, evInt, evStr, evUn, evResults, evResultsL, AV.isUndef, AV.cells, Heap.store, wbool_off, after_scope, Nat.reduceMul, Nat.reducePow, Nat.reduceSub, Nat.reduceBEq, UInt8.reduceToNat, Nat.reduceEqDiff, Nat.reduceLT, reduceCtorEq, Nat.reduceAdd, Nat.reduceLeDiff, e4, e3, lv1, lt_true hlt, hq, hblkq, hleq, helq, hy1, lv2, hy2, hr, hblk', hle', hel', hy3]
              exact hK _ _ hUU hF'
            | false =>
            simp (maxSteps := 1000000) only [sx, fx, icI, icS, icB, icN, icL, implies_true, evBuildSlice, fillE, fillA, here, plain, laid, evOp, avOf, avCell, strOf, evBin, evInt, evStr, evUn, evResults, evResultsL, AV.isUndef, AV.cells, Heap.store, wbool_off, after_scope, Nat.reduceMul, Nat.reducePow, Nat.reduceSub, Nat.reduceBEq, UInt8.reduceToNat, Nat.reduceEqDiff, Nat.reduceLT, reduceCtorEq, Nat.reduceAdd, Nat.reduceLeDiff, e4, e3, lv1, lt_true hlt, hq, hblkq, hleq, helq, hy1, lv2, hy2, hr, hblk', hle', hel', hy3]
            refine callStep (f51_ok _ _ _ fun b => ?_)
            cases b
            · simp (maxSteps := 1000000) only [sx, fx, implies_true, evBuildSlice, fillE, fillA, AV.isCell, here, plain, laid, evOp, avOf, avCell, strOf, evBin, evInt, evStr, evUn, evResults, evResultsL, AV.isUndef, AV.cells, Heap.store, wbool_off, after_scope, Nat.reduceMul, Nat.reducePow, Nat.reduceSub, Nat.reduceBEq, UInt8.reduceToNat, Nat.reduceEqDiff, Nat.reduceLT, reduceCtorEq, Nat.reduceAdd, Nat.reduceLeDiff]; exact hK _ _ hUU hF'
            · simp (maxSteps := 1000000) only [sx, fx, implies_true, evBuildSlice, fillE, fillA, AV.isCell, here, plain, laid, evOp, avOf, avCell, strOf, evBin, evInt, evStr, evUn, evResults, evResultsL, AV.isUndef, AV.cells, Heap.store, wbool_off, after_scope, Nat.reduceMul, Nat.reducePow, Nat.reduceSub, Nat.reduceBEq, UInt8.reduceToNat, Nat.reduceEqDiff, Nat.reduceLT, reduceCtorEq, Nat.reduceAdd, Nat.reduceLeDiff, e4, e3, wrap_succ (i := i) (by omega)]
              refine ⟨⟨hU', hF', i + 1, hlt, rfl⟩, ?_⟩
              omega
      · simp (maxSteps := 1000000) only [sx, fx, icI, icS, icB, icN, icL, implies_true, evBuildSlice, fillE, fillA, here, plain, laid, evOp, avOf, avCell, strOf, evBin, evInt, evStr, evUn, evResults, evResultsL, AV.isUndef, AV.cells, Heap.store, wbool_off, after_scope, Nat.reduceMul, Nat.reducePow, Nat.reduceSub, Nat.reduceBEq, UInt8.reduceToNat, Nat.reduceEqDiff, Nat.reduceLT, reduceCtorEq, Nat.reduceAdd, Nat.reduceLeDiff, e4, e3, lv1, lt_false hlt]
        exact hK _ _ hUU hF'
  · have hp : evIndexAddr Try.prog H2 23 v (.int .i64 1) = some (.ptr b j 0 g) := hp
    cases x3 with
    | true => simp (maxSteps := 1000000) only [sx, fx, implies_true, evBuildSlice, fillE, fillA, AV.isCell, here, plain, laid, evOp, avOf, avCell, strOf, evBin, evInt, evStr, evUn, evResults, evResultsL, AV.isUndef, AV.cells, Heap.store, wbool_off, after_scope, Nat.reduceMul, Nat.reducePow, Nat.reduceSub, Nat.reduceBEq, UInt8.reduceToNat, Nat.reduceEqDiff, Nat.reduceLT, reduceCtorEq, Nat.reduceAdd, Nat.reduceLeDiff, hb, hx1, lv, hx2, hp, hblk, hle, hel, hx3]; exact hK _ _ hU12 hF2
    | false =>
    simp (maxSteps := 1000000) only [sx, fx, implies_true, evBuildSlice, fillE, fillA, AV.isCell, here, plain, laid, evOp, avOf, avCell, strOf, evBin, evInt, evStr, evUn, evResults, evResultsL, AV.isUndef, AV.cells, Heap.store, wbool_off, after_scope, Nat.reduceMul, Nat.reducePow, Nat.reduceSub, Nat.reduceBEq, UInt8.reduceToNat, Nat.reduceEqDiff, Nat.reduceLT, reduceCtorEq, Nat.reduceAdd, Nat.reduceLeDiff, hb, hx1, lv, hx2, hp, hblk, hle, hel, hx3]
    refine loopStep' (fun env H' => Up H2 H' ∧ Free H' ∧ ∃ (i : Nat), i ≤ L1.length ∧ env.at (.tmp 4) = .int .i64 i ∧ env.at (.tmp 3) = v1)
      (fun env H' => match env.at (.tmp 4) with | .int _ i => ((L1.length : Int) - i).toNat | _ => 0) ?_ ?_
    · exact ⟨Up.refl _, hF2, 0, Nat.zero_le _, by simp only [sx, fx, implies_true, evBuildSlice, fillE, fillA, AV.isCell, here, plain, laid, evOp, avOf, avCell, strOf, evBin, evInt, evStr, evUn, evResults, evResultsL, AV.isUndef, AV.cells, Heap.store, wbool_off, after_scope, Nat.reduceMul, Nat.reducePow, Nat.reduceSub, Nat.reduceBEq, UInt8.reduceToNat, Nat.reduceEqDiff, Nat.reduceLT, reduceCtorEq, Nat.reduceAdd, Nat.reduceLeDiff]; rfl, by simp only [sx, fx, implies_true, evBuildSlice, fillE, fillA, AV.isCell, here, plain, laid, evOp, avOf, avCell, strOf, evBin, evInt, evStr, evUn, evResults, evResultsL, AV.isUndef, AV.cells, Heap.store, wbool_off, after_scope, Nat.reduceMul, Nat.reducePow, Nat.reduceSub, Nat.reduceBEq, UInt8.reduceToNat, Nat.reduceEqDiff, Nat.reduceLT, reduceCtorEq, Nat.reduceAdd, Nat.reduceLeDiff]⟩
    · rintro env H' ⟨hU', hF', i, hi, e4, e3⟩
      have hUU := hU12.trans hU'
      have lv1 := (hv1.up hUU).lenAt und23
      by_cases hlt : i < L1.length
      · obtain ⟨c, hc⟩ : ∃ c, L1[i]? = some c := ⟨_, List.getElem?_eq_getElem hlt⟩
        obtain ⟨m2, hv2r⟩ := hvc1 c (List.mem_of_getElem? hc)
        obtain ⟨k2, ix2, s2, v2, w2, L2, M2, rfl, hv2, hvn2, hvc2, hw2, hwn2, hwc2⟩ := hv2r
        have lv2 := (hv2.up hUU).lenAt und23
        generalize hy1 : (k2 != 4) = y1
        generalize hy2 : ((L2.length : Int) != 2) = y2
        rcases elem5 (P := Try.prog) (hv1.up hUU) und23 sz26 .i64 hc with hq | ⟨bq, jq, gq, tyq, elsq, genq, wgenq, hq, hblkq, hleq, helq⟩
        · skip
          cases y1 with
          | true =>
            simp (maxSteps := 1000000) only [sx, fx, icI, icS, icB, icN, icL, implies_true, evBuildSlice, fillE, fillA, here, plain, laid, evOp, avOf, avCell, strOf, evBin, evInt, evStr, evUn, evResults, evResultsL, AV.isUndef, AV.cells, Heap.store, wbool_off, after_scope, Nat.reduceMul, Nat.reducePow, Nat.reduceSub, Nat.reduceBEq, UInt8.reduceToNat, Nat.reduceEqDiff, Nat.reduceLT, reduceCtorEq, Nat.reduceAdd, Nat.reduceLeDiff, e4, e3, lv1, lt_true hlt, hq, hy1]
            exact hK _ _ hUU hF'
          | false =>
          cases y2 with
          | true =>
            simp (maxSteps := 1000000) only [sx, fx, icI, icS, icB, icN, icL, implies_true, evBuildSlice, fillE, fillA, here, plain, laid, evOp, avOf, avCell, strOf, evBin, evInt, evStr, evUn, evResults, evResultsL, AV.isUndef, AV.cells, Heap.store, wbool_off, after_scope, Nat.reduceMul, Nat.reducePow, Nat.reduceSub, Nat.reduceBEq, UInt8.reduceToNat, Nat.reduceEqDiff, Nat.reduceLT, reduceCtorEq, Nat.reduceAdd, Nat.reduceLeDiff, e4, e3, lv1, lt_true hlt, hq, hy1, lv2, hy2]
            exact hK _ _ hUU hF'
          | false =>
          have hl3 : L2.length = 2 := by have := hy2; simp at this; omega
          obtain ⟨c3, hc3⟩ : ∃ c, L2[0]? = some c := ⟨_, List.getElem?_eq_getElem (by omega)⟩
          have hv3r := hvc2 c3 (List.mem_of_getElem? hc3)
          cases m2 with
          | zero => exact hv3r.elim
          | succ m2 =>
          obtain ⟨k3, ix3, s3, v3, w3, L3, M3, rfl, hv3, hvn3, hvc3, hw3, hwn3, hwc3⟩ := hv3r
          generalize hy3 : (k3 != 3) = y3
          rcases elem5 (P := Try.prog) (hv2.up hUU) und23 sz26 .i64 hc3 with hr | ⟨b', j', g', ty', els', gen', wgen', hr, hblk', hle', hel'⟩
          · have hr : evIndexAddr Try.prog _ 23 v2 (.int .i64 0) = some (.iptr [.int .i64 k3, .int .i64 ix3, .str s3, v3, w3] 0) := hr
            cases y3 with
            | true =>
              simp (maxSteps := 1000000) only [sx, fx, icI, icS, icB, icN, icL, implies_true, evBuildSlice, fillE, fillA, here, plain, laid, evOp, avOf, avCell, strOf, evBin, evInt, evStr, evUn, evResults, evResultsL, AV.isUndef, AV.cells, Heap.store, wbool_off, after_scope, Nat.reduceMul, Nat.reducePow, Nat.reduceSub, Nat.reduceBEq, UInt8.reduceToNat, Nat.reduceEqDiff, Nat.reduceLT, reduceCtorEq, Nat.reduceAdd, Nat.reduceLeDiff, e4, e3, lv1, lt_true hlt, hq, hy1, lv2, hy2, hr, hy3]
              exact hK _ _ hUU hF'
            | false =>
            simp (maxSteps := 1000000) only [sx, fx, icI, icS, icB, icN, icL, implies_true, evBuildSlice, fillE, fillA, here, plain, laid, evOp, avOf, avCell, strOf, evBin, evInt, evStr, evUn, evResults, evResultsL, AV.isUndef, AV.cells, Heap.store, wbool_off, after_scope, Nat.reduceMul, Nat.reducePow, Nat.reduceSub, Nat.reduceBEq, UInt8.reduceToNat, Nat.reduceEqDiff, Nat.reduceLT, reduceCtorEq, Nat.reduceAdd, Nat.reduceLeDiff, e4, e3, lv1, lt_true hlt, hq, hy1, lv2, hy2, hr, hy3]
            refine callStep (f51_ok _ _ _ fun b => ?_)
            cases b
            · simp (maxSteps := 1000000) only [sx, fx, implies_true, evBuildSlice, fillE, fillA, AV.isCell, here, plain, laid, evOp, avOf, avCell, strOf, evBin, evInt, evStr, evUn, evResults, evResultsL, AV.isUndef, AV.cells, Heap.store, wbool_off, after_scope, Nat.reduceMul, Nat.reducePow, Nat.reduceSub, Nat.reduceBEq, UInt8.reduceToNat, Nat.reduceEqDiff, Nat.reduceLT, reduceCtorEq, Nat.reduceAdd, Nat.reduceLeDiff]; exact hK _ _ hUU hF'
            · simp (maxSteps := 1000000) only [sx, fx, implies_true, evBuildSlice, fillE, fillA, AV.isCell, here, plain, laid, evOp, avOf, avCell, strOf, evBin, evInt, evStr, evUn, evResults, evResultsL, AV.isUndef, AV.cells, Heap.store, wbool_off, after_scope, Nat.reduceMul, Nat.reducePow, Nat.reduceSub, Nat.reduceBEq, UInt8.reduceToNat, Nat.reduceEqDiff, Nat.reduceLT, reduceCtorEq, Nat.reduceAdd, Nat.reduceLeDiff, e4, e3, wrap_succ (i := i) (by omega)]
              refine ⟨⟨hU', hF', i + 1, hlt, rfl⟩, ?_⟩
              omega
          · have hr : evIndexAddr Try.prog _ 23 v2 (.int .i64 0) = some (.ptr b' j' 0 g') := hr
            cases y3 with
            | true =>
              simp (maxSteps := 1000000) only [sx, fx, icI, icS, icB, icN, icL, implies_true, evBuildSlice, fillE, fillA, here, plain, laid, evOp, avOf, avCell, strOf, evBin, evInt, evStr, evUn, evResults, evResultsL, AV.isUndef, AV.cells, Heap.store, wbool_off, after_scope, Nat.reduceMul, Nat.reducePow, Nat.reduceSub, Nat.reduceBEq, UInt8.reduceToNat, Nat.reduceEqDiff, Nat.reduceLT, reduceCtorEq, Nat.reduceAdd, Nat.reduceLeDiff, e4, e3, lv1, lt_true hlt, hq, hy1, lv2, hy2, hr, hblk', hle', hel', hy3]
              exact hK _ _ hUU hF'
            | false =>
            simp (maxSteps := 1000000) only [sx, fx, icI, icS, icB, icN, icL, implies_true, evBuildSlice, fillE, fillA, here, plain, laid, evOp, avOf, avCell, strOf, evBin, evInt, evStr, evUn, evResults, evResultsL, AV.isUndef, AV.cells, Heap.store, wbool_off, after_scope, Nat.reduceMul, Nat.reducePow, Nat.reduceSub, Nat.reduceBEq, UInt8.reduceToNat, Nat.reduceEqDiff, Nat.reduceLT, reduceCtorEq, Nat.reduceAdd, Nat.reduceLeDiff, e4, e3, lv1, lt_true hlt, hq, hy1, lv2, hy2, hr, hblk', hle', hel', hy3]
            refine callStep (f51_ok _ _ _ fun b => ?_)
            cases b
            · simp (maxSteps := 1000000) only [sx, fx, implies_true, evBuildSlice, fillE, fillA, AV.isCell, here, plain, laid, evOp, avOf, avCell, strOf, evBin, evInt, evStr, evUn, evResults, evResultsL, AV.isUndef, AV.cells, Heap.store, wbool_off, after_scope, Nat.reduceMul, Nat.reducePow, Nat.reduceSub, Nat.reduceBEq, UInt8.reduceToNat, Nat.reduceEqDiff, Nat.reduceLT, reduceCtorEq, Nat.reduceAdd, Nat.reduceLeDiff]; exact hK _ _ hUU hF'
            · simp (maxSteps := 1000000) only [sx, fx, implies_true, evBuildSlice, fillE, fillA, AV.isCell, here, plain, laid, evOp, avOf, avCell, strOf, evBin, evInt, evStr, evUn, evResults, evResultsL, AV.isUndef, AV.cells, Heap.store, wbool_off, after_scope, Nat.reduceMul, Nat.reducePow, Nat.reduceSub, Nat.reduceBEq, UInt8.reduceToNat, Nat.reduceEqDiff, Nat.reduceLT, reduceCtorEq, Nat.reduceAdd, Nat.reduceLeDiff, e4, e3, wrap_succ (i := i) (by omega)]
              refine ⟨⟨hU', hF', i + 1, hlt, rfl⟩, ?_⟩
              omega
        · skip
          cases y1 with
          | true =>
            simp (maxSteps := 1000000) only [sx, fx, icI, icS, icB, icN, icL, implies_true, evBuildSlice, fillE, fillA, here, plain, laid, evOp, avOf, avCell, strOf, evBin, evInt, evStr, evUn, evResults, evResultsL, AV.isUndef, AV.cells, Heap.store, wbool_off, after_scope, Nat.reduceMul, Nat.reducePow, Nat.reduceSub, Nat.reduceBEq, UInt8.reduceToNat, Nat.reduceEqDiff, Nat.reduceLT, reduceCtorEq, Nat.reduceAdd, Nat.reduceLeDiff, e4, e3, lv1, lt_true hlt, hq, hblkq, hleq, helq, hy1]
            exact hK _ _ hUU hF'
          | false =>
          cases y2 with
          | true =>
            simp (maxSteps := 1000000) only [sx, fx, icI, icS, icB, icN, icL, implies_true, evBuildSlice, fillE, fillA, here, plain, laid, evOp, avOf, avCell, strOf, evBin, evInt, evStr, evUn, evResults, evResultsL, AV.isUndef, AV.cells, Heap.store, wbool_off, after_scope, Nat.reduceMul, Nat.reducePow, Nat.reduceSub, Nat.reduceBEq, UInt8.reduceToNat, Nat.reduceEqDiff, Nat.reduceLT, reduceCtorEq, Nat.reduceAdd, Nat.reduceLeDiff, e4, e3, lv1, lt_true hlt, hq, hblkq, hleq, helq, hy1, lv2, hy2]
            exact hK _ _ hUU hF'
          | false =>
          have hl3 : L2.length = 2 := by have := hy2; simp at this; omega
          obtain ⟨c3, hc3⟩ : ∃ c, L2[0]? = some c := ⟨_, List.getElem?_eq_getElem (by omega)⟩
          have hv3r := hvc2 c3 (List.mem_of_getElem? hc3)
          cases m2 with
          | zero => exact hv3r.elim
          | succ m2 =>
          obtain ⟨k3, ix3, s3, v3, w3, L3, M3, rfl, hv3, hvn3, hvc3, hw3, hwn3, hwc3⟩ := hv3r
          generalize hy3 : (k3 != 3) = y3
          rcases elem5 (P := Try.prog) (hv2.up hUU) und23 sz26 .i64 hc3 with hr | ⟨b', j', g', ty', els', gen', wgen', hr, hblk', hle', hel'⟩
          · have hr : evIndexAddr Try.prog _ 23 v2 (.int .i64 0) = some (.iptr [.int .i64 k3, .int .i64 ix3, .str s3, v3, w3] 0) := hr
            cases y3 with
            | true =>
              simp (maxSteps := 1000000) only [sx, fx, icI, icS, icB, icN, icL, implies_true, evBuildSlice, fillE, fillA, here, plain, laid, evOp, avOf, avCell, strOf, evBin, evInt, evStr, evUn, evResults, evResultsL, AV.isUndef, AV.cells, Heap.store, wbool_off, after_scope, Nat.reduceMul, Nat.reducePow, Nat.reduceSub, Nat.reduceBEq, UInt8.reduceToNat, Nat.reduceEqDiff, Nat.reduceLT, reduceCtorEq, Nat.reduceAdd, Nat.reduceLeDiff, e4, e3, lv1, lt_true hlt, hq, hblkq, hleq, helq, hy1, lv2, hy2, hr, hy3]
              exact hK _ _ hUU hF'
            | false =>
            simp (maxSteps := 1000000) only [sx, fx, icI, icS, icB, icN, icL, implies_true, evBuildSlice, fillE, fillA, here, plain, laid, evOp, avOf, avCell, strOf, evBin, evInt, evStr, evUn, evResults, evResultsL, AV.isUndef, AV.cells, Heap.store, wbool_off, after_scope, Nat.reduceMul, Nat.reducePow, Nat.reduceSub, Nat.reduceBEq, UInt8.reduceToNat, Nat.reduceEqDiff, Nat.reduceLT, reduceCtorEq, Nat.reduceAdd, Nat.reduceLeDiff, e4, e3, lv1, lt_true hlt, hq, hblkq, hleq, helq, hy1, lv2, hy2, hr, hy3]
            refine callStep (f51_ok _ _ _ fun b => ?_)
            cases b
            · simp (maxSteps := 1000000) only [sx, fx, implies_true, evBuildSlice, fillE, fillA, AV.isCell, here, plain, laid, evOp, avOf, avCell, strOf, evBin, evInt, evStr, evUn, evResults, evResultsL, AV.isUndef, AV.cells, Heap.store, wbool_off, after_scope, Nat.reduceMul, Nat.reducePow, Nat.reduceSub, Nat.reduceBEq, UInt8.reduceToNat, Nat.reduceEqDiff, Nat.reduceLT, reduceCtorEq, Nat.reduceAdd, Nat.reduceLeDiff]; exact hK _ _ hUU hF'
            · simp (maxSteps := 1000000) only [sx, fx, implies_true, evBuildSlice, fillE, fillA, AV.isCell, here, plain, laid, evOp, avOf, avCell, strOf, evBin, evInt, evStr, evUn, evResults, evResultsL, AV.isUndef, AV.cells, Heap.store, wbool_off, after_scope, Nat.reduceMul, Nat.reducePow, Nat.reduceSub, Nat.reduceBEq, UInt8.reduceToNat, Nat.reduceEqDiff, Nat.reduceLT, reduceCtorEq, Nat.reduceAdd, Nat.reduceLeDiff, e4, e3, wrap_succ (i := i) (by omega)]
              refine ⟨⟨hU', hF', i + 1, hlt, rfl⟩, ?_⟩
              omega
          · have hr : evIndexAddr Try.prog _ 23 v2 (.int .i64 0) = some (.ptr b' j' 0 g') := hr
            cases y3 with
            | true =>
              simp (maxSteps := 1000000) only [sx, fx, icI, icS, icB, icN, icL, implies_true, evBuildSlice, fillE, fillA, here, plain, laid, evOp, avOf, avCell, strOf, evBin, evInt, evStr, evUn, evResults, evResultsL, AV.isUndef, AV.cells, Heap.store, wbool_off, after_scope, Nat.reduceMul, Nat.reducePow, Nat.reduceSub, Nat.reduceBEq, UInt8.reduceToNat, Nat.reduceEqDiff, Nat.reduceLT, reduceCtorEq, Nat.reduceAdd, Nat.reduceLeDiff, e4, e3, lv1, lt_true hlt, hq, hblkq, hleq, helq, hy1, lv2, hy2, hr, hblk', hle', hel', hy3]
              exact hK _ _ hUU hF'
            | false =>
            simp (maxSteps := 1000000) only [sx, fx, icI, icS, icB, icN, icL, implies_true, evBuildSlice, fillE, fillA, here, plain, laid, evOp, avOf, avCell, strOf, evBin, evInt, evStr, evUn, evResults, evResultsL, AV.isUndef, AV.cells, Heap.store, wbool_off, after_scope, Nat.reduceMul, Nat.reducePow, Nat.reduceSub, Nat.reduceBEq, UInt8.reduceToNat, Nat.reduceEqDiff, Nat.reduceLT, reduceCtorEq, Nat.reduceAdd, Nat.reduceLeDiff, e4, e3, lv1, lt_true hlt, hq, hblkq, hleq, helq, hy1, lv2, hy2, hr, hblk', hle', hel', hy3]
            refine callStep (f51_ok _ _ _ fun b => ?_)
            cases b
            · simp (maxSteps := 1000000) only [sx, fx, implies_true, evBuildSlice, fillE, fillA, AV.isCell, here, plain, laid, evOp, avOf, avCell, strOf, evBin, evInt, evStr, evUn, evResults, evResultsL, AV.isUndef, AV.cells, Heap.store, wbool_off, after_scope, Nat.reduceMul, Nat.reducePow, Nat.reduceSub, Nat.reduceBEq, UInt8.reduceToNat, Nat.reduceEqDiff, Nat.reduceLT, reduceCtorEq, Nat.reduceAdd, Nat.reduceLeDiff]; exact hK _ _ hUU hF'
            · simp (maxSteps := 1000000) only [sx, fx, implies_true, evBuildSlice, fillE, fillA, AV.isCell, here, plain, laid, evOp, avOf, avCell, strOf, evBin, evInt, evStr, evUn, evResults, evResultsL, AV.isUndef, AV.cells, Heap.store, wbool_off, after_scope, Nat.reduceMul, Nat.reducePow, Nat.reduceSub, Nat.reduceBEq, UInt8.reduceToNat, Nat.reduceEqDiff, Nat.reduceLT, reduceCtorEq, Nat.reduceAdd, Nat.reduceLeDiff, e4, e3, wrap_succ (i := i) (by omega)]
              refine ⟨⟨hU', hF', i + 1, hlt, rfl⟩, ?_⟩
              omega
      · simp (maxSteps := 1000000) only [sx, fx, icI, icS, icB, icN, icL, implies_true, evBuildSlice, fillE, fillA, here, plain, laid, evOp, avOf, avCell, strOf, evBin, evInt, evStr, evUn, evResults, evResultsL, AV.isUndef, AV.cells, Heap.store, wbool_off, after_scope, Nat.reduceMul, Nat.reducePow, Nat.reduceSub, Nat.reduceBEq, UInt8.reduceToNat, Nat.reduceEqDiff, Nat.reduceLT, reduceCtorEq, Nat.reduceAdd, Nat.reduceLeDiff, e4, e3, lv1, lt_false hlt]
        exact hK _ _ hUU hF'
end Go.Proofs.T
