import Derived.Test.YtjjmdbhgmecpjaaGreatDoorRTy
set_option linter.unusedVariables false
set_option linter.unusedSimpArgs false
set_option maxRecDepth 100000
namespace Go.Proofs.T
open Go.Ev
theorem ln9 (G : Heap) (s : List Nat) : evBuiltin Tryz.prog G .len #[9] [.str s] = some (.int .i64 s.length, G) := len_str und9 G s
/-- A value's cells, of some depth. -/
def ValOk : Nat → List AV → Prop
  | 0, _ => False
  | n + 1, cs => cs.length = 5 ∧ cs.all AV.isCell = true ∧ (∃ s, (cs.drop 2).take 1 = [.str s]) ∧
    (∃ v L, (cs.drop 3).take 1 = [v] ∧ (∀ H, Holds H 5 v L) ∧ L.length < 2 ^ 60 ∧ ∀ c ∈ L, ValOk n c) ∧
    (∃ v L, (cs.drop 4).take 1 = [v] ∧ (∀ H, Holds H 1 v L) ∧ L.length < 2 ^ 60 ∧ ∀ c ∈ L, ∃ s, c = [.str s])

theorem f22_ok : ∀ (n : Nat) (cs : List AV), ValOk n cs → ∀ (m : Int) (H : Heap) (hF : Free H) (K : AV → Heap → Prop) (hK : ∀ x H', Up H H' → Free H' → K (.int .i64 x) H'), WF Tryz.prog 22 [.agg cs, .int .i64 m] H K := by
  intro n
  induction n with
  | zero => intro cs h; exact h.elim
  | succ n ih =>
    intro cs h m H hF K hK
    obtain ⟨hl, hcell, ⟨s, h2⟩, ⟨v, L, h3, hv, hvn, hvc⟩, ⟨w, M, h4, hw, hwn, hwc⟩⟩ := h
    refine WF_body Tryz.func22 (by kernel_rfl) rfl Tryz.ntmps22 (by rw [Tryz.results22]) (of_decide_eq_true (by kernel_rfl)) ?_
    simp (maxSteps := 1000000) only [sx, fx, implies_true, evBuildSlice, fillE, fillA, Nat.reduceMul, Nat.reducePow, AV.isCell, Nat.reduceSub, here, plain, laid, Nat.reduceBEq, evOp, avOf, avCell, strOf, UInt8.reduceToNat, evBin, evInt, evStr, evUn, Nat.reduceEqDiff, Nat.reduceLT, evResults, evResultsL, reduceCtorEq, AV.isUndef, AV.cells, Nat.reduceAdd, Heap.store, Nat.reduceLeDiff, wbool_off, after_scope, hF.at, hF.hp, hl, h2, ln9]
    generalize hH1 : HP H [Blk.row 42 5 [cs] 0 0] = H1
    have hb : H1.blk H.next = some (.row 42 5 [cs] 0 0) := by rw [← hH1, hp_blk0]; rfl
    have hF1 : Free H1 := hH1 ▸ hF.hpF _
    have hU1 : Up H H1 := hH1 ▸ hF.hpU _
    refine loopStep' (fun env H' => H' = H1 ∧ ∃ (i : Nat) (m' : Int), i ≤ M.length ∧ env.at (.tmp 5) = .int .i64 i ∧ env.at (.tmp 1) = .int .i64 m' ∧ env.at (.tmp 2) = .ptr H.next 0 0 0)
      (fun env H' => match env.at (.tmp 5) with | .int _ i => ((M.length : Int) - i).toNat | _ => 0) ?_ ?_
    · refine ⟨rfl, 0, IntKind.i64.wrap (IntKind.i64.wrap (m - 1) - (s.length : Int)), Nat.zero_le _, ?_, ?_, ?_⟩
      · simp only [sx, fx, implies_true, evBuildSlice, fillE, fillA, Nat.reduceMul, Nat.reducePow, AV.isCell, Nat.reduceSub, here, plain, laid, Nat.reduceBEq, evOp, avOf, avCell, strOf, UInt8.reduceToNat, evBin, evInt, evStr, evUn, Nat.reduceEqDiff, Nat.reduceLT, evResults, evResultsL, reduceCtorEq, AV.isUndef, AV.cells, Nat.reduceAdd, Heap.store, Nat.reduceLeDiff, wbool_off, after_scope]; rfl
      · simp only [sx, fx, implies_true, evBuildSlice, fillE, fillA, Nat.reduceMul, Nat.reducePow, AV.isCell, Nat.reduceSub, here, plain, laid, Nat.reduceBEq, evOp, avOf, avCell, strOf, UInt8.reduceToNat, evBin, evInt, evStr, evUn, Nat.reduceEqDiff, Nat.reduceLT, evResults, evResultsL, reduceCtorEq, AV.isUndef, AV.cells, Nat.reduceAdd, Heap.store, Nat.reduceLeDiff, wbool_off, after_scope]
      · simp only [sx, fx, implies_true, evBuildSlice, fillE, fillA, Nat.reduceMul, Nat.reducePow, AV.isCell, Nat.reduceSub, here, plain, laid, Nat.reduceBEq, evOp, avOf, avCell, strOf, UInt8.reduceToNat, evBin, evInt, evStr, evUn, Nat.reduceEqDiff, Nat.reduceLT, evResults, evResultsL, reduceCtorEq, AV.isUndef, AV.cells, Nat.reduceAdd, Heap.store, Nat.reduceLeDiff, wbool_off, after_scope]
    · rintro env H' ⟨rfl, i, m', hi, e5, e1, e2⟩
      by_cases hlt : i < M.length
      · obtain ⟨c, hc⟩ : ∃ c, M[i]? = some c := ⟨_, List.getElem?_eq_getElem hlt⟩
        obtain ⟨s', rfl⟩ := hwc c (List.mem_of_getElem? hc)
        obtain ⟨p, hp, hload, _⟩ := (hw H').index und40 sz9 .i64 hc
        by_cases hm : m' ≥ 0
        · simp (maxSteps := 1000000) only [sx, fx, implies_true, evBuildSlice, fillE, fillA, Nat.reduceMul, Nat.reducePow, AV.isCell, Nat.reduceSub, here, plain, laid, Nat.reduceBEq, evOp, avOf, avCell, strOf, UInt8.reduceToNat, evBin, evInt, evStr, evUn, Nat.reduceEqDiff, Nat.reduceLT, evResults, evResultsL, reduceCtorEq, AV.isUndef, AV.cells, Nat.reduceAdd, Heap.store, Nat.reduceLeDiff, wbool_off, after_scope, e5, e1, e2, hb, h4, (hw H').lenAt und40, lt_true hlt, hm, hp, hload H' (Up.refl _), ln9, wrap_succ (i := i) (by omega)]
          refine ⟨⟨i + 1, _, hlt, rfl, rfl⟩, ?_⟩
          omega
        · simp (maxSteps := 1000000) only [sx, fx, implies_true, evBuildSlice, fillE, fillA, Nat.reduceMul, Nat.reducePow, AV.isCell, Nat.reduceSub, here, plain, laid, Nat.reduceBEq, evOp, avOf, avCell, strOf, UInt8.reduceToNat, evBin, evInt, evStr, evUn, Nat.reduceEqDiff, Nat.reduceLT, evResults, evResultsL, reduceCtorEq, AV.isUndef, AV.cells, Nat.reduceAdd, Heap.store, Nat.reduceLeDiff, wbool_off, after_scope, e5, e1, e2, hb, h4, (hw H').lenAt und40, lt_true hlt, hm]
          refine loopStep' (fun env3 H3 => Up H' H3 ∧ Free H3 ∧ ∃ (i : Nat) (m' : Int), i ≤ L.length ∧ env3.at (.tmp 6) = .int .i64 i ∧ env3.at (.tmp 1) = .int .i64 m' ∧ env3.at (.tmp 2) = .ptr H.next 0 0 0)
            (fun env3 H3 => match env3.at (.tmp 6) with | .int _ i => ((L.length : Int) - i).toNat | _ => 0) ?_ ?_
          · exact ⟨Up.refl _, hF1, 0, m', Nat.zero_le _, by simp only [sx, fx, implies_true, evBuildSlice, fillE, fillA, Nat.reduceMul, Nat.reducePow, AV.isCell, Nat.reduceSub, here, plain, laid, Nat.reduceBEq, evOp, avOf, avCell, strOf, UInt8.reduceToNat, evBin, evInt, evStr, evUn, Nat.reduceEqDiff, Nat.reduceLT, evResults, evResultsL, reduceCtorEq, AV.isUndef, AV.cells, Nat.reduceAdd, Heap.store, Nat.reduceLeDiff, wbool_off, after_scope]; rfl, by simp only [sx, fx, implies_true, evBuildSlice, fillE, fillA, Nat.reduceMul, Nat.reducePow, AV.isCell, Nat.reduceSub, here, plain, laid, Nat.reduceBEq, evOp, avOf, avCell, strOf, UInt8.reduceToNat, evBin, evInt, evStr, evUn, Nat.reduceEqDiff, Nat.reduceLT, evResults, evResultsL, reduceCtorEq, AV.isUndef, AV.cells, Nat.reduceAdd, Heap.store, Nat.reduceLeDiff, wbool_off, after_scope, e1], by simp only [sx, fx, implies_true, evBuildSlice, fillE, fillA, Nat.reduceMul, Nat.reducePow, AV.isCell, Nat.reduceSub, here, plain, laid, Nat.reduceBEq, evOp, avOf, avCell, strOf, UInt8.reduceToNat, evBin, evInt, evStr, evUn, Nat.reduceEqDiff, Nat.reduceLT, evResults, evResultsL, reduceCtorEq, AV.isUndef, AV.cells, Nat.reduceAdd, Heap.store, Nat.reduceLeDiff, wbool_off, after_scope, e2]⟩
          · rintro env3 H3 ⟨hU3, hF3, i3, m3, hi3, d6, d1, d2⟩
            have hb3 := hU3 _ _ hb
            by_cases hlt3 : i3 < L.length
            · obtain ⟨c, hc⟩ : ∃ c, L[i3]? = some c := ⟨_, List.getElem?_eq_getElem hlt3⟩
              have hcl := (hv H3).1 c (List.mem_of_getElem? hc)
              obtain ⟨p, hp, hload, _⟩ := (hv H3).index und26 sz42 .i64 hc
              by_cases hm3 : m3 ≥ 0
              · simp (maxSteps := 1000000) only [sx, fx, implies_true, evBuildSlice, fillE, fillA, Nat.reduceMul, Nat.reducePow, AV.isCell, Nat.reduceSub, here, plain, laid, Nat.reduceBEq, evOp, avOf, avCell, strOf, UInt8.reduceToNat, evBin, evInt, evStr, evUn, Nat.reduceEqDiff, Nat.reduceLT, evResults, evResultsL, reduceCtorEq, AV.isUndef, AV.cells, Nat.reduceAdd, Heap.store, Nat.reduceLeDiff, wbool_off, after_scope, d6, d1, d2, hb3, h3, (hv H3).lenAt und26, lt_true hlt3, hm3, hp, hload H3 (Up.refl _), hcl]
                refine callStep (ih c (hvc c (List.mem_of_getElem? hc)) m3 H3 hF3 _ fun x H4 hU4 hF4 => ?_)
                simp (maxSteps := 1000000) only [sx, fx, implies_true, evBuildSlice, fillE, fillA, Nat.reduceMul, Nat.reducePow, AV.isCell, Nat.reduceSub, here, plain, laid, Nat.reduceBEq, evOp, avOf, avCell, strOf, UInt8.reduceToNat, evBin, evInt, evStr, evUn, Nat.reduceEqDiff, Nat.reduceLT, evResults, evResultsL, reduceCtorEq, AV.isUndef, AV.cells, Nat.reduceAdd, Heap.store, Nat.reduceLeDiff, wbool_off, after_scope, d6, d1, d2, wrap_succ (i := i3) (by omega)]
                refine ⟨⟨hU3.trans hU4, hF4, i3 + 1, _, hlt3, rfl, rfl⟩, ?_⟩
                omega
              · simp (maxSteps := 1000000) only [sx, fx, implies_true, evBuildSlice, fillE, fillA, Nat.reduceMul, Nat.reducePow, AV.isCell, Nat.reduceSub, here, plain, laid, Nat.reduceBEq, evOp, avOf, avCell, strOf, UInt8.reduceToNat, evBin, evInt, evStr, evUn, Nat.reduceEqDiff, Nat.reduceLT, evResults, evResultsL, reduceCtorEq, AV.isUndef, AV.cells, Nat.reduceAdd, Heap.store, Nat.reduceLeDiff, wbool_off, after_scope, d6, d1, d2, hb3, h3, (hv H3).lenAt und26, lt_true hlt3, hm3]
                exact hK _ _ (hU1.trans hU3) hF3
            · simp (maxSteps := 1000000) only [sx, fx, implies_true, evBuildSlice, fillE, fillA, Nat.reduceMul, Nat.reducePow, AV.isCell, Nat.reduceSub, here, plain, laid, Nat.reduceBEq, evOp, avOf, avCell, strOf, UInt8.reduceToNat, evBin, evInt, evStr, evUn, Nat.reduceEqDiff, Nat.reduceLT, evResults, evResultsL, reduceCtorEq, AV.isUndef, AV.cells, Nat.reduceAdd, Heap.store, Nat.reduceLeDiff, wbool_off, after_scope, d6, d1, d2, hb3, h3, (hv H3).lenAt und26, lt_false hlt3]
              exact hK _ _ (hU1.trans hU3) hF3
      · simp (maxSteps := 1000000) only [sx, fx, implies_true, evBuildSlice, fillE, fillA, Nat.reduceMul, Nat.reducePow, AV.isCell, Nat.reduceSub, here, plain, laid, Nat.reduceBEq, evOp, avOf, avCell, strOf, UInt8.reduceToNat, evBin, evInt, evStr, evUn, Nat.reduceEqDiff, Nat.reduceLT, evResults, evResultsL, reduceCtorEq, AV.isUndef, AV.cells, Nat.reduceAdd, Heap.store, Nat.reduceLeDiff, wbool_off, after_scope, e5, e1, e2, hb, h4, (hw H').lenAt und40, lt_false hlt]
        refine loopStep' (fun env3 H3 => Up H' H3 ∧ Free H3 ∧ ∃ (i : Nat) (m' : Int), i ≤ L.length ∧ env3.at (.tmp 6) = .int .i64 i ∧ env3.at (.tmp 1) = .int .i64 m' ∧ env3.at (.tmp 2) = .ptr H.next 0 0 0)
          (fun env3 H3 => match env3.at (.tmp 6) with | .int _ i => ((L.length : Int) - i).toNat | _ => 0) ?_ ?_
        · exact ⟨Up.refl _, hF1, 0, m', Nat.zero_le _, by simp only [sx, fx, implies_true, evBuildSlice, fillE, fillA, Nat.reduceMul, Nat.reducePow, AV.isCell, Nat.reduceSub, here, plain, laid, Nat.reduceBEq, evOp, avOf, avCell, strOf, UInt8.reduceToNat, evBin, evInt, evStr, evUn, Nat.reduceEqDiff, Nat.reduceLT, evResults, evResultsL, reduceCtorEq, AV.isUndef, AV.cells, Nat.reduceAdd, Heap.store, Nat.reduceLeDiff, wbool_off, after_scope]; rfl, by simp only [sx, fx, implies_true, evBuildSlice, fillE, fillA, Nat.reduceMul, Nat.reducePow, AV.isCell, Nat.reduceSub, here, plain, laid, Nat.reduceBEq, evOp, avOf, avCell, strOf, UInt8.reduceToNat, evBin, evInt, evStr, evUn, Nat.reduceEqDiff, Nat.reduceLT, evResults, evResultsL, reduceCtorEq, AV.isUndef, AV.cells, Nat.reduceAdd, Heap.store, Nat.reduceLeDiff, wbool_off, after_scope, e1], by simp only [sx, fx, implies_true, evBuildSlice, fillE, fillA, Nat.reduceMul, Nat.reducePow, AV.isCell, Nat.reduceSub, here, plain, laid, Nat.reduceBEq, evOp, avOf, avCell, strOf, UInt8.reduceToNat, evBin, evInt, evStr, evUn, Nat.reduceEqDiff, Nat.reduceLT, evResults, evResultsL, reduceCtorEq, AV.isUndef, AV.cells, Nat.reduceAdd, Heap.store, Nat.reduceLeDiff, wbool_off, after_scope, e2]⟩
        · rintro env3 H3 ⟨hU3, hF3, i3, m3, hi3, d6, d1, d2⟩
          have hb3 := hU3 _ _ hb
          by_cases hlt3 : i3 < L.length
          · obtain ⟨c, hc⟩ : ∃ c, L[i3]? = some c := ⟨_, List.getElem?_eq_getElem hlt3⟩
            have hcl := (hv H3).1 c (List.mem_of_getElem? hc)
            obtain ⟨p, hp, hload, _⟩ := (hv H3).index und26 sz42 .i64 hc
            by_cases hm3 : m3 ≥ 0
            · simp (maxSteps := 1000000) only [sx, fx, implies_true, evBuildSlice, fillE, fillA, Nat.reduceMul, Nat.reducePow, AV.isCell, Nat.reduceSub, here, plain, laid, Nat.reduceBEq, evOp, avOf, avCell, strOf, UInt8.reduceToNat, evBin, evInt, evStr, evUn, Nat.reduceEqDiff, Nat.reduceLT, evResults, evResultsL, reduceCtorEq, AV.isUndef, AV.cells, Nat.reduceAdd, Heap.store, Nat.reduceLeDiff, wbool_off, after_scope, d6, d1, d2, hb3, h3, (hv H3).lenAt und26, lt_true hlt3, hm3, hp, hload H3 (Up.refl _), hcl]
              refine callStep (ih c (hvc c (List.mem_of_getElem? hc)) m3 H3 hF3 _ fun x H4 hU4 hF4 => ?_)
              simp (maxSteps := 1000000) only [sx, fx, implies_true, evBuildSlice, fillE, fillA, Nat.reduceMul, Nat.reducePow, AV.isCell, Nat.reduceSub, here, plain, laid, Nat.reduceBEq, evOp, avOf, avCell, strOf, UInt8.reduceToNat, evBin, evInt, evStr, evUn, Nat.reduceEqDiff, Nat.reduceLT, evResults, evResultsL, reduceCtorEq, AV.isUndef, AV.cells, Nat.reduceAdd, Heap.store, Nat.reduceLeDiff, wbool_off, after_scope, d6, d1, d2, wrap_succ (i := i3) (by omega)]
              refine ⟨⟨hU3.trans hU4, hF4, i3 + 1, _, hlt3, rfl, rfl⟩, ?_⟩
              omega
            · simp (maxSteps := 1000000) only [sx, fx, implies_true, evBuildSlice, fillE, fillA, Nat.reduceMul, Nat.reducePow, AV.isCell, Nat.reduceSub, here, plain, laid, Nat.reduceBEq, evOp, avOf, avCell, strOf, UInt8.reduceToNat, evBin, evInt, evStr, evUn, Nat.reduceEqDiff, Nat.reduceLT, evResults, evResultsL, reduceCtorEq, AV.isUndef, AV.cells, Nat.reduceAdd, Heap.store, Nat.reduceLeDiff, wbool_off, after_scope, d6, d1, d2, hb3, h3, (hv H3).lenAt und26, lt_true hlt3, hm3]
              exact hK _ _ (hU1.trans hU3) hF3
          · simp (maxSteps := 1000000) only [sx, fx, implies_true, evBuildSlice, fillE, fillA, Nat.reduceMul, Nat.reducePow, AV.isCell, Nat.reduceSub, here, plain, laid, Nat.reduceBEq, evOp, avOf, avCell, strOf, UInt8.reduceToNat, evBin, evInt, evStr, evUn, Nat.reduceEqDiff, Nat.reduceLT, evResults, evResultsL, reduceCtorEq, AV.isUndef, AV.cells, Nat.reduceAdd, Heap.store, Nat.reduceLeDiff, wbool_off, after_scope, d6, d1, d2, hb3, h3, (hv H3).lenAt und26, lt_false hlt3]
            exact hK _ _ (hU1.trans hU3) hF3

/-- An event's cells, as Small looks at them. -/
structure EvS (cs : List AV) : Prop where
  len : cs.length = 24
  c7 : ∃ s, (cs.drop 7).take 1 = [.str s]
  c8 : ∃ s, (cs.drop 8).take 1 = [.str s]
  c9 : ∃ n, ValOk n ((cs.drop 9).take 5)
  c14 : ∃ s, (cs.drop 14).take 1 = [.str s]
  c23 : ∃ v M, (cs.drop 23).take 1 = [v] ∧ (∀ H, Holds H 1 v M) ∧ M.length < 2 ^ 60 ∧ ∀ c ∈ M, ∃ s, c = [.str s]

theorem f10_ok {cs : List AV} (h : EvS cs) (H : Heap) (hF : Free H) (K : AV → Heap → Prop) (hK : ∀ b H', Up H H' → Free H' → K (.bool b) H') : WF Tryz.prog 10 [.agg cs] H K := by
  obtain ⟨hl, ⟨s7, h7⟩, ⟨s8, h8⟩, ⟨n9, h9⟩, ⟨s14, h14⟩, ⟨w, M, h23, hw, hwn, hwc⟩⟩ := h
  refine WF_body Tryz.func10 (by kernel_rfl) rfl Tryz.ntmps10 (by rw [Tryz.results10]) (of_decide_eq_true (by kernel_rfl)) ?_
  simp (maxSteps := 1000000) only [sx, fx, implies_true, evBuildSlice, fillE, fillA, Nat.reduceMul, Nat.reducePow, AV.isCell, Nat.reduceSub, here, plain, laid, Nat.reduceBEq, evOp, avOf, avCell, strOf, UInt8.reduceToNat, evBin, evInt, evStr, evUn, Nat.reduceEqDiff, Nat.reduceLT, evResults, evResultsL, reduceCtorEq, AV.isUndef, AV.cells, Nat.reduceAdd, Heap.store, Nat.reduceLeDiff, wbool_off, after_scope, hF.at, hF.hp, hl]
  generalize hH1 : HP H [Blk.row 46 24 [cs] 0 0] = H1
  have hb : H1.blk H.next = some (.row 46 24 [cs] 0 0) := by rw [← hH1, hp_blk0]; rfl
  have hF1 : Free H1 := hH1 ▸ hF.hpF _
  have hU1 : Up H H1 := hH1 ▸ hF.hpU _
  refine drawStep [2] [0, 1, 3, 4, 5, 7, 8, 9, 11, 12, 13, 14, 2, 6, 10, 15, 16] _ rfl (by kernel_rfl) ?_
  simp (maxSteps := 1000000) only [sx, fx, implies_true, evBuildSlice, fillE, fillA, Nat.reduceMul, Nat.reducePow, AV.isCell, Nat.reduceSub, here, plain, laid, Nat.reduceBEq, evOp, avOf, avCell, strOf, UInt8.reduceToNat, evBin, evInt, evStr, evUn, Nat.reduceEqDiff, Nat.reduceLT, evResults, evResultsL, reduceCtorEq, AV.isUndef, AV.cells, Nat.reduceAdd, Heap.store, Nat.reduceLeDiff, wbool_off, after_scope, hb, h7, h8, h14, ln9, Nat.reduceBEq]
  refine callStep_flag (f22_ok n9 _ h9 _ H1 hF1 _ fun x H2 hU2 hF2 => ⟨hU2, ?_⟩)
  have hb2 := hU2 _ _ hb
  simp (maxSteps := 1000000) only [sx, fx, implies_true, evBuildSlice, fillE, fillA, Nat.reduceMul, Nat.reducePow, AV.isCell, Nat.reduceSub, here, plain, laid, Nat.reduceBEq, evOp, avOf, avCell, strOf, UInt8.reduceToNat, evBin, evInt, evStr, evUn, Nat.reduceEqDiff, Nat.reduceLT, evResults, evResultsL, reduceCtorEq, AV.isUndef, AV.cells, Nat.reduceAdd, Heap.store, Nat.reduceLeDiff, wbool_off, after_scope]
  refine loopStep' (fun env H' => H' = H2 ∧ ∃ (i : Nat) (m' : Int), i ≤ M.length ∧ env.at (.tmp 4) = .int .i64 i ∧ env.at (.tmp 3) = .int .i64 m' ∧ env.at (.tmp 1) = .ptr H.next 0 0 0)
    (fun env H' => match env.at (.tmp 4) with | .int _ i => ((M.length : Int) - i).toNat | _ => 0) ?_ ?_
  · refine ⟨rfl, 0, IntKind.i64.wrap (IntKind.i64.wrap (IntKind.i64.wrap (x - (s7.length : Int)) - (s8.length : Int)) - (s14.length : Int)), Nat.zero_le _, ?_, ?_, ?_⟩
    · simp only [sx, fx, implies_true, evBuildSlice, fillE, fillA, Nat.reduceMul, Nat.reducePow, AV.isCell, Nat.reduceSub, here, plain, laid, Nat.reduceBEq, evOp, avOf, avCell, strOf, UInt8.reduceToNat, evBin, evInt, evStr, evUn, Nat.reduceEqDiff, Nat.reduceLT, evResults, evResultsL, reduceCtorEq, AV.isUndef, AV.cells, Nat.reduceAdd, Heap.store, Nat.reduceLeDiff, wbool_off, after_scope]; rfl
    · simp only [sx, fx, implies_true, evBuildSlice, fillE, fillA, Nat.reduceMul, Nat.reducePow, AV.isCell, Nat.reduceSub, here, plain, laid, Nat.reduceBEq, evOp, avOf, avCell, strOf, UInt8.reduceToNat, evBin, evInt, evStr, evUn, Nat.reduceEqDiff, Nat.reduceLT, evResults, evResultsL, reduceCtorEq, AV.isUndef, AV.cells, Nat.reduceAdd, Heap.store, Nat.reduceLeDiff, wbool_off, after_scope]
    · simp only [sx, fx, implies_true, evBuildSlice, fillE, fillA, Nat.reduceMul, Nat.reducePow, AV.isCell, Nat.reduceSub, here, plain, laid, Nat.reduceBEq, evOp, avOf, avCell, strOf, UInt8.reduceToNat, evBin, evInt, evStr, evUn, Nat.reduceEqDiff, Nat.reduceLT, evResults, evResultsL, reduceCtorEq, AV.isUndef, AV.cells, Nat.reduceAdd, Heap.store, Nat.reduceLeDiff, wbool_off, after_scope]
  · rintro env H' ⟨rfl, i, m', hi, e4, e3, e1⟩
    by_cases hlt : i < M.length
    · obtain ⟨c, hc⟩ : ∃ c, M[i]? = some c := ⟨_, List.getElem?_eq_getElem hlt⟩
      obtain ⟨s', rfl⟩ := hwc c (List.mem_of_getElem? hc)
      obtain ⟨p, hp, hload, _⟩ := (hw H').index und40 sz9 .i64 hc
      by_cases hm : m' ≥ 0
      · simp (maxSteps := 1000000) only [sx, fx, implies_true, evBuildSlice, fillE, fillA, Nat.reduceMul, Nat.reducePow, AV.isCell, Nat.reduceSub, here, plain, laid, Nat.reduceBEq, evOp, avOf, avCell, strOf, UInt8.reduceToNat, evBin, evInt, evStr, evUn, Nat.reduceEqDiff, Nat.reduceLT, evResults, evResultsL, reduceCtorEq, AV.isUndef, AV.cells, Nat.reduceAdd, Heap.store, Nat.reduceLeDiff, wbool_off, after_scope, e4, e3, e1, hb2, h23, (hw H').lenAt und40, lt_true hlt, hm, hp, hload H' (Up.refl _), ln9, wrap_succ (i := i) (by omega)]
        refine ⟨⟨i + 1, _, hlt, rfl, rfl⟩, ?_⟩
        omega
      · simp (maxSteps := 1000000) only [sx, fx, implies_true, evBuildSlice, fillE, fillA, Nat.reduceMul, Nat.reducePow, AV.isCell, Nat.reduceSub, here, plain, laid, Nat.reduceBEq, evOp, avOf, avCell, strOf, UInt8.reduceToNat, evBin, evInt, evStr, evUn, Nat.reduceEqDiff, Nat.reduceLT, evResults, evResultsL, reduceCtorEq, AV.isUndef, AV.cells, Nat.reduceAdd, Heap.store, Nat.reduceLeDiff, wbool_off, after_scope, e4, e3, e1, hb2, h23, (hw H').lenAt und40, lt_true hlt, hm]
        exact hK _ _ (hU1.trans hU2) hF2
    · simp (maxSteps := 1000000) only [sx, fx, implies_true, evBuildSlice, fillE, fillA, Nat.reduceMul, Nat.reducePow, AV.isCell, Nat.reduceSub, here, plain, laid, Nat.reduceBEq, evOp, avOf, avCell, strOf, UInt8.reduceToNat, evBin, evInt, evStr, evUn, Nat.reduceEqDiff, Nat.reduceLT, evResults, evResultsL, reduceCtorEq, AV.isUndef, AV.cells, Nat.reduceAdd, Heap.store, Nat.reduceLeDiff, wbool_off, after_scope, e4, e3, e1, hb2, h23, (hw H').lenAt und40, lt_false hlt]
      exact hK _ _ (hU1.trans hU2) hF2

theorem f4_ok {v : AV} {L : List (List AV)} (H : Heap) (hF : Free H) (hv : ∀ H, Holds H 24 v L) (hL : ∀ cs ∈ L, EvS cs) (hn : L.length < 2 ^ 60) (K : AV → Heap → Prop)
    (hK : ∀ b H', (b = true → L.length ≤ 60) → Up H H' → Free H' → K (.bool b) H') : WF Tryz.prog 4 [v] H K := by
  refine WF_body Tryz.func4 (by kernel_rfl) rfl Tryz.ntmps4 (by rw [Tryz.results4]) (of_decide_eq_true (by kernel_rfl)) ?_
  simp (maxSteps := 1000000) only [sx, fx, implies_true, evBuildSlice, fillE, fillA, Nat.reduceMul, Nat.reducePow, AV.isCell, Nat.reduceSub, here, plain, laid, Nat.reduceBEq, evOp, avOf, avCell, strOf, UInt8.reduceToNat, evBin, evInt, evStr, evUn, Nat.reduceEqDiff, Nat.reduceLT, evResults, evResultsL, reduceCtorEq, AV.isUndef, AV.cells, Nat.reduceAdd, Heap.store, Nat.reduceLeDiff, wbool_off, after_scope]
  refine loopStep' (fun env H' => Up H H' ∧ Free H' ∧ ∃ (i : Nat), i ≤ L.length ∧ env.at (.tmp 3) = .int .i64 i ∧ env.at (.tmp 0) = v)
    (fun env H' => match env.at (.tmp 3) with | .int _ i => ((L.length : Int) - i).toNat | _ => 0) ?_ ?_
  · refine ⟨Up.refl _, hF, 0, Nat.zero_le _, ?_, ?_⟩
    · simp only [sx, fx, implies_true, evBuildSlice, fillE, fillA, Nat.reduceMul, Nat.reducePow, AV.isCell, Nat.reduceSub, here, plain, laid, Nat.reduceBEq, evOp, avOf, avCell, strOf, UInt8.reduceToNat, evBin, evInt, evStr, evUn, Nat.reduceEqDiff, Nat.reduceLT, evResults, evResultsL, reduceCtorEq, AV.isUndef, AV.cells, Nat.reduceAdd, Heap.store, Nat.reduceLeDiff, wbool_off, after_scope]; rfl
    · simp only [sx, fx, implies_true, evBuildSlice, fillE, fillA, Nat.reduceMul, Nat.reducePow, AV.isCell, Nat.reduceSub, here, plain, laid, Nat.reduceBEq, evOp, avOf, avCell, strOf, UInt8.reduceToNat, evBin, evInt, evStr, evUn, Nat.reduceEqDiff, Nat.reduceLT, evResults, evResultsL, reduceCtorEq, AV.isUndef, AV.cells, Nat.reduceAdd, Heap.store, Nat.reduceLeDiff, wbool_off, after_scope]
  · rintro env H' ⟨hU', hF', i, hi, e3, e0⟩
    by_cases hlt : i < L.length
    · obtain ⟨cs, hc⟩ : ∃ cs, L[i]? = some cs := ⟨_, List.getElem?_eq_getElem hlt⟩
      obtain ⟨p, hp, hload, _⟩ := (hv H').index und22 sz46 .i64 hc
      by_cases hm : (i : Int) ≤ 60
      · simp (maxSteps := 1000000) only [sx, fx, implies_true, evBuildSlice, fillE, fillA, Nat.reduceMul, Nat.reducePow, AV.isCell, Nat.reduceSub, here, plain, laid, Nat.reduceBEq, evOp, avOf, avCell, strOf, UInt8.reduceToNat, evBin, evInt, evStr, evUn, Nat.reduceEqDiff, Nat.reduceLT, evResults, evResultsL, reduceCtorEq, AV.isUndef, AV.cells, Nat.reduceAdd, Heap.store, Nat.reduceLeDiff, wbool_off, after_scope, e3, e0, (hv H').lenAt und22, lt_true hlt, hm, hp, hload H' (Up.refl _)]
        refine callStep (f10_ok (hL cs (List.mem_of_getElem? hc)) H' hF' _ fun b H2 hU2 hF2 => ?_)
        cases b
        · simp (maxSteps := 1000000) only [sx, fx, implies_true, evBuildSlice, fillE, fillA, Nat.reduceMul, Nat.reducePow, AV.isCell, Nat.reduceSub, here, plain, laid, Nat.reduceBEq, evOp, avOf, avCell, strOf, UInt8.reduceToNat, evBin, evInt, evStr, evUn, Nat.reduceEqDiff, Nat.reduceLT, evResults, evResultsL, reduceCtorEq, AV.isUndef, AV.cells, Nat.reduceAdd, Heap.store, Nat.reduceLeDiff, wbool_off, after_scope]
          exact hK _ _ (by simp) (hU'.trans hU2) hF2
        · simp (maxSteps := 1000000) only [sx, fx, implies_true, evBuildSlice, fillE, fillA, Nat.reduceMul, Nat.reducePow, AV.isCell, Nat.reduceSub, here, plain, laid, Nat.reduceBEq, evOp, avOf, avCell, strOf, UInt8.reduceToNat, evBin, evInt, evStr, evUn, Nat.reduceEqDiff, Nat.reduceLT, evResults, evResultsL, reduceCtorEq, AV.isUndef, AV.cells, Nat.reduceAdd, Heap.store, Nat.reduceLeDiff, wbool_off, after_scope, e3, e0, wrap_succ (i := i) (by omega)]
          refine ⟨⟨hU'.trans hU2, hF2, i + 1, hlt, rfl⟩, ?_⟩
          omega
      · simp (maxSteps := 1000000) only [sx, fx, implies_true, evBuildSlice, fillE, fillA, Nat.reduceMul, Nat.reducePow, AV.isCell, Nat.reduceSub, here, plain, laid, Nat.reduceBEq, evOp, avOf, avCell, strOf, UInt8.reduceToNat, evBin, evInt, evStr, evUn, Nat.reduceEqDiff, Nat.reduceLT, evResults, evResultsL, reduceCtorEq, AV.isUndef, AV.cells, Nat.reduceAdd, Heap.store, Nat.reduceLeDiff, wbool_off, after_scope, e3, e0, (hv H').lenAt und22, lt_true hlt, hm]
        exact hK _ _ (by simp; omega) hU' hF'
    · simp (maxSteps := 1000000) only [sx, fx, implies_true, evBuildSlice, fillE, fillA, Nat.reduceMul, Nat.reducePow, AV.isCell, Nat.reduceSub, here, plain, laid, Nat.reduceBEq, evOp, avOf, avCell, strOf, UInt8.reduceToNat, evBin, evInt, evStr, evUn, Nat.reduceEqDiff, Nat.reduceLT, evResults, evResultsL, reduceCtorEq, AV.isUndef, AV.cells, Nat.reduceAdd, Heap.store, Nat.reduceLeDiff, wbool_off, after_scope, e3, e0, (hv H').lenAt und22, lt_false hlt]
      exact hK _ _ (by simp; omega) hU' hF'
end Go.Proofs.T
