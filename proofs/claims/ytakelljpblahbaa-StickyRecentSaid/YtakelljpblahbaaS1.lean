import Derived.Test.YtakelljpblahbaaS0
set_option linter.unusedVariables false
set_option linter.unusedSimpArgs false
set_option maxRecDepth 100000
namespace Go.Proofs.T
open Go.Ev

theorem own_set {G H : Heap} {ty esz : Nat} {v : AV} {L : List (List AV)} (h : Own G H ty esz v L) {c : Nat} (hc : G.blk c ≠ none) (x : Blk) : Own G (H.set c x) ty esz v L := by
  obtain ⟨h0, h | ⟨b, g, wgen, h1, h2, h3, h4⟩ | ⟨b, g, ty', gen, wgen, h1, h2, h3, h4⟩⟩ := h
  · exact ⟨h0, .inl h⟩
  · exact ⟨h0, .inr (.inl ⟨b, g, wgen, h1, by rw [Heap.set_other _ _ _ (fun e => hc (by rw [← e]; exact h4))]; exact h2, h3, h4⟩)⟩
  · exact ⟨h0, .inr (.inr ⟨b, g, ty', gen, wgen, h1, by rw [Heap.set_other _ _ _ (fun e => hc (by rw [← e]; exact h4))]; exact h2, h3, h4⟩)⟩

theorem own_isCell {G H : Heap} {ty esz : Nat} {v : AV} {L : List (List AV)} (h : Own G H ty esz v L) : v.isCell = true := by
  obtain ⟨_, ⟨_, rfl | rfl⟩ | ⟨_, _, _, rfl, _⟩ | ⟨_, _, _, _, _, rfl, _⟩⟩ := h <;> rfl
theorem own_shape {G H : Heap} {ty esz : Nat} {v : AV} {L : List (List AV)} (h : Own G H ty esz v L) : v = .nilslice ∨ v = .eslice ∨ ∃ b o l c ex g, v = .slice b o l c ex g := by
  obtain ⟨_, ⟨_, h | h⟩ | ⟨_, _, _, h, _⟩ | ⟨_, _, _, _, _, h, _⟩⟩ := h
  · exact .inl h
  · exact .inr (.inl h)
  · exact .inr (.inr ⟨_, _, _, _, _, _, h⟩)
  · exact .inr (.inr ⟨_, _, _, _, _, _, h⟩)
theorem own_undef {G H : Heap} {ty esz : Nat} {v : AV} {L : List (List AV)} (h : Own G H ty esz v L) : v.isUndef = false := by
  obtain ⟨_, ⟨_, rfl | rfl⟩ | ⟨_, _, _, rfl, _⟩ | ⟨_, _, _, _, _, rfl, _⟩⟩ := h <;> rfl
theorem holds_isCell {H : Heap} {esz : Nat} {v : AV} {L : List (List AV)} (h : Holds H esz v L) : v.isCell = true := by
  obtain ⟨_, ⟨_, rfl | rfl⟩ | rfl | ⟨_, _, _, _, _, _, _, _, _, rfl, _⟩⟩ := h <;> rfl
theorem cells_eq {v : AV} (h : v.isCell = true) : v.cells = [v] := by
  cases v <;> first | rfl | (cases h)
theorem undef_eq {v : AV} (h : v.isCell = true) : v.isUndef = false := by
  cases v <;> first | rfl | (cases h)

theorem f40_ok {v : AV} {L : List (List AV)} (H : Heap) (hF : Free H) (hv : Holds H 5 v L) (hL : ViL L) (hn : L.length ≤ 1000) (K : AV → Heap → Prop) (hK : ∀ u H', Up H H' → Free H' → Own H H' 60 5 u L → K u H') :
    WF Try.prog 40 [v] H K := by
  refine WF_body Try.func40 (by kernel_rfl) rfl Try.ntmps40 (by rw [Try.results40]) (of_decide_eq_true (by kernel_rfl)) ?_
  simp (maxSteps := 1000000) only [sx, fx, implies_true, evBuildSlice, fillE, fillA, Nat.reduceMul, Nat.reducePow, AV.isCell, Nat.reduceSub, here, plain, laid, Nat.reduceBEq, evOp, avOf, avCell, strOf, UInt8.reduceToNat, evBin, evInt, evStr, evUn, Nat.reduceEqDiff, Nat.reduceLT, evResults, evResultsL, reduceCtorEq, AV.isUndef, AV.cells, Nat.reduceAdd, Heap.store, Nat.reduceLeDiff]
  refine callStep (f55_ok _ hF hv hL hn _ fun u H2 hU hF2 hO => ?_)
  simp (maxSteps := 1000000) only [sx, fx, implies_true, evBuildSlice, fillE, fillA, Nat.reduceMul, Nat.reducePow, AV.isCell, Nat.reduceSub, here, plain, laid, Nat.reduceBEq, evOp, avOf, avCell, strOf, UInt8.reduceToNat, evBin, evInt, evStr, evUn, Nat.reduceEqDiff, Nat.reduceLT, evResults, evResultsL, reduceCtorEq, AV.isUndef, AV.cells, Nat.reduceAdd, Heap.store, Nat.reduceLeDiff]
  exact hK _ _ hU hF2 hO

theorem f55_nil (H : Heap) (fv : AV) (K : AV → Heap → Prop) (hK : K .nilslice H) : WF Try.prog 55 [.nilslice, fv] H K := by
  refine WF_body Try.func55 (by kernel_rfl) rfl Try.ntmps55 (by rw [Try.results55]) (of_decide_eq_true (by kernel_rfl)) ?_
  simp (maxSteps := 1000000) only [sx, fx, implies_true, evBuildSlice, fillE, fillA, Nat.reduceMul, Nat.reducePow, AV.isCell, Nat.reduceSub, here, plain, laid, Nat.reduceBEq, evOp, avOf, avCell, strOf, UInt8.reduceToNat, evBin, evInt, evStr, evUn, Nat.reduceEqDiff, Nat.reduceLT, evResults, evResultsL, reduceCtorEq, AV.isUndef, AV.cells, Nat.reduceAdd, Heap.store, Nat.reduceLeDiff, len_nil' und28]
  refine loopStep' (fun env H' => H' = H ∧ env.at (.tmp 10) = .int .i64 0 ∧ env.at (.tmp 9) = .int .i64 0 ∧ env.at (.tmp 5) = .nilslice) (fun _ _ => 0) ?_ ?_
  · exact ⟨rfl, by simp only [sx, fx, implies_true, evBuildSlice, fillE, fillA, splice, Nat.reduceMul, Nat.reducePow, AV.isCell, Nat.reduceSub, here, plain, laid, Nat.reduceBEq, evOp, avOf, avCell, strOf, UInt8.reduceToNat, evBin, evInt, evStr, evUn, Nat.reduceEqDiff, Nat.reduceLT, evResults, evResultsL, reduceCtorEq, AV.isUndef, AV.cells, Nat.reduceAdd, Heap.store, Nat.reduceLeDiff], by simp only [sx, fx, implies_true, evBuildSlice, fillE, fillA, splice, Nat.reduceMul, Nat.reducePow, AV.isCell, Nat.reduceSub, here, plain, laid, Nat.reduceBEq, evOp, avOf, avCell, strOf, UInt8.reduceToNat, evBin, evInt, evStr, evUn, Nat.reduceEqDiff, Nat.reduceLT, evResults, evResultsL, reduceCtorEq, AV.isUndef, AV.cells, Nat.reduceAdd, Heap.store, Nat.reduceLeDiff], by simp only [sx, fx, implies_true, evBuildSlice, fillE, fillA, splice, Nat.reduceMul, Nat.reducePow, AV.isCell, Nat.reduceSub, here, plain, laid, Nat.reduceBEq, evOp, avOf, avCell, strOf, UInt8.reduceToNat, evBin, evInt, evStr, evUn, Nat.reduceEqDiff, Nat.reduceLT, evResults, evResultsL, reduceCtorEq, AV.isUndef, AV.cells, Nat.reduceAdd, Heap.store, Nat.reduceLeDiff]⟩
  · rintro env H' ⟨rfl, e8, e7, e3⟩
    simp (maxSteps := 1000000) only [sx, fx, implies_true, evBuildSlice, fillE, fillA, Nat.reduceMul, Nat.reducePow, AV.isCell, Nat.reduceSub, here, plain, laid, Nat.reduceBEq, evOp, avOf, avCell, strOf, UInt8.reduceToNat, evBin, evInt, evStr, evUn, Nat.reduceEqDiff, Nat.reduceLT, evResults, evResultsL, reduceCtorEq, AV.isUndef, AV.cells, Nat.reduceAdd, Heap.store, Nat.reduceLeDiff, e8, e7, e3, Int.lt_irrefl]
    exact hK

theorem f40_nil (H : Heap) (K : AV → Heap → Prop) (hK : K .nilslice H) : WF Try.prog 40 [.nilslice] H K := by
  refine WF_body Try.func40 (by kernel_rfl) rfl Try.ntmps40 (by rw [Try.results40]) (of_decide_eq_true (by kernel_rfl)) ?_
  simp (maxSteps := 1000000) only [sx, fx, implies_true, evBuildSlice, fillE, fillA, Nat.reduceMul, Nat.reducePow, AV.isCell, Nat.reduceSub, here, plain, laid, Nat.reduceBEq, evOp, avOf, avCell, strOf, UInt8.reduceToNat, evBin, evInt, evStr, evUn, Nat.reduceEqDiff, Nat.reduceLT, evResults, evResultsL, reduceCtorEq, AV.isUndef, AV.cells, Nat.reduceAdd, Heap.store, Nat.reduceLeDiff]
  refine callStep (f55_nil _ _ _ ?_)
  simp (maxSteps := 1000000) only [sx, fx, implies_true, evBuildSlice, fillE, fillA, Nat.reduceMul, Nat.reducePow, AV.isCell, Nat.reduceSub, here, plain, laid, Nat.reduceBEq, evOp, avOf, avCell, strOf, UInt8.reduceToNat, evBin, evInt, evStr, evUn, Nat.reduceEqDiff, Nat.reduceLT, evResults, evResultsL, reduceCtorEq, AV.isUndef, AV.cells, Nat.reduceAdd, Heap.store, Nat.reduceLeDiff]
  exact hK

theorem pt_len {g : AV} {sq nw dn : Int} {lv : Bool} : (pt g sq nw dn lv).length = 17 := rfl
theorem pt_cells {g : AV} {sq nw dn : Int} {lv : Bool} (hg : g.isCell = true) : (pt g sq nw dn lv).all AV.isCell = true := by
  simp only [pt, List.all_cons, hg]; rfl

theorem f24_ok {g : AV} {L : List (List AV)} (sq nw dn : Int) (lv : Bool) (H : Heap) (hF : Free H) (hv : Holds H 5 g L) (hL : ViL L) (hn : L.length ≤ 1000) (K : AV → Heap → Prop)
    (hK : ∀ u H', Up H H' → Free H' → Own H H' 60 5 u L → K (.agg (pt u sq nw dn lv)) H') : WF Try.prog 24 [.agg (pt g sq nw dn lv)] H K := by
  refine WF_body Try.func24 (by kernel_rfl) rfl Try.ntmps24 (by rw [Try.results24]) (of_decide_eq_true (by kernel_rfl)) ?_
  have hgc := holds_isCell hv
  simp (maxSteps := 1000000) only [sx, fx, implies_true, evBuildSlice, fillE, fillA, Nat.reduceMul, Nat.reducePow, AV.isCell, Nat.reduceSub, here, plain, laid, Nat.reduceBEq, evOp, avOf, avCell, strOf, UInt8.reduceToNat, evBin, evInt, evStr, evUn, Nat.reduceEqDiff, Nat.reduceLT, evResults, evResultsL, reduceCtorEq, AV.isUndef, AV.cells, Nat.reduceAdd, Heap.store, Nat.reduceLeDiff, hF.at, hF.hp, pt]
  refine drawStep [6] [0, 1, 2, 3, 4, 5, 7, 8, 9, 10, 6, 11, 12, 13, 14, 15, 16, 17] _ rfl (by kernel_rfl) ?_
  simp (maxSteps := 1000000) only [sx, fx, implies_true, evBuildSlice, fillE, fillA, Nat.reduceMul, Nat.reducePow, AV.isCell, Nat.reduceSub, here, plain, laid, Nat.reduceBEq, evOp, avOf, avCell, strOf, UInt8.reduceToNat, evBin, evInt, evStr, evUn, Nat.reduceEqDiff, Nat.reduceLT, evResults, evResultsL, reduceCtorEq, AV.isUndef, AV.cells, Nat.reduceAdd, Heap.store, Nat.reduceLeDiff]
  refine callStep_flag (f40_ok _ (hF.hpF _) (hv.up (hF.hpU _)) hL hn _ fun u H2 hU2 hF2 hO2 => ⟨hU2, ?_⟩)
  have b0 : H2.blk H.next = some (.row 37 17 [pt g sq nw dn lv] 0 0) := hU2 _ _ (by rw [hp_blk0]; rfl)
  simp (maxSteps := 1000000) only [sx, fx, implies_true, evBuildSlice, fillE, fillA, Nat.reduceMul, Nat.reducePow, AV.isCell, Nat.reduceSub, here, plain, laid, Nat.reduceBEq, evOp, avOf, avCell, strOf, UInt8.reduceToNat, evBin, evInt, evStr, evUn, Nat.reduceEqDiff, Nat.reduceLT, evResults, evResultsL, reduceCtorEq, AV.isUndef, AV.cells, Nat.reduceAdd, Heap.store, Nat.reduceLeDiff]
  refine callStep (f40_nil _ _ ?_)
  simp only [pt] at b0
  have hold1 : ∀ x, (H2.set H.next x).blk (H.next + 1) = some (.row 37 17 [pt .nilslice 0 0 0 false] 0 0) := fun x => by rw [set_01]; exact hU2 _ _ (by rw [hp_blk]; rfl)
  have fin : Up H ((H2.set H.next (.row 37 17 [pt u sq nw dn lv] 0 0)).set (H.next + 1) (.row 37 17 [pt u sq nw dn lv] 0 0)) ∧ Free ((H2.set H.next (.row 37 17 [pt u sq nw dn lv] 0 0)).set (H.next + 1) (.row 37 17 [pt u sq nw dn lv] 0 0)) ∧
      Own H ((H2.set H.next (.row 37 17 [pt u sq nw dn lv] 0 0)).set (H.next + 1) (.row 37 17 [pt u sq nw dn lv] 0 0)) 60 5 u L := by
    have hUp : Up H H2 := (hF.hpU _).trans hU2
    refine ⟨(hUp.set (hF _ (Nat.le_refl _)) _).set (hF _ (by omega)) _, (hF2.set (hF2.lt b0) _).set ((hF2.set (hF2.lt b0) _).lt (hold1 _)) _, ?_⟩
    refine (own_set (own_set hO2 (c := H.next) (by rw [hp_blk0]; simp) _) (c := H.next + 1) (by rw [hp_blk]; simp) _).base (hF.hpU _)
  simp only [pt] at hold1 fin
  have hK' := hK u
  simp only [pt] at hK'
  rcases own_shape hO2 with rfl | rfl | ⟨b, o, l, c, ex, g', rfl⟩
  all_goals
    simp (maxSteps := 1000000) only [sx, fx, implies_true, evBuildSlice, fillE, fillA, Nat.reduceMul, Nat.reducePow, AV.isCell, Nat.reduceSub, here, plain, laid, Nat.reduceBEq, evOp, avOf, avCell, strOf, UInt8.reduceToNat, evBin, evInt, evStr, evUn, Nat.reduceEqDiff, Nat.reduceLT, evResults, evResultsL, reduceCtorEq, AV.isUndef, AV.cells, Nat.reduceAdd, Heap.store, Nat.reduceLeDiff, b0, set_same, set_set_same]
    refine drawStep [7, 12] [0, 1, 2, 3, 4, 5, 6, 8, 9, 10, 11, 13, 14, 15, 16, 7, 12, 17, 18, 19, 20, 21, 22, 23, 24, 25, 26] _ rfl (by kernel_rfl) ?_
    simp (maxSteps := 1000000) only [sx, fx, implies_true, evBuildSlice, fillE, fillA, Nat.reduceMul, Nat.reducePow, AV.isCell, Nat.reduceSub, here, plain, laid, Nat.reduceBEq, evOp, avOf, avCell, strOf, UInt8.reduceToNat, evBin, evInt, evStr, evUn, Nat.reduceEqDiff, Nat.reduceLT, evResults, evResultsL, reduceCtorEq, AV.isUndef, AV.cells, Nat.reduceAdd, Heap.store, Nat.reduceLeDiff, set_same, set_set_same]
    refine callStep_flag (f41_ok _ _ _ ⟨Up.refl _, ?_⟩)
    simp (maxSteps := 1000000) only [sx, fx, implies_true, evBuildSlice, fillE, fillA, Nat.reduceMul, Nat.reducePow, AV.isCell, Nat.reduceSub, here, plain, laid, Nat.reduceBEq, evOp, avOf, avCell, strOf, UInt8.reduceToNat, evBin, evInt, evStr, evUn, Nat.reduceEqDiff, Nat.reduceLT, evResults, evResultsL, reduceCtorEq, AV.isUndef, AV.cells, Nat.reduceAdd, Heap.store, Nat.reduceLeDiff, set_same, set_set_same]
    refine callStep_flag (f43_ok _ _ _ ⟨Up.refl _, ?_⟩)
    simp (maxSteps := 1000000) only [sx, fx, implies_true, evBuildSlice, fillE, fillA, Nat.reduceMul, Nat.reducePow, AV.isCell, Nat.reduceSub, here, plain, laid, Nat.reduceBEq, evOp, avOf, avCell, strOf, UInt8.reduceToNat, evBin, evInt, evStr, evUn, Nat.reduceEqDiff, Nat.reduceLT, evResults, evResultsL, reduceCtorEq, AV.isUndef, AV.cells, Nat.reduceAdd, Heap.store, Nat.reduceLeDiff, set_same, set_set_same]
    refine callStep (f45_ok _ _ _ ?_)
    simp (maxSteps := 1000000) only [sx, fx, implies_true, evBuildSlice, fillE, fillA, Nat.reduceMul, Nat.reducePow, AV.isCell, Nat.reduceSub, here, plain, laid, Nat.reduceBEq, evOp, avOf, avCell, strOf, UInt8.reduceToNat, evBin, evInt, evStr, evUn, Nat.reduceEqDiff, Nat.reduceLT, evResults, evResultsL, reduceCtorEq, AV.isUndef, AV.cells, Nat.reduceAdd, Heap.store, Nat.reduceLeDiff, set_same, set_set_same]
    refine drawStep [7, 12] [0, 1, 2, 3, 4, 5, 6, 8, 9, 10, 11, 13, 14, 15, 16, 7, 12, 17, 18, 19, 20, 21, 22, 23, 24, 25, 26] _ rfl (by kernel_rfl) ?_
    simp (maxSteps := 1000000) only [sx, fx, implies_true, evBuildSlice, fillE, fillA, Nat.reduceMul, Nat.reducePow, AV.isCell, Nat.reduceSub, here, plain, laid, Nat.reduceBEq, evOp, avOf, avCell, strOf, UInt8.reduceToNat, evBin, evInt, evStr, evUn, Nat.reduceEqDiff, Nat.reduceLT, evResults, evResultsL, reduceCtorEq, AV.isUndef, AV.cells, Nat.reduceAdd, Heap.store, Nat.reduceLeDiff, set_same, set_set_same]
    refine callStep_flag (f47_ok _ _ _ ⟨Up.refl _, ?_⟩)
    simp (maxSteps := 1000000) only [sx, fx, implies_true, evBuildSlice, fillE, fillA, Nat.reduceMul, Nat.reducePow, AV.isCell, Nat.reduceSub, here, plain, laid, Nat.reduceBEq, evOp, avOf, avCell, strOf, UInt8.reduceToNat, evBin, evInt, evStr, evUn, Nat.reduceEqDiff, Nat.reduceLT, evResults, evResultsL, reduceCtorEq, AV.isUndef, AV.cells, Nat.reduceAdd, Heap.store, Nat.reduceLeDiff, set_same, set_set_same]
    refine callStep_flag (f47_ok _ _ _ ⟨Up.refl _, ?_⟩)
    simp (maxSteps := 1000000) only [sx, fx, implies_true, evBuildSlice, fillE, fillA, Nat.reduceMul, Nat.reducePow, AV.isCell, Nat.reduceSub, here, plain, laid, Nat.reduceBEq, evOp, avOf, avCell, strOf, UInt8.reduceToNat, evBin, evInt, evStr, evUn, Nat.reduceEqDiff, Nat.reduceLT, evResults, evResultsL, reduceCtorEq, AV.isUndef, AV.cells, Nat.reduceAdd, Heap.store, Nat.reduceLeDiff, set_same, set_set_same]
    refine callStep (f49_ok _ _ _ ?_)
    simp (maxSteps := 1000000) only [sx, fx, implies_true, evBuildSlice, fillE, fillA, Nat.reduceMul, Nat.reducePow, AV.isCell, Nat.reduceSub, here, plain, laid, Nat.reduceBEq, evOp, avOf, avCell, strOf, UInt8.reduceToNat, evBin, evInt, evStr, evUn, Nat.reduceEqDiff, Nat.reduceLT, evResults, evResultsL, reduceCtorEq, AV.isUndef, AV.cells, Nat.reduceAdd, Heap.store, Nat.reduceLeDiff, set_same, set_set_same, hold1, pt, evResult_cell]
    exact hK' _ fin.1 fin.2.1 fin.2.2
end Go.Proofs.T
