import Derived.Test.YtakelljpblahbaaS2
set_option linter.unusedVariables false
set_option linter.unusedSimpArgs false
set_option maxRecDepth 100000
namespace Go.Proofs.T
open Go.Ev

/-- The cells of Point(n). -/
def ptN (g : AV) (n : Int) : List AV := pt g n (IntKind.i64.wrap (n.tdiv 2)) n (n.tmod 2 == 1)

theorem f9_ok (n : Int) (H : Heap) (hF : Free H) (K : AV → Heap → Prop) (hK : ∀ g H', Up H H' → Free H' → Own H H' 60 5 g [vi 2 n] → K (.agg (ptN g n)) H') : WF Try.prog 9 [.int .i64 n] H K := by
  refine WF_body Try.func9 (by kernel_rfl) rfl Try.ntmps9 (by rw [Try.results9]) (of_decide_eq_true (by kernel_rfl)) ?_
  have h2 : ((2 : Int) = 0) = False := by simp
  simp (maxSteps := 1000000) only [sx, fx, implies_true, evBuildSlice, fillE, fillA, splice, Nat.reduceMul, Nat.reducePow, AV.isCell, Nat.reduceSub, here, plain, laid, Nat.reduceBEq, evOp, avOf, avCell, strOf, UInt8.reduceToNat, evBin, evInt, evStr, evUn, Nat.reduceEqDiff, Nat.reduceLT, evResults, evResultsL, reduceCtorEq, AV.isUndef, AV.cells, Nat.reduceAdd, Heap.store, Nat.reduceLeDiff, evResult_cell, set_same, set_next, set_set_same, hF.at, hF.hp, h2]
  have hold : ∀ xs x, (HP H (x :: xs)).blk H.next = some x := fun xs x => by rw [hp_blk0]; rfl
  have hK' := hK (.slice (H.next + 1) 0 1 1 true 0) (HP H [Blk.row 37 17 [ptN (.slice (H.next + 1) 0 1 1 true 0) n] 0 0, Blk.row 60 5 [vi 2 n] 0 0]) (hF.hpU _) (hF.hpF _)
    (own_hp (k := 1) hF (Up.refl _) rfl rfl (by simp [vi, AV.isCell]))
  simp only [ptN, pt, vi] at hK'
  exact hK'

def SlShape (g : AV) : Prop := g = .nilslice ∨ g = .eslice ∨ (∃ k es, g = .lst k es) ∨ ∃ b o l c ex g', g = .slice b o l c ex g'
theorem holds_shape {H : Heap} {esz : Nat} {v : AV} {L : List (List AV)} (h : Holds H esz v L) : SlShape v := by
  obtain ⟨_, ⟨_, h | h⟩ | h | ⟨_, _, _, _, _, _, _, _, _, h, _⟩⟩ := h
  · exact .inl h
  · exact .inr (.inl h)
  · exact .inr (.inr (.inl ⟨_, _, h⟩))
  · exact .inr (.inr (.inr ⟨_, _, _, _, _, _, h⟩))

theorem f13_ok (g : AV) (hg : SlShape g) (sq nw dn : Int) (lv : Bool) (H : Heap) (hF : Free H) (K : AV → Heap → Prop) (hK : ∀ H', Up H H' → Free H' → K (.agg (pt g sq nw dn lv)) H') : WF Try.prog 13 [.agg (pt g sq nw dn lv)] H K := by
  refine WF_body Try.func13 (by kernel_rfl) rfl Try.ntmps13 (by rw [Try.results13]) (of_decide_eq_true (by kernel_rfl)) ?_
  have hK' := hK _ (hF.hpU [Blk.row 37 17 [pt g sq nw dn lv] 0 0, Blk.row 43 17 [pt g sq nw dn lv] 0 0]) (hF.hpF _)
  simp only [pt] at hK'
  rcases hg with rfl | rfl | ⟨k, es, rfl⟩ | ⟨b, o, l, c, ex, g', rfl⟩
  all_goals
    simp (maxSteps := 1000000) only [sx, fx, implies_true, evBuildSlice, fillE, fillA, splice, Nat.reduceMul, Nat.reducePow, AV.isCell, Nat.reduceSub, here, plain, laid, Nat.reduceBEq, evOp, avOf, avCell, strOf, UInt8.reduceToNat, evBin, evInt, evStr, evUn, Nat.reduceEqDiff, Nat.reduceLT, evResults, evResultsL, reduceCtorEq, AV.isUndef, AV.cells, Nat.reduceAdd, Heap.store, Nat.reduceLeDiff, evResult_cell, set_same, set_next, set_set_same, hF.at, hF.hp, pt]
    exact hK'

theorem f52_ok {a b : AV} {L : List (List AV)} (sq nw : Int) (H : Heap) (hF : Free H) (ha : Holds H 5 a L) (hb : Holds H 5 b L) (hL : ViL L) (hn : L.length ≤ 1000) (K : AV → Heap → Prop) (hK : ∀ H', Up H H' → Free H' → K (.bool true) H') : WF Try.prog 52 [.agg (mc a sq nw), .agg (mc b sq nw)] H K := by
  refine WF_body Try.func52 (by kernel_rfl) rfl Try.ntmps52 (by rw [Try.results52]) (of_decide_eq_true (by kernel_rfl)) ?_
  have hac := holds_isCell ha
  have hbc := holds_isCell hb
  simp (maxSteps := 1000000) only [sx, fx, implies_true, evBuildSlice, fillE, fillA, Nat.reduceMul, Nat.reducePow, AV.isCell, Nat.reduceSub, here, plain, laid, Nat.reduceBEq, evOp, avOf, avCell, strOf, UInt8.reduceToNat, evBin, evInt, evStr, evUn, Nat.reduceEqDiff, Nat.reduceLT, evResults, evResultsL, reduceCtorEq, AV.isUndef, AV.cells, Nat.reduceAdd, Heap.store, Nat.reduceLeDiff, hF.at, hF.hp, mc, hac, hbc]
  refine callStep (f60_ok sq nw _ (hF.hpF _) (ha.up (hF.hpU _)) (hb.up (hF.hpU _)) hL hn _ fun H2 hU2 hF2 => ?_)
  have b0 : H2.blk H.next = some (.row 35 15 [mc a sq nw] 0 0) := hU2 _ _ (by rw [hp_blk0]; rfl)
  have b1 : H2.blk (H.next + 1) = some (.row 35 15 [mc b sq nw] 0 0) := hU2 _ _ (by rw [hp_blk]; rfl)
  simp only [mc] at b0 b1
  simp (maxSteps := 1000000) only [sx, fx, implies_true, evBuildSlice, fillE, fillA, Nat.reduceMul, Nat.reducePow, AV.isCell, Nat.reduceSub, here, plain, laid, Nat.reduceBEq, evOp, avOf, avCell, strOf, UInt8.reduceToNat, evBin, evInt, evStr, evUn, Nat.reduceEqDiff, Nat.reduceLT, evResults, evResultsL, reduceCtorEq, AV.isUndef, AV.cells, Nat.reduceAdd, Heap.store, Nat.reduceLeDiff, b0, b1]
  refine callStep (f61_ok _ _ ?_)
  simp (maxSteps := 1000000) only [sx, fx, implies_true, evBuildSlice, fillE, fillA, Nat.reduceMul, Nat.reducePow, AV.isCell, Nat.reduceSub, here, plain, laid, Nat.reduceBEq, evOp, avOf, avCell, strOf, UInt8.reduceToNat, evBin, evInt, evStr, evUn, Nat.reduceEqDiff, Nat.reduceLT, evResults, evResultsL, reduceCtorEq, AV.isUndef, AV.cells, Nat.reduceAdd, Heap.store, Nat.reduceLeDiff, b0, b1]
  refine callStep (f62_ok (L := []) _ hF2 Holds.nil Holds.nil (by simp [ViL]) (by simp) _ fun H3 hU3 hF3 => ?_)
  have c0 := hU3 _ _ b0
  have c1 := hU3 _ _ b1
  simp (maxSteps := 1000000) only [sx, fx, implies_true, evBuildSlice, fillE, fillA, Nat.reduceMul, Nat.reducePow, AV.isCell, Nat.reduceSub, here, plain, laid, Nat.reduceBEq, evOp, avOf, avCell, strOf, UInt8.reduceToNat, evBin, evInt, evStr, evUn, Nat.reduceEqDiff, Nat.reduceLT, evResults, evResultsL, reduceCtorEq, AV.isUndef, AV.cells, Nat.reduceAdd, Heap.store, Nat.reduceLeDiff, c0, c1, BEq.rfl, bool_ok, bool_eqA]
  exact hK _ (((hF.hpU _).trans hU2).trans hU3) hF3

theorem f26_ok {a b : AV} {L : List (List AV)} (sq nw dn : Int) (lv : Bool) (H : Heap) (hF : Free H) (ha : Holds H 5 a L) (hb : Holds H 5 b L) (hL : ViL L) (hn : L.length ≤ 1000) (K : AV → Heap → Prop) (hK : ∀ H', Up H H' → Free H' → K (.bool true) H') : WF Try.prog 26 [.agg (pt a sq nw dn lv), .agg (pt b sq nw dn lv)] H K := by
  refine WF_body Try.func26 (by kernel_rfl) rfl Try.ntmps26 (by rw [Try.results26]) (of_decide_eq_true (by kernel_rfl)) ?_
  have hac := holds_isCell ha
  have hbc := holds_isCell hb
  simp (maxSteps := 1000000) only [sx, fx, implies_true, evBuildSlice, fillE, fillA, Nat.reduceMul, Nat.reducePow, AV.isCell, Nat.reduceSub, here, plain, laid, Nat.reduceBEq, evOp, avOf, avCell, strOf, UInt8.reduceToNat, evBin, evInt, evStr, evUn, Nat.reduceEqDiff, Nat.reduceLT, evResults, evResultsL, reduceCtorEq, AV.isUndef, AV.cells, Nat.reduceAdd, Heap.store, Nat.reduceLeDiff, hF.at, hF.hp, pt, hac, hbc, BEq.rfl, bool_ok, bool_eqA]
  refine callStep ?_
  refine f52_ok sq nw _ (hF.hpF _) (ha.up (hF.hpU _)) (hb.up (hF.hpU _)) hL hn _ fun H2 hU2 hF2 => ?_
  simp (maxSteps := 1000000) only [sx, fx, implies_true, evBuildSlice, fillE, fillA, Nat.reduceMul, Nat.reducePow, AV.isCell, Nat.reduceSub, here, plain, laid, Nat.reduceBEq, evOp, avOf, avCell, strOf, UInt8.reduceToNat, evBin, evInt, evStr, evUn, Nat.reduceEqDiff, Nat.reduceLT, evResults, evResultsL, reduceCtorEq, AV.isUndef, AV.cells, Nat.reduceAdd, Heap.store, Nat.reduceLeDiff]
  exact hK _ ((hF.hpU _).trans hU2) hF2

theorem f12_ok {a b : AV} {L : List (List AV)} (sq nw dn : Int) (lv : Bool) (H : Heap) (hF : Free H) (ha : Holds H 5 a L) (hb : Holds H 5 b L) (hL : ViL L) (hn : L.length ≤ 1000) (K : AV → Heap → Prop) (hK : ∀ H', Up H H' → Free H' → K (.bool true) H') : WF Try.prog 12 [.agg (pt a sq nw dn lv), .agg (pt b sq nw dn lv)] H K := by
  refine WF_body Try.func12 (by kernel_rfl) rfl Try.ntmps12 (by rw [Try.results12]) (of_decide_eq_true (by kernel_rfl)) ?_
  have hac := holds_isCell ha
  have hbc := holds_isCell hb
  have tk : ∀ x, (pt x sq nw dn lv).take 17 = pt x sq nw dn lv := fun _ => rfl
  simp (maxSteps := 1000000) only [sx, fx, implies_true, evBuildSlice, fillE, fillA, Nat.reduceMul, Nat.reducePow, AV.isCell, Nat.reduceSub, here, plain, laid, Nat.reduceBEq, evOp, avOf, avCell, strOf, UInt8.reduceToNat, evBin, evInt, evStr, evUn, Nat.reduceEqDiff, Nat.reduceLT, evResults, evResultsL, reduceCtorEq, AV.isUndef, AV.cells, Nat.reduceAdd, Heap.store, Nat.reduceLeDiff, hF.at, hF.hp, pt_len, pt_cells hac, pt_cells hbc, tk]
  refine drawStep [1] [0, 2, 1, 3, 4] _ rfl (by kernel_rfl) ?_
  simp (maxSteps := 1000000) only [sx, fx, implies_true, evBuildSlice, fillE, fillA, Nat.reduceMul, Nat.reducePow, AV.isCell, Nat.reduceSub, here, plain, laid, Nat.reduceBEq, evOp, avOf, avCell, strOf, UInt8.reduceToNat, evBin, evInt, evStr, evUn, Nat.reduceEqDiff, Nat.reduceLT, evResults, evResultsL, reduceCtorEq, AV.isUndef, AV.cells, Nat.reduceAdd, Heap.store, Nat.reduceLeDiff, hF.at, hF.hp, pt_len, pt_cells hac, pt_cells hbc, tk]
  refine callStep_flag ?_
  refine f13_ok a (holds_shape ha) sq nw dn lv _ (hF.hpF _) _ fun H2 hU2 hF2 => ⟨hU2, ?_⟩
  simp (maxSteps := 1000000) only [sx, fx, implies_true, evBuildSlice, fillE, fillA, Nat.reduceMul, Nat.reducePow, AV.isCell, Nat.reduceSub, here, plain, laid, Nat.reduceBEq, evOp, avOf, avCell, strOf, UInt8.reduceToNat, evBin, evInt, evStr, evUn, Nat.reduceEqDiff, Nat.reduceLT, evResults, evResultsL, reduceCtorEq, AV.isUndef, AV.cells, Nat.reduceAdd, Heap.store, Nat.reduceLeDiff]
  refine callStep ?_
  refine f26_ok sq nw dn lv _ hF2 (ha.up ((hF.hpU _).trans hU2)) (hb.up ((hF.hpU _).trans hU2)) hL hn _ fun H3 hU3 hF3 => ?_
  simp (maxSteps := 1000000) only [sx, fx, implies_true, evBuildSlice, fillE, fillA, Nat.reduceMul, Nat.reducePow, AV.isCell, Nat.reduceSub, here, plain, laid, Nat.reduceBEq, evOp, avOf, avCell, strOf, UInt8.reduceToNat, evBin, evInt, evStr, evUn, Nat.reduceEqDiff, Nat.reduceLT, evResults, evResultsL, reduceCtorEq, AV.isUndef, AV.cells, Nat.reduceAdd, Heap.store, Nat.reduceLeDiff]
  exact hK _ (((hF.hpU _).trans hU2).trans hU3) hF3
end Go.Proofs.T
