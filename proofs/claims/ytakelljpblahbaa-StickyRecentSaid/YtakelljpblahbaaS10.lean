import Derived.Test.YtakelljpblahbaaS9
set_option linter.unusedVariables false
set_option linter.unusedSimpArgs false
set_option maxRecDepth 100000
namespace Go.Proofs.T
open Go.Ev

theorem _root_.Go.Ev.Own.off {G H H' : Heap} {ty esz : Nat} {v : AV} {L : List (List AV)} (h : Own G H ty esz v L) {B : Nat → Prop} (ho : Off B H H') (hB : ∀ b, B b → G.blk b ≠ none) : Own G H' ty esz v L := by
  obtain ⟨h0, h | ⟨b, g, wgen, h1, h2, h3, h4⟩ | ⟨b, g, ty', gen, wgen, h1, h2, h3, h4⟩⟩ := h
  · exact ⟨h0, .inl h⟩
  · exact ⟨h0, .inr (.inl ⟨b, g, wgen, h1, ho _ _ (fun e => hB _ e h4) h2, h3, h4⟩)⟩
  · exact ⟨h0, .inr (.inr ⟨b, g, ty', gen, wgen, h1, ho _ _ (fun e => hB _ e h4) h2, h3, h4⟩)⟩

theorem ViL.one (n : Int) : ViL [vi 2 n] := fun cs hc => by
  obtain rfl : cs = vi 2 n := by simpa using hc
  exact ⟨2, n, rfl⟩

theorem f11_ok {H : Heap} {F : Nat → Prop} {cx : Nat} {sz h m : Int} {L : Stored} (key : List Nat) (hFr : Free H) (hC : Cache H F cx sz h m L) (Q : AV → Heap → Prop)
    (hQ1 : lk key L = none → ∀ u H', Up H H' → Free H' → Own H H' 60 5 u [] → Q (.tuple [.agg (pt u 0 0 0 false), .bool false]) H')
    (hQ2 : ∀ n, lk key L = some n → ∀ u H', Up H H' → Free H' → Own H H' 60 5 u [vi 2 n] → Q (.tuple [.agg (ptN u n), .bool true]) H') : WF Try.prog 11 [.ptr cx 0 0 0, .str key] H Q := by
  obtain ⟨Fg, cm, kv, M, cl, hC, hF⟩ := hC
  refine WF_body Try.func11 (by kernel_rfl) rfl Try.ntmps11 (by rw [Try.results11]) (of_decide_eq_true (by kernel_rfl)) ?_
  simp (maxSteps := 1000000) only [sx, fx, implies_true, evBuildSlice, fillE, fillA, Nat.reduceMul, Nat.reducePow, AV.isCell, Nat.reduceSub, here, plain, laid, Nat.reduceBEq, evOp, avOf, avCell, strOf, UInt8.reduceToNat, evBin, evInt, evStr, evUn, Nat.reduceEqDiff, Nat.reduceLT, evResults, evResultsL, reduceCtorEq, AV.isUndef, AV.cells, Nat.reduceAdd, Heap.store, Nat.reduceLeDiff, hFr.at, hFr.hp]
  have hold : ∀ xs, CInv (HP H xs) Fg cx cm kv sz h m M cl L := fun xs => hC.up (hFr.hpU xs)
  refine callStep (f23_row _ (hold _).row _ ?_)
  have hrow := fun xs => (hold xs).row
  simp only [cacheRow] at hrow
  have hmap := fun xs => (hold xs).map
  have fin : ∀ (p q : List AV) (H2 : Heap) (b : Nat), p.length = 17 → b = H.next → Up (HP H [Blk.row 37 17 [p] 0 0, Blk.row 37 17 [q] 0 0]) H2 → Free H2 → ∀ x, Up H (H2.set b x) ∧ Free (H2.set b x) ∧ (∀ u L', Own (HP H [Blk.row 37 17 [p] 0 0, Blk.row 37 17 [q] 0 0]) H2 60 5 u L' → Own H (H2.set b x) 60 5 u L') := by
    rintro p q H2 b hp rfl hU hF2 x
    have b0 := hU _ _ (show (HP H [Blk.row 37 17 [p] 0 0, Blk.row 37 17 [q] 0 0]).blk H.next = some (.row 37 17 [p] 0 0) by rw [hp_blk0]; rfl)
    exact ⟨((hFr.hpU _).trans hU).set (hFr _ (Nat.le_refl _)) _, hF2.set (hF2.lt b0) _, fun u L' hO => (own_set hO (c := H.next) (by rw [hp_blk0]; simp) _).base (hFr.hpU _)⟩
  rcases lk_some_of hC key with ⟨hl, hf⟩ | ⟨n, g, i, st, hl, hf, hg, hgb⟩
  · simp (maxSteps := 1000000) only [sx, fx, implies_true, evBuildSlice, fillE, fillA, Nat.reduceMul, Nat.reducePow, AV.isCell, Nat.reduceSub, here, plain, laid, Nat.reduceBEq, evOp, avOf, avCell, strOf, UInt8.reduceToNat, evBin, evInt, evStr, evUn, Nat.reduceEqDiff, Nat.reduceLT, evResults, evResultsL, reduceCtorEq, AV.isUndef, AV.cells, Nat.reduceAdd, Heap.store, Nat.reduceLeDiff, hC.pos, hrow, evLookup, str9, hmap, findK_ent, hf]
    refine callStep ?_
    refine f24_ok (g := .nilslice) (L := []) 0 0 0 false _ (hFr.hpF _) Holds.nil (by simp [ViL]) (by simp) _ fun u H2 hU2 hF2 hO2 => ?_
    have hb0 : H2.blk H.next = some (.row 37 17 [pt .nilslice 0 0 0 false] 0 0) := hU2 _ _ (by rw [hp_blk0]; rfl)
    have huc := own_isCell hO2
    have hf' := fin (pt .nilslice 0 0 0 false) (pt .nilslice 0 0 0 false) H2 _ rfl rfl hU2 hF2
    have hln : ∀ x, (pt x 0 0 0 false).length = 17 := fun _ => rfl
    have htk : ∀ x, (pt x 0 0 0 false).take 17 = pt x 0 0 0 false := fun _ => rfl
    simp (maxSteps := 1000000) only [sx, fx, implies_true, evBuildSlice, fillE, fillA, Nat.reduceMul, Nat.reducePow, AV.isCell, Nat.reduceSub, here, plain, laid, Nat.reduceBEq, evOp, avOf, avCell, strOf, UInt8.reduceToNat, evBin, evInt, evStr, evUn, Nat.reduceEqDiff, Nat.reduceLT, evResults, evResultsL, reduceCtorEq, AV.isUndef, AV.cells, Nat.reduceAdd, Heap.store, Nat.reduceLeDiff, hb0, hln, htk, pt_cells huc]
    exact hQ1 hl _ _ (hf' _).1 (hf' _).2.1 ((hf' _).2.2 _ _ hO2)
  · have hgc := holds_isCell hg
    have hln : ∀ x, (ptN x n).length = 17 := fun _ => rfl
    have htk : ∀ x, (ptN x n).take 17 = ptN x n := fun _ => rfl
    simp (maxSteps := 1000000) only [sx, fx, implies_true, evBuildSlice, fillE, fillA, Nat.reduceMul, Nat.reducePow, AV.isCell, Nat.reduceSub, here, plain, laid, Nat.reduceBEq, evOp, avOf, avCell, strOf, UInt8.reduceToNat, evBin, evInt, evStr, evUn, Nat.reduceEqDiff, Nat.reduceLT, evResults, evResultsL, reduceCtorEq, AV.isUndef, AV.cells, Nat.reduceAdd, Heap.store, Nat.reduceLeDiff, hC.pos, hrow, evLookup, str9, hmap, findK_ent, hf, hln, htk, pt_cells hgc, show (ptN g n).all AV.isCell = true from pt_cells hgc]
    refine callStep ?_
    refine f24_ok (g := g) (L := [vi 2 n]) n (IntKind.i64.wrap (n.tdiv 2)) n (n.tmod 2 == 1) _ (hFr.hpF _) (hg.up (hFr.hpU _)) (ViL.one n) (by simp) _ fun u H2 hU2 hF2 hO2 => ?_
    have hb0 : H2.blk H.next = some (.row 37 17 [pt .nilslice 0 0 0 false] 0 0) := hU2 _ _ (by rw [hp_blk0]; rfl)
    have huc := own_isCell hO2
    have hf' := fin (pt .nilslice 0 0 0 false) (ptN g n) H2 _ rfl rfl hU2 hF2
    have hln0 : ∀ x, (pt x 0 0 0 false).length = 17 := fun _ => rfl
    have hlnn : ∀ x, (pt x n (IntKind.i64.wrap (n.tdiv 2)) n (n.tmod 2 == 1)).length = 17 := fun _ => rfl
    have htkn : ∀ x, (pt x n (IntKind.i64.wrap (n.tdiv 2)) n (n.tmod 2 == 1)).take 17 = pt x n (IntKind.i64.wrap (n.tdiv 2)) n (n.tmod 2 == 1) := fun _ => rfl
    simp (maxSteps := 1000000) only [sx, fx, implies_true, evBuildSlice, fillE, fillA, Nat.reduceMul, Nat.reducePow, AV.isCell, Nat.reduceSub, here, plain, laid, Nat.reduceBEq, evOp, avOf, avCell, strOf, UInt8.reduceToNat, evBin, evInt, evStr, evUn, Nat.reduceEqDiff, Nat.reduceLT, evResults, evResultsL, reduceCtorEq, AV.isUndef, AV.cells, Nat.reduceAdd, Heap.store, Nat.reduceLeDiff, hb0, hln0, hlnn, htkn, pt_cells huc]
    exact hQ2 n hl _ _ (hf' _).1 (hf' _).2.1 ((hf' _).2.2 _ _ hO2)
end Go.Proofs.T
