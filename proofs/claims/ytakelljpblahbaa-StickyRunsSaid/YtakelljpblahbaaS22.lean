import Derived.Test.YtakelljpblahbaaS21
set_option linter.unusedVariables false
set_option linter.unusedSimpArgs false
set_option maxRecDepth 100000
namespace Go.Proofs.T
open Go.Ev

/-- What f54 finds, as cells. -/
def Found (H : Heap) (P : Nat → Prop) (key : List Nat) (L : Stored) (z : List AV) : Prop :=
  match lk key L with | none => z = ze | some n => ∃ g, z = ecell key g n ∧ Holds H 5 g [vi 2 n] ∧ ∀ b, blkOf g = some b → P b

theorem Found.cells {H : Heap} {P : Nat → Prop} {key : List Nat} {L : Stored} {z : List AV} (h : Found H P key L z) : z.length = 18 ∧ z.all AV.isCell = true := by
  unfold Found at h
  cases hx : lk key L with
  | none => rw [hx] at h; rw [h]; exact ⟨rfl, rfl⟩
  | some n =>
    rw [hx] at h
    obtain ⟨g', rfl, hg', _⟩ := h
    refine ⟨rfl, ?_⟩
    simp only [ecell, List.all_cons]
    rw [show (ptN g' n).all AV.isCell = true from pt_cells (holds_isCell hg')]; rfl

theorem RInv.new {H H' : Heap} {G : Nat → Prop} {rx : Nat} {ev out : AV} {E E' : List (List AV)} {sz fo wr fo' wr' : Int} {L L' : Stored} (hR : RInv H G rx ev E sz fo wr L) (Gn : Nat → Prop) (hoff : Off (fun b => b = rx) H H')
    (row' : H'.blk rx = some (refRow sz out fo' wr')) (hs : Holds H' 18 out E') (he : ER H' (fun b => (G b ∨ Gn b) ∧ b ≠ rx) E' L') (ho : ∀ b, blkOf out = some b → (G b ∨ Gn b) ∧ b ≠ rx) (hd : ∀ b, Gn b → H'.blk b ≠ none)
    (nod' : (L'.map Prod.fst).Nodup) (len' : L'.length ≤ 100) : RInv H' (fun b => G b ∨ Gn b) rx out E' sz fo' wr' L' := by
  refine ⟨row', hs, he, ho, .inl hR.gx, fun b hb => ?_, nod', len'⟩
  rcases hb with hb | hb
  · by_cases hbx : b = rx
    · rw [hbx, row']; simp
    · cases hx : H.blk b with
      | none => exact absurd hx (hR.dom b hb)
      | some x => rw [hoff _ _ hbx hx]; simp
  · exact hd b hb

theorem f34_ok {H : Heap} {G : Nat → Prop} {rx : Nat} {sz fo wr : Int} {L : Stored} (key : List Nat) (hF : Free H) (hR : Ref H G rx sz fo wr L) (Q : AV → Heap → Prop) (hQ : ∀ H', RPost H G rx sz fo wr (without key L) H' → Q (.bool (lk key L).isSome) H') : WF Try.prog 34 [.ptr rx 0 0 0, .str key] H Q := by
  obtain ⟨ev, E, hR⟩ := hR
  refine WF_body Try.func34 (by kernel_rfl) rfl Try.ntmps34 (by rw [Try.results34]) (of_decide_eq_true (by kernel_rfl)) ?_
  have hrow := hR.row
  simp only [refRow] at hrow
  simp (maxSteps := 1000000) only [sx, fx, implies_true, evBuildSlice, fillE, fillA, Nat.reduceMul, Nat.reducePow, AV.isCell, Nat.reduceSub, here, plain, laid, Nat.reduceBEq, evOp, avOf, avCell, strOf, UInt8.reduceToNat, evBin, evInt, evStr, evUn, Nat.reduceEqDiff, Nat.reduceLT, evResults, evResultsL, reduceCtorEq, AV.isUndef, AV.cells, Nat.reduceAdd, Heap.store, Nat.reduceLeDiff, eqOk, eqp54_p, hrow]
  refine callStep (f54_ok key hF hR _ fun out z H1 hU1 hF1 hO1 hz => ?_)
  obtain ⟨hlz, hcz⟩ := Found.cells hz
  have hrow1 := fun xs => hF1.hpU xs _ _ (hU1 _ _ hrow)
  have hU2 := fun xs => hU1.trans (hF1.hpU xs)
  have hnx : ∀ b, blkOf out = some b → b ≠ rx := fun b hb e => by
    have := (own_live hO1 b hb).2
    rw [e, hR.row] at this; cases this
  have htz : z.take 18 = z := List.take_of_length_le (by omega)
  have spz : ∀ w : List AV, w.length = 18 → splice w 0 z = z := fun w hw => splice_whole (by rw [hlz, hw])
  rcases own_shape hO1 with rfl | rfl | ⟨b, o, l, c, ex, g, rfl⟩
  all_goals
    simp (maxSteps := 1000000) only [sx, fx, implies_true, evBuildSlice, fillE, fillA, Nat.reduceMul, Nat.reducePow, AV.isCell, Nat.reduceSub, here, plain, laid, Nat.reduceBEq, evOp, avOf, avCell, strOf, UInt8.reduceToNat, evBin, evInt, evStr, evUn, Nat.reduceEqDiff, Nat.reduceLT, evResults, evResultsL, reduceCtorEq, AV.isUndef, AV.cells, Nat.reduceAdd, Heap.store, Nat.reduceLeDiff, hF1.at, hF1.hp, hlz, hcz, hrow1]
    refine hQ _ ⟨_, ⟨_, _, hR.new (fun b => blkOf _ = some b) (((Off.of_up (hU2 _)).trans (Off.set (B := fun b => b = rx) rfl _))) set_same (Holds.off (hO1.holds.up (hF1.hpU [Blk.row 106 18 [z] 0 0])) (Off.set (B := fun b => b = rx) rfl _) hnx)
      ((ER.off ((Off.of_up (hU2 [Blk.row 106 18 [z] 0 0])).trans (Off.set (B := fun b => b = rx) rfl _)) (fun b hb => hb.2) (ER.filter key hR.ents)).mono fun b hb => ⟨.inl hb.1, hb.2⟩) (fun b hb => ⟨.inr hb, hnx b hb⟩)
      (fun b hb => Heap.set_ne (by have := (own_live (hO1.up (hF1.hpU [Blk.row 106 18 [z] 0 0])) b hb).1; exact this)) (without_nodup hR.nod) (Nat.le_trans (without_len _ _) hR.len)⟩, fun b hb => hb.elim .inl (fun q => .inr (own_live hO1 b q).2),
      (Off.of_up (hU2 _)).trans (Off.set (B := fun b => b = rx) rfl _), (hF1.hpF _).set ((hF1.hpF _).lt (hrow1 _)) _⟩
end Go.Proofs.T
