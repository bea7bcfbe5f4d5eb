import Derived.Test.YtlllflmjpclobaaW8
set_option linter.unusedVariables false
set_option linter.unusedSimpArgs false
set_option linter.unusedVariables false
set_option linter.unusedSimpArgs false
set_option maxRecDepth 100000
namespace Go.Proofs.T
open Go.Ev

theorem own_at {P : Program} {G H : Heap} {ty esz : Nat} {v : AV} {L : List (List AV)} (hO : Own G H ty esz v L) {t e : TypeId} (ht : P.underlying t = some (.slice e)) (hs : szOf P e = some esz) {i : Nat} (hi : i < L.length) :
    ∃ b ex g ty' wgen, v = .slice b 0 L.length L.length ex g ∧ H.blk b = some (.row ty' esz L g wgen) ∧ wgen ≤ g ∧ G.blk b = none ∧ evIndexAddr P H t v (.int .i64 i) = some (.ptr b i 0 g) ∧
      ∀ cs : List AV, cs.length = esz → cs.all AV.isCell = true → Own G (H.set b (.row ty' esz (L.set i cs) g g)) ty esz v (L.set i cs) := by
  obtain ⟨h0, ⟨rfl, _⟩ | ⟨b, g, wgen, rfl, h2, h3, h4⟩ | ⟨b, g, ty', gen, wgen, rfl, h2, ⟨h3, rfl⟩, h4⟩⟩ := hO
  · simp at hi
  · refine ⟨b, false, g, ty, wgen, rfl, h2, h3, h4, by simp [evIndexAddr, ht, hs, Heap.eszOf, h2, h3, hi], fun cs h5 h6 => ⟨fun c hc => ?_, .inr (.inl ⟨b, g, g, by simp, set_same, Nat.le_refl _, h4⟩)⟩⟩
    rcases List.mem_or_eq_of_mem_set hc with hc | rfl
    · exact h0 c hc
    · exact ⟨h5, h6⟩
  · refine ⟨b, true, gen, ty', wgen, rfl, h2, h3, h4, by simp [evIndexAddr, ht, hs, Heap.eszOf, h2, h3, hi], fun cs h5 h6 => ⟨fun c hc => ?_, .inr (.inr ⟨b, gen, ty', gen, gen, by simp, set_same, ⟨Nat.le_refl _, rfl⟩, h4⟩)⟩⟩
    rcases List.mem_or_eq_of_mem_set hc with hc | rfl
    · exact h0 c hc
    · exact ⟨h5, h6⟩
theorem PR.dcn {H : Heap} {N : Nat} {p : PS} (h : PR H N p) : (p.cells.drop 17).take 1 = [.bool p.cn] := by
  obtain ⟨i0, i1, i2, i3, i4, a0, a1, a2, a3, a4, e, e'⟩ := h.split
  simp only [PS.cells, e, e']; rfl
def PS.wcn (p : PS) (b : Bool) : PS := { p with cn := b }
theorem PR.wcn {H : Heap} {N : Nat} {p : PS} (h : PR H N p) (b : Bool) : PR H N (p.wcn b) := h.chg p.nx p.st p.tk p.ti p.att b
theorem PR.scn {H : Heap} {N : Nat} {p : PS} (h : PR H N p) (b : Bool) : p.cells.set 17 (.bool b) = (p.wcn b).cells := by
  obtain ⟨i0, i1, i2, i3, i4, a0, a1, a2, a3, a4, e, e'⟩ := h.split
  simp only [PS.cells, PS.wcn, e, e']; rfl
theorem cells_of {n : Nat} {L : List (List AV)} (h : ∀ c ∈ L, c.length = n ∧ c.all AV.isCell = true) : ∀ c ∈ L, c.all AV.isCell = true := fun c hc => (h c hc).2
theorem StrL.cells {L : List (List AV)} (h : StrL L) : ∀ c ∈ L, c.all AV.isCell = true := fun c hc => by obtain ⟨s, rfl⟩ := h c hc; rfl
theorem UpdL.cells {L : List (List AV)} (h : ∀ c ∈ L, UpdR c) : ∀ c ∈ L, c.all AV.isCell = true := fun c hc => by obtain ⟨s, b, rfl⟩ := h c hc; rfl

set_option maxHeartbeats 8000000 in
theorem f62_ok {H B : Heap} {N : Nat} {p : PS} {e : ES} (hB : Up B H) (hpB : PR B N p) (heB : ER B e) (hN : N ≤ 60) (hk2 : e.k ≠ 2) (hk7 : e.k ≠ 7) (hF : Free H) (K : AV → Heap → Prop) (hK : ∀ r H', PRes (hsub H' H B) (N + 1) (Post e) r → Up H H' → Free H' → K r H') : WF Try.prog 62 [.agg p.cells, .agg e.cells] H K := by
  have hp := hpB.up hB
  have he := heB.up hB
  have post : ∀ q, Post e q := fun q => ⟨fun h => absurd h hk2, fun h => absurd h hk7⟩
  have hpl := hp.len
  have hpc := hp.cells
  have hel := he.len
  have pt : p.cells.take 24 = p.cells := List.take_of_length_le (by omega)
  have pd := hp.dr
  have e1 : (e.cells.drop 1).take 1 = [.int .i64 e.k] := rfl
  have e3 : (e.cells.drop 3).take 1 = [.int .i64 e.sq] := rfl
  have e4 : (e.cells.drop 4).take 1 = [.int .i64 e.rf] := rfl
  have e8 : (e.cells.drop 8).take 1 = [.str e.ky] := rfl
  have hnl := hp.nr
  refine WF_body Try.func62 (by kernel_rfl) rfl Try.ntmps62 (by rw [Try.results62]) (of_decide_eq_true (by kernel_rfl)) ?_
  simp (maxSteps := 1000000) only [sx, fx, icI, icS, icB, icN, icL, implies_true, evBuildSlice, fillE, fillA, here, plain, laid, evOp, avOf, avCell, strOf, evBin, evInt, evStr, evUn, evResults, evResultsL, AV.isUndef, AV.cells, Heap.store, wbool_off, after_scope, Nat.reduceMul, Nat.reducePow, Nat.reduceSub, Nat.reduceBEq, UInt8.reduceToNat, Nat.reduceEqDiff, Nat.reduceLT, reduceCtorEq, Nat.reduceAdd, Nat.reduceLeDiff, hF.at, hF.hp, hpl, hel, pt, e1, e3, e8]
  generalize hH1 : HP H [Blk.row 33 24 [p.cells] 0 0, Blk.row 63 24 [e.cells] 0 0, Blk.row 33 24 [z33] 0 0] = H1
  have hH1' := hH1
  unfold z33 at hH1'
  simp only [hH1']
  have hb0 : H1.blk H.next = some (.row 33 24 [p.cells] 0 0) := by rw [← hH1, hp_blk0]; rfl
  have hb1 : H1.blk (H.next + 1) = some (.row 63 24 [e.cells] 0 0) := by rw [← hH1, hp_blk]; rfl
  have hb2 : H1.blk (H.next + 2) = some (.row 33 24 [z33] 0 0) := by rw [← hH1, hp_blk]; rfl
  have hF1 : Free H1 := hH1 ▸ hF.hpF _
  have hU1 : Up H H1 := hH1 ▸ hF.hpU _
  refine callStep (f84_ok hF1 hpl pd (hp.hr.up hU1) (by omega) hp.cr _ (fun H2 hU2 hF2 => ?_) fun H2 hU2 hF2 => ?_)
  · have g0 := hU2 _ _ hb0
    have g1 := hU2 _ _ hb1
    have g2 := hU2 _ _ hb2
    have hUG := hU1.trans hU2
    have g2' := g2
    unfold z33 at g2'
    simp (maxSteps := 1000000) only [sx, fx, icI, icS, icB, icN, icL, implies_true, evBuildSlice, fillE, fillA, here, plain, laid, evOp, avOf, avCell, strOf, evBin, evInt, evStr, evUn, evResults, evResultsL, AV.isUndef, AV.cells, Heap.store, wbool_off, after_scope, Nat.reduceMul, Nat.reducePow, Nat.reduceSub, Nat.reduceBEq, UInt8.reduceToNat, Nat.reduceEqDiff, Nat.reduceLT, reduceCtorEq, Nat.reduceAdd, Nat.reduceLeDiff, g2']
    exact hK _ _ (PRes.err (by decide)) (hUG.set (hF _ (by omega)) _) (hF2.set (hF2.lt g2) _)
  · have g0 := hU2 _ _ hb0
    have g1 := hU2 _ _ hb1
    have g2 := hU2 _ _ hb2
    have hUG := hU1.trans hU2
    have g2' := g2
    unfold z33 at g2'
    have f0 : ∀ xs, (HP H2 xs).blk H.next = some (.row 33 24 [p.cells] 0 0) := fun xs => hF2.hpU xs _ _ g0
    simp (maxSteps := 1000000) only [sx, fx, icI, icS, icB, icN, icL, implies_true, evBuildSlice, fillE, fillA, here, plain, laid, evOp, avOf, avCell, strOf, evBin, evInt, evStr, evUn, evResults, evResultsL, AV.isUndef, AV.cells, Heap.store, wbool_off, after_scope, Nat.reduceMul, Nat.reducePow, Nat.reduceSub, Nat.reduceBEq, UInt8.reduceToNat, Nat.reduceEqDiff, Nat.reduceLT, reduceCtorEq, Nat.reduceAdd, Nat.reduceLeDiff, hF2.at, hF2.hp, f0, pd]
    refine opStep_append app24 (own_hp (G := H2) (k := 0) (n := 0) (L := []) hF2 (Up.refl _) rfl rfl (by simp)) (hF2.hpF _) (hF2.hpU _) (hp.hr.up (hUG.trans (hF2.hpU _))) hp.cr.cells (by simp only [maxBytes, List.length_cons, List.length_nil, List.nil_append, List.length_append]; omega) (by simp only [maxBytes, List.length_cons, List.length_nil, List.nil_append, List.length_append]; omega) (fun u H3 oO oU oF => ?_)
    have b1 := oU _ _ g1
    simp (maxSteps := 1000000) only [sx, fx, icI, icS, icB, icN, icL, implies_true, evBuildSlice, fillE, fillA, here, plain, laid, evOp, avOf, avCell, strOf, evBin, evInt, evStr, evUn, evResults, evResultsL, AV.isUndef, AV.cells, Heap.store, wbool_off, after_scope, Nat.reduceMul, Nat.reducePow, Nat.reduceSub, Nat.reduceBEq, UInt8.reduceToNat, Nat.reduceEqDiff, Nat.reduceLT, reduceCtorEq, Nat.reduceAdd, Nat.reduceLeDiff, b1, e8, hel, oF.at, oF.hp, hF2.at]
    refine opStep_append app24 (oO.up (oF.hpU _)) (oF.hpF _) (oU.trans (oF.hpU _)) (holds_hp (k := 0) (L := [[.str e.ky]]) rfl rfl (Nat.le_refl _) (by simp)) (fun cs hcs => by rw [List.mem_singleton] at hcs; rw [hcs]; rfl) (by simp only [maxBytes, List.length_cons, List.length_nil, List.nil_append, List.length_append]; omega) (by simp only [maxBytes, List.length_cons, List.length_nil, List.nil_append, List.length_append]; omega) (fun out H4 qO qU qF => ?_)
    have b0 := qU _ _ g0
    have b1 := qU _ _ g1
    have b2 := qU _ _ g2
    have c1 : ∀ x, (H4.set H.next x).blk (H.next + 1) = some (.row 63 24 [e.cells] 0 0) := fun x => by rw [Heap.set_other _ _ _ (by omega)]; exact b1
    simp only [List.nil_append] at qO
    have hoc := holds_cell qO.holds
    have fin := fun x y => two_set qO qU hUG hF qF (a := H.next) (b := H.next + 2) (by rw [g0]; simp) (by rw [g2]; simp) (Nat.le_refl _) (by omega) x y
    have hset := hp.sr out (p.reqs ++ [[.str e.ky]])
    have hLs : StrL (p.reqs ++ [[.str e.ky]]) := fun c hc => by
      rcases List.mem_append.1 hc with hc | hc
      · exact hp.cr c hc
      · simp at hc; subst hc; exact ⟨_, rfl⟩
    have hpr := fun x y => hpB.wr (M := N + 1) (sub_up hB (fin x y).1) (sub_own (fin x y).2.2.2) (by simp; omega) (by omega) hLs
    have hcn : ((p.wr out (p.reqs ++ [[.str e.ky]])).cells.drop 17).take 1 = [.bool p.cn] := (hpr (.row 33 24 [] 0 0) (.row 33 24 [] 0 0)).dcn
    have scn := fun b => (hpr (.row 33 24 [] 0 0) (.row 33 24 [] 0 0)).scn b
    have wl0 := (hpr (.row 33 24 [] 0 0) (.row 33 24 [] 0 0)).len
    have wl := fun b => ((hpr (.row 33 24 [] 0 0) (.row 33 24 [] 0 0)).wcn b).len
    have wc := fun b => ((hpr (.row 33 24 [] 0 0) (.row 33 24 [] 0 0)).wcn b).cells
    have wt : ∀ b, ((p.wr out (p.reqs ++ [[.str e.ky]])).wcn b).cells.take 24 = ((p.wr out (p.reqs ++ [[.str e.ky]])).wcn b).cells := fun b => List.take_of_length_le (by rw [wl]; omega)
    have hs33 : ∀ b, splice z33 0 ((p.wr out (p.reqs ++ [[.str e.ky]])).wcn b).cells = ((p.wr out (p.reqs ++ [[.str e.ky]])).wcn b).cells := fun b => by simp [splice, z33, wl]
    unfold z33 at b2 hs33
    cases hcc : p.cn with
    | true =>
      rw [hcc] at hcn
      rcases own_shape qO with rfl | rfl | ⟨sb, so, sl, sc, sx', sg, rfl⟩
      all_goals
        simp (maxSteps := 1000000) only [sx, fx, icI, icS, icB, icN, icL, implies_true, evBuildSlice, fillE, fillA, here, plain, laid, evOp, avOf, avCell, strOf, evBin, evInt, evStr, evUn, evResults, evResultsL, AV.isUndef, AV.cells, Heap.store, wbool_off, after_scope, Nat.reduceMul, Nat.reducePow, Nat.reduceSub, Nat.reduceBEq, UInt8.reduceToNat, Nat.reduceEqDiff, Nat.reduceLT, reduceCtorEq, Nat.reduceAdd, Nat.reduceLeDiff, b0, b1, b2, c1, e1, hel, hpl, set_02, hoc, hset, hcn, scn, wl0, wl, wc, wt, hs33]
        exact hK _ _ (PRes.ok ((hpr _ _).wcn true) (post _)) (fin _ _).1 (fin _ _).2.1
    | false =>
      rw [hcc] at hcn
      rcases own_shape qO with rfl | rfl | ⟨sb, so, sl, sc, sx', sg, rfl⟩
      all_goals
        simp (maxSteps := 1000000) only [sx, fx, icI, icS, icB, icN, icL, implies_true, evBuildSlice, fillE, fillA, here, plain, laid, evOp, avOf, avCell, strOf, evBin, evInt, evStr, evUn, evResults, evResultsL, AV.isUndef, AV.cells, Heap.store, wbool_off, after_scope, Nat.reduceMul, Nat.reducePow, Nat.reduceSub, Nat.reduceBEq, UInt8.reduceToNat, Nat.reduceEqDiff, Nat.reduceLT, reduceCtorEq, Nat.reduceAdd, Nat.reduceLeDiff, b0, b1, b2, c1, e1, hel, hpl, set_02, hoc, hset, hcn, scn, wl0, wl, wc, wt, hs33]
        exact hK _ _ (PRes.ok ((hpr _ _).wcn _) (post _)) (fin _ _).1 (fin _ _).2.1
end Go.Proofs.T
