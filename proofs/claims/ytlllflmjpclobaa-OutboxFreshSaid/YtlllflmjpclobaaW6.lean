import Derived.Test.YtlllflmjpclobaaW3
set_option linter.unusedVariables false
set_option linter.unusedSimpArgs false
set_option linter.unusedVariables false
set_option linter.unusedSimpArgs false
set_option maxRecDepth 100000
namespace Go.Proofs.T
open Go.Ev
def PS.wt (p : PS) (v : AV) (L : List (List AV)) : PS := { p with vt := v, timers := L }
def PS.wk (p : PS) (v : AV) (L : List (List AV)) : PS := { p with vk := v, kids := L }
def PS.ws (p : PS) (v : AV) (L : List (List AV)) : PS := { p with vs := v, sends := L }
def PS.wu (p : PS) (v : AV) (L : List (List AV)) : PS := { p with vu := v, upds := L }
def PS.wr (p : PS) (v : AV) (L : List (List AV)) : PS := { p with vr := v, reqs := L }

theorem PR.split {H : Heap} {N : Nat} {p : PS} (h : PR H N p) : ∃ i0 i1 i2 i3 i4 a0 a1 a2 a3 a4, p.inn = [i0, i1, i2, i3, i4] ∧ p.atr = [a0, a1, a2, a3, a4] := by
  obtain ⟨n, hi⟩ := h.inn
  obtain ⟨i0, i1, i2, i3, i4, e⟩ := five hi.len
  obtain ⟨a0, a1, a2, a3, a4, e'⟩ := five h.atr.len
  exact ⟨i0, i1, i2, i3, i4, a0, a1, a2, a3, a4, e, e'⟩
theorem PR.da {H : Heap} {N : Nat} {p : PS} (h : PR H N p) : (p.cells.drop 18).take 1 = [p.va] := by
  obtain ⟨i0, i1, i2, i3, i4, a0, a1, a2, a3, a4, e, e'⟩ := h.split
  simp only [PS.cells, e, e']; rfl
theorem PR.sa {H : Heap} {N : Nat} {p : PS} (h : PR H N p) (v : AV) (L : List (List AV)) : p.cells.set 18 v = (p.wa v L).cells := by
  obtain ⟨i0, i1, i2, i3, i4, a0, a1, a2, a3, a4, e, e'⟩ := h.split
  simp only [PS.cells, PS.wa, e, e']; rfl
theorem PR.dt {H : Heap} {N : Nat} {p : PS} (h : PR H N p) : (p.cells.drop 19).take 1 = [p.vt] := by
  obtain ⟨i0, i1, i2, i3, i4, a0, a1, a2, a3, a4, e, e'⟩ := h.split
  simp only [PS.cells, e, e']; rfl
theorem PR.st {H : Heap} {N : Nat} {p : PS} (h : PR H N p) (v : AV) (L : List (List AV)) : p.cells.set 19 v = (p.wt v L).cells := by
  obtain ⟨i0, i1, i2, i3, i4, a0, a1, a2, a3, a4, e, e'⟩ := h.split
  simp only [PS.cells, PS.wt, e, e']; rfl
theorem PR.dk {H : Heap} {N : Nat} {p : PS} (h : PR H N p) : (p.cells.drop 20).take 1 = [p.vk] := by
  obtain ⟨i0, i1, i2, i3, i4, a0, a1, a2, a3, a4, e, e'⟩ := h.split
  simp only [PS.cells, e, e']; rfl
theorem PR.sk {H : Heap} {N : Nat} {p : PS} (h : PR H N p) (v : AV) (L : List (List AV)) : p.cells.set 20 v = (p.wk v L).cells := by
  obtain ⟨i0, i1, i2, i3, i4, a0, a1, a2, a3, a4, e, e'⟩ := h.split
  simp only [PS.cells, PS.wk, e, e']; rfl
theorem PR.ds {H : Heap} {N : Nat} {p : PS} (h : PR H N p) : (p.cells.drop 21).take 1 = [p.vs] := by
  obtain ⟨i0, i1, i2, i3, i4, a0, a1, a2, a3, a4, e, e'⟩ := h.split
  simp only [PS.cells, e, e']; rfl
theorem PR.ss {H : Heap} {N : Nat} {p : PS} (h : PR H N p) (v : AV) (L : List (List AV)) : p.cells.set 21 v = (p.ws v L).cells := by
  obtain ⟨i0, i1, i2, i3, i4, a0, a1, a2, a3, a4, e, e'⟩ := h.split
  simp only [PS.cells, PS.ws, e, e']; rfl
theorem PR.du {H : Heap} {N : Nat} {p : PS} (h : PR H N p) : (p.cells.drop 22).take 1 = [p.vu] := by
  obtain ⟨i0, i1, i2, i3, i4, a0, a1, a2, a3, a4, e, e'⟩ := h.split
  simp only [PS.cells, e, e']; rfl
theorem PR.su {H : Heap} {N : Nat} {p : PS} (h : PR H N p) (v : AV) (L : List (List AV)) : p.cells.set 22 v = (p.wu v L).cells := by
  obtain ⟨i0, i1, i2, i3, i4, a0, a1, a2, a3, a4, e, e'⟩ := h.split
  simp only [PS.cells, PS.wu, e, e']; rfl
theorem PR.dr {H : Heap} {N : Nat} {p : PS} (h : PR H N p) : (p.cells.drop 23).take 1 = [p.vr] := by
  obtain ⟨i0, i1, i2, i3, i4, a0, a1, a2, a3, a4, e, e'⟩ := h.split
  simp only [PS.cells, e, e']; rfl
theorem PR.sr {H : Heap} {N : Nat} {p : PS} (h : PR H N p) (v : AV) (L : List (List AV)) : p.cells.set 23 v = (p.wr v L).cells := by
  obtain ⟨i0, i1, i2, i3, i4, a0, a1, a2, a3, a4, e, e'⟩ := h.split
  simp only [PS.cells, PS.wr, e, e']; rfl
theorem PR.wt {H G : Heap} {N M : Nat} {p : PS} (h : PR H N p) (hu : Up H G) {v : AV} {L : List (List AV)} (hv : Holds G 3 v L) (hl : L.length ≤ M) (hn : N ≤ M) (hc : ∀ c ∈ L, TimR c) : PR G M (p.wt v L) :=
  have h := (h.up hu).mono hn
  ⟨h.inn, h.atr, h.ha, hv, h.hk, h.hs, h.hu, h.hr, h.na, hl, h.nk, h.ns, h.nu, h.nr, h.ca, hc, h.ck, h.cs, h.cu, h.cr, h.sq0, h.sqN⟩
theorem PR.wk {H G : Heap} {N M : Nat} {p : PS} (h : PR H N p) (hu : Up H G) {v : AV} {L : List (List AV)} (hv : Holds G 6 v L) (hl : L.length ≤ M) (hn : N ≤ M) (hc : ∀ c ∈ L, KidR c) : PR G M (p.wk v L) :=
  have h := (h.up hu).mono hn
  ⟨h.inn, h.atr, h.ha, h.ht, hv, h.hs, h.hu, h.hr, h.na, h.nt, hl, h.ns, h.nu, h.nr, h.ca, h.ct, hc, h.cs, h.cu, h.cr, h.sq0, h.sqN⟩
theorem PR.ws {H G : Heap} {N M : Nat} {p : PS} (h : PR H N p) (hu : Up H G) {v : AV} {L : List (List AV)} (hv : Holds G 4 v L) (hl : L.length ≤ M) (hn : N ≤ M) (hc : ∀ c ∈ L, SndR c) : PR G M (p.ws v L) :=
  have h := (h.up hu).mono hn
  ⟨h.inn, h.atr, h.ha, h.ht, h.hk, hv, h.hu, h.hr, h.na, h.nt, h.nk, hl, h.nu, h.nr, h.ca, h.ct, h.ck, hc, h.cu, h.cr, h.sq0, h.sqN⟩
theorem PR.wu {H G : Heap} {N M : Nat} {p : PS} (h : PR H N p) (hu : Up H G) {v : AV} {L : List (List AV)} (hv : Holds G 2 v L) (hl : L.length ≤ M) (hn : N ≤ M) (hc : ∀ c ∈ L, UpdR c) : PR G M (p.wu v L) :=
  have h := (h.up hu).mono hn
  ⟨h.inn, h.atr, h.ha, h.ht, h.hk, h.hs, hv, h.hr, h.na, h.nt, h.nk, h.ns, hl, h.nr, h.ca, h.ct, h.ck, h.cs, hc, h.cr, h.sq0, h.sqN⟩
theorem PR.wr {H G : Heap} {N M : Nat} {p : PS} (h : PR H N p) (hu : Up H G) {v : AV} {L : List (List AV)} (hv : Holds G 1 v L) (hl : L.length ≤ M) (hn : N ≤ M) (hc : StrL L) : PR G M (p.wr v L) :=
  have h := (h.up hu).mono hn
  ⟨h.inn, h.atr, h.ha, h.ht, h.hk, h.hs, h.hu, hv, h.na, h.nt, h.nk, h.ns, h.nu, hl, h.ca, h.ct, h.ck, h.cs, h.cu, hc, h.sq0, h.sqN⟩

def zPS : PS := ⟨0, 0, 0, 0, 0, 0, [], zv, zv, false, .nilslice, .nilslice, .nilslice, .nilslice, .nilslice, .nilslice, [], [], [], [], [], []⟩
theorem pr_zero (H : Heap) (N : Nat) : PR H N zPS where
  inn := ⟨1, vr_zv H⟩
  atr := ⟨0, 0, [], .nilslice, .nilslice, [], [], rfl, Holds.nil, Holds.nil, ⟨0, by simp⟩, by simp [StrL], rfl, by simp⟩
  ha := Holds.nil
  ht := Holds.nil
  hk := Holds.nil
  hs := Holds.nil
  hu := Holds.nil
  hr := Holds.nil
  na := by simp [zPS]
  nt := by simp [zPS]
  nk := by simp [zPS]
  ns := by simp [zPS]
  nu := by simp [zPS]
  nr := by simp [zPS]
  ca := by simp [zPS]
  ct := by simp [zPS]
  ck := by simp [zPS]
  cs := by simp [zPS]
  cu := by simp [zPS]
  cr := by simp [zPS, StrL]
  sq0 := by simp [zPS]
  sqN := by simp [zPS]
theorem ActR.f1 {H : Heap} {sq : Int} {c : List AV} (h : ActR H sq c) : ∃ ev, (c.drop 1).take 1 = [.int .i64 ev] := by
  obtain ⟨s, ev, nm, d, o, x5, x6, x7, x8, x9, x10, x11, cn, dt, fl, rfl, _⟩ := h
  exact ⟨ev, rfl⟩
theorem TimR.f1 {c : List AV} (h : TimR c) : ∃ ev, (c.drop 1).take 1 = [.int .i64 ev] := by obtain ⟨a, b, d, rfl⟩ := h; exact ⟨b, rfl⟩
theorem KidR.f1 {c : List AV} (h : KidR c) : ∃ ev, (c.drop 1).take 1 = [.int .i64 ev] := by obtain ⟨a, b, s, t, d, u, rfl⟩ := h; exact ⟨b, rfl⟩
theorem SndR.f1 {c : List AV} (h : SndR c) : ∃ ev, (c.drop 1).take 1 = [.int .i64 ev] := by obtain ⟨a, b, s, t, rfl⟩ := h; exact ⟨b, rfl⟩
theorem ActR.cancel {H : Heap} {sq : Int} {c : List AV} (h : ActR H sq c) : ActR H sq (c.set 25 (.bool true)) := by
  obtain ⟨s, ev, nm, d, o, x5, x6, x7, x8, x9, x10, x11, cn, dt, fl, rfl, ⟨n, hd⟩, ho, hdt, hs⟩ := h
  obtain ⟨d0, d1, d2, d3, d4, rfl⟩ := five hd.vr.len
  obtain ⟨o0, o1, o2, o3, o4, o5, o6, o7, o8, o9, rfl⟩ := ten ho.1.len
  exact ⟨s, ev, nm, _, _, x5, x6, x7, x8, x9, x10, x11, true, dt, fl, rfl, ⟨n, hd⟩, ho, hdt, hs⟩

set_option maxHeartbeats 8000000 in
theorem f58_ok {H B : Heap} {N : Nat} {p : PS} {e : ES} (hB : Up B H) (hpB : PR B N p) (heB : ER B e) (hN : N ≤ 60) (hk2 : e.k ≠ 2) (hk7 : e.k ≠ 7) (hF : Free H) (K : AV → Heap → Prop) (hK : ∀ r H', PRes (hsub H' H B) (N + 1) (Post e) r → Up H H' → Free H' → K r H') : WF Try.prog 58 [.agg p.cells, .agg e.cells] H K := by
  have hp := hpB.up hB
  have he := heB.up hB
  have post : ∀ q, Post e q := fun q => ⟨fun h => absurd h hk2, fun h => absurd h hk7⟩
  have hpl := hp.len
  have hpc := hp.cells
  have hel := he.len
  have pt : p.cells.take 24 = p.cells := List.take_of_length_le (by omega)
  have pd := hp.dt
  have e1 : (e.cells.drop 1).take 1 = [.int .i64 e.k] := rfl
  have e3 : (e.cells.drop 3).take 1 = [.int .i64 e.sq] := rfl
  have e4 : (e.cells.drop 4).take 1 = [.int .i64 e.rf] := rfl
  have hnl := hp.nt
  have hels : ∀ c ∈ p.timers, ElB 3 c := fun c hc => (hp.ct c hc).el
  refine WF_body Try.func58 (by kernel_rfl) rfl Try.ntmps58 (by rw [Try.results58]) (of_decide_eq_true (by kernel_rfl)) ?_
  simp (maxSteps := 1000000) only [sx, fx, icI, icS, icB, icN, icL, implies_true, evBuildSlice, fillE, fillA, here, plain, laid, evOp, avOf, avCell, strOf, evBin, evInt, evStr, evUn, evResults, evResultsL, AV.isUndef, AV.cells, Heap.store, wbool_off, after_scope, Nat.reduceMul, Nat.reducePow, Nat.reduceSub, Nat.reduceBEq, UInt8.reduceToNat, Nat.reduceEqDiff, Nat.reduceLT, reduceCtorEq, Nat.reduceAdd, Nat.reduceLeDiff, hF.at, hF.hp, hpl, hel, pt, e3]
  generalize hH1 : HP H [Blk.row 33 24 [p.cells] 0 0, Blk.row 63 24 [e.cells] 0 0, Blk.row 33 24 [z33] 0 0] = H1
  have hH1' := hH1
  unfold z33 at hH1'
  simp only [hH1']
  have hb0 : H1.blk H.next = some (.row 33 24 [p.cells] 0 0) := by rw [← hH1, hp_blk0]; rfl
  have hb1 : H1.blk (H.next + 1) = some (.row 63 24 [e.cells] 0 0) := by rw [← hH1, hp_blk]; rfl
  have hb2 : H1.blk (H.next + 2) = some (.row 33 24 [z33] 0 0) := by rw [← hH1, hp_blk]; rfl
  have hF1 : Free H1 := hH1 ▸ hF.hpF _
  have hU1 : Up H H1 := hH1 ▸ hF.hpU _
  refine callStep (f80_ok hF1 hpl pd (hp.ht.up hU1) (by omega) hels _ (fun c H2 hfind hU2 hF2 => ?_) fun H2 hfind hU2 hF2 => ?_)
  · have hcm := List.mem_of_find?_eq_some hfind
    obtain ⟨cl, cc, c0⟩ := hels c hcm
    obtain ⟨cev, c1⟩ := (hp.ct c hcm).f1
    have ct : c.take 3 = c := List.take_of_length_le (by omega)
    have hsp : splice z107 0 c = c := by simp [splice, z107, cl]
    unfold z107 at hsp
    generalize hG : HP H2 [Blk.row 107 3 [c] 0 0] = G
    have hGF : Free G := hG ▸ hF2.hpF _
    have hG2 : Up H2 G := hG ▸ hF2.hpU _
    have hUG : Up H G := hU1.trans (hU2.trans hG2)
    have g0 := hG2 _ _ (hU2 _ _ hb0)
    have g1 := hG2 _ _ (hU2 _ _ hb1)
    have g2 := hG2 _ _ (hU2 _ _ hb2)
    have g3 : G.blk H2.next = some (.row 107 3 [c] 0 0) := by rw [← hG, hp_blk0]; rfl
    cases hx : (cev != e.rf) with
    | true =>
      have g2' := g2
      unfold z33 at g2'
      simp (maxSteps := 1000000) only [sx, fx, icI, icS, icB, icN, icL, implies_true, evBuildSlice, fillE, fillA, here, plain, laid, evOp, avOf, avCell, strOf, evBin, evInt, evStr, evUn, evResults, evResultsL, AV.isUndef, AV.cells, Heap.store, wbool_off, after_scope, Nat.reduceMul, Nat.reducePow, Nat.reduceSub, Nat.reduceBEq, UInt8.reduceToNat, Nat.reduceEqDiff, Nat.reduceLT, reduceCtorEq, Nat.reduceAdd, Nat.reduceLeDiff, hF2.at, hF2.hp, cl, cc, ct, c1, hsp, hG, g0, g1, g3, e3, e4, hel, hx, g2']
      exact hK _ _ (PRes.err (by decide)) (hUG.set (hF _ (by omega)) _) (hGF.set (hGF.lt g2) _)
    | false =>
    simp (maxSteps := 1000000) only [sx, fx, icI, icS, icB, icN, icL, implies_true, evBuildSlice, fillE, fillA, here, plain, laid, evOp, avOf, avCell, strOf, evBin, evInt, evStr, evUn, evResults, evResultsL, AV.isUndef, AV.cells, Heap.store, wbool_off, after_scope, Nat.reduceMul, Nat.reducePow, Nat.reduceSub, Nat.reduceBEq, UInt8.reduceToNat, Nat.reduceEqDiff, Nat.reduceLT, reduceCtorEq, Nat.reduceAdd, Nat.reduceLeDiff, hF2.at, hF2.hp, cl, cc, ct, c1, hsp, hG, g0, g1, g3, e1, e3, e4, hel, hx]
    refine loopStep' (fun env H' => ∃ (i : Nat) (out : AV) (L : List (List AV)), i ≤ p.timers.length ∧ env.at (.tmp 9) = .int .i64 i ∧ env.at (.tmp 8) = out ∧ env.at (.tmp 2) = .ptr H.next 0 0 0 ∧ env.at (.tmp 3) = .ptr (H.next + 1) 0 0 0 ∧ env.at (.tmp 4) = .ptr (H.next + 2) 0 0 0 ∧
        L.length ≤ i ∧ (∀ c ∈ L, c ∈ p.timers) ∧ Own G H' 107 3 out L ∧ Up G H' ∧ Free H')
      (fun env H' => match env.at (.tmp 9) with | .int _ i => ((p.timers.length : Int) - i).toNat | _ => 0) ?_ ?_
    · exact ⟨0, .nilslice, [], Nat.zero_le _, by simp only [sx, fx, icI, icS, icB, icN, icL, implies_true, evBuildSlice, fillE, fillA, here, plain, laid, evOp, avOf, avCell, strOf, evBin, evInt, evStr, evUn, evResults, evResultsL, AV.isUndef, AV.cells, Heap.store, wbool_off, after_scope, Nat.reduceMul, Nat.reducePow, Nat.reduceSub, Nat.reduceBEq, UInt8.reduceToNat, Nat.reduceEqDiff, Nat.reduceLT, reduceCtorEq, Nat.reduceAdd, Nat.reduceLeDiff]; rfl, by simp only [sx, fx, icI, icS, icB, icN, icL, implies_true, evBuildSlice, fillE, fillA, here, plain, laid, evOp, avOf, avCell, strOf, evBin, evInt, evStr, evUn, evResults, evResultsL, AV.isUndef, AV.cells, Heap.store, wbool_off, after_scope, Nat.reduceMul, Nat.reducePow, Nat.reduceSub, Nat.reduceBEq, UInt8.reduceToNat, Nat.reduceEqDiff, Nat.reduceLT, reduceCtorEq, Nat.reduceAdd, Nat.reduceLeDiff], by simp only [sx, fx, icI, icS, icB, icN, icL, implies_true, evBuildSlice, fillE, fillA, here, plain, laid, evOp, avOf, avCell, strOf, evBin, evInt, evStr, evUn, evResults, evResultsL, AV.isUndef, AV.cells, Heap.store, wbool_off, after_scope, Nat.reduceMul, Nat.reducePow, Nat.reduceSub, Nat.reduceBEq, UInt8.reduceToNat, Nat.reduceEqDiff, Nat.reduceLT, reduceCtorEq, Nat.reduceAdd, Nat.reduceLeDiff], by simp only [sx, fx, icI, icS, icB, icN, icL, implies_true, evBuildSlice, fillE, fillA, here, plain, laid, evOp, avOf, avCell, strOf, evBin, evInt, evStr, evUn, evResults, evResultsL, AV.isUndef, AV.cells, Heap.store, wbool_off, after_scope, Nat.reduceMul, Nat.reducePow, Nat.reduceSub, Nat.reduceBEq, UInt8.reduceToNat, Nat.reduceEqDiff, Nat.reduceLT, reduceCtorEq, Nat.reduceAdd, Nat.reduceLeDiff], by simp only [sx, fx, icI, icS, icB, icN, icL, implies_true, evBuildSlice, fillE, fillA, here, plain, laid, evOp, avOf, avCell, strOf, evBin, evInt, evStr, evUn, evResults, evResultsL, AV.isUndef, AV.cells, Heap.store, wbool_off, after_scope, Nat.reduceMul, Nat.reducePow, Nat.reduceSub, Nat.reduceBEq, UInt8.reduceToNat, Nat.reduceEqDiff, Nat.reduceLT, reduceCtorEq, Nat.reduceAdd, Nat.reduceLeDiff], Nat.le_refl _, by simp, Own.nil, Up.refl _, hGF⟩
    · rintro env H' ⟨i, out, L, hi, ei, eo, t2, t3, t4, hLl, hLa, hO, hU', hF'⟩
      have b0 := hU' _ _ g0
      have b1 := hU' _ _ g1
      have b2 := hU' _ _ g2
      have hv' := hp.ht.up (hUG.trans hU')
      by_cases hlt : i < p.timers.length
      · obtain ⟨x, hx⟩ : ∃ x, p.timers[i]? = some x := ⟨_, List.getElem?_eq_getElem hlt⟩
        have hxm := List.mem_of_getElem? hx
        obtain ⟨xl, xc, x0⟩ := hels x hxm
        have xt : x.take 3 = x := List.take_of_length_le (by omega)
        have hw := wrap_succ (i := i) (by omega)
        simp (maxSteps := 1000000) only [sx, fx, icI, icS, icB, icN, icL, implies_true, evBuildSlice, fillE, fillA, here, plain, laid, evOp, avOf, avCell, strOf, evBin, evInt, evStr, evUn, evResults, evResultsL, AV.isUndef, AV.cells, Heap.store, wbool_off, after_scope, Nat.reduceMul, Nat.reducePow, Nat.reduceSub, Nat.reduceBEq, UInt8.reduceToNat, Nat.reduceEqDiff, Nat.reduceLT, reduceCtorEq, Nat.reduceAdd, Nat.reduceLeDiff, ei, eo, t2, t3, t4, b0, b1, pd, hv'.lenAt und28, lt_true hlt]
        refine drawStep [] [0, 1, 2, 3, 4, 5, 6, 7, 8] _ rfl (by kernel_rfl) ?_
        rcases index2 hv' und28 sz107 .i64 hx with hpx | ⟨b', j, g, ty, els, gen, wgen, hpx, hbk, hwg, hel'⟩
        · cases hs : (seqOf x != e.sq) with
          | true =>
            simp (maxSteps := 1000000) only [sx, fx, icI, icS, icB, icN, icL, implies_true, evBuildSlice, fillE, fillA, here, plain, laid, evOp, avOf, avCell, strOf, evBin, evInt, evStr, evUn, evResults, evResultsL, AV.isUndef, AV.cells, Heap.store, wbool_off, after_scope, Nat.reduceMul, Nat.reducePow, Nat.reduceSub, Nat.reduceBEq, UInt8.reduceToNat, Nat.reduceEqDiff, Nat.reduceLT, reduceCtorEq, Nat.reduceAdd, Nat.reduceLeDiff, ei, eo, t2, t3, t4, b0, b1, pd, hpx, x0, xl, e3, hel, hs, hF'.at, hF'.hp, xt, xc]
            refine opStep_append app28 (hO.up (hF'.hpU _)) (hF'.hpF _) (hU'.trans (hF'.hpU _)) (holds_hp (k := 0) (L := [x]) rfl rfl (Nat.le_refl _) (by simp [xl])) (fun cs hcs => by rw [List.mem_singleton] at hcs; rw [hcs]; exact xc) (by simp only [maxBytes, List.length_cons, List.length_nil]; omega) (by simp only [maxBytes, List.length_cons, List.length_nil]; omega) (fun u K' hO4 hU4 hF4 => ?_)
            simp (maxSteps := 1000000) only [sx, fx, icI, icS, icB, icN, icL, implies_true, evBuildSlice, fillE, fillA, here, plain, laid, evOp, avOf, avCell, strOf, evBin, evInt, evStr, evUn, evResults, evResultsL, AV.isUndef, AV.cells, Heap.store, wbool_off, after_scope, Nat.reduceMul, Nat.reducePow, Nat.reduceSub, Nat.reduceBEq, UInt8.reduceToNat, Nat.reduceEqDiff, Nat.reduceLT, reduceCtorEq, Nat.reduceAdd, Nat.reduceLeDiff, ei, eo, t2, t3, t4, hw]
            refine ⟨⟨i + 1, u, L ++ [x], hlt, rfl, rfl, by simp; omega, fun c hc => ?_, hO4, hU4, hF4⟩, ?_⟩
            · rcases List.mem_append.1 hc with hc | hc
              · exact hLa c hc
              · simp at hc; subst hc; exact hxm
            · omega
          | false =>
            simp (maxSteps := 1000000) only [sx, fx, icI, icS, icB, icN, icL, implies_true, evBuildSlice, fillE, fillA, here, plain, laid, evOp, avOf, avCell, strOf, evBin, evInt, evStr, evUn, evResults, evResultsL, AV.isUndef, AV.cells, Heap.store, wbool_off, after_scope, Nat.reduceMul, Nat.reducePow, Nat.reduceSub, Nat.reduceBEq, UInt8.reduceToNat, Nat.reduceEqDiff, Nat.reduceLT, reduceCtorEq, Nat.reduceAdd, Nat.reduceLeDiff, ei, eo, t2, t3, t4, b0, b1, pd, hpx, x0, xl, e3, hel, hs, hw]
            refine ⟨⟨i + 1, out, L, hlt, rfl, rfl, by omega, hLa, hO, hU', hF'⟩, ?_⟩
            omega
        · cases hs : (seqOf x != e.sq) with
          | true =>
            simp (maxSteps := 1000000) only [sx, fx, icI, icS, icB, icN, icL, implies_true, evBuildSlice, fillE, fillA, here, plain, laid, evOp, avOf, avCell, strOf, evBin, evInt, evStr, evUn, evResults, evResultsL, AV.isUndef, AV.cells, Heap.store, wbool_off, after_scope, Nat.reduceMul, Nat.reducePow, Nat.reduceSub, Nat.reduceBEq, UInt8.reduceToNat, Nat.reduceEqDiff, Nat.reduceLT, reduceCtorEq, Nat.reduceAdd, Nat.reduceLeDiff, ei, eo, t2, t3, t4, b0, b1, pd, hpx, hbk, hwg, hel', x0, xl, e3, hel, hs, hF'.at, hF'.hp, xt, xc]
            refine opStep_append app28 (hO.up (hF'.hpU _)) (hF'.hpF _) (hU'.trans (hF'.hpU _)) (holds_hp (k := 0) (L := [x]) rfl rfl (Nat.le_refl _) (by simp [xl])) (fun cs hcs => by rw [List.mem_singleton] at hcs; rw [hcs]; exact xc) (by simp only [maxBytes, List.length_cons, List.length_nil]; omega) (by simp only [maxBytes, List.length_cons, List.length_nil]; omega) (fun u K' hO4 hU4 hF4 => ?_)
            simp (maxSteps := 1000000) only [sx, fx, icI, icS, icB, icN, icL, implies_true, evBuildSlice, fillE, fillA, here, plain, laid, evOp, avOf, avCell, strOf, evBin, evInt, evStr, evUn, evResults, evResultsL, AV.isUndef, AV.cells, Heap.store, wbool_off, after_scope, Nat.reduceMul, Nat.reducePow, Nat.reduceSub, Nat.reduceBEq, UInt8.reduceToNat, Nat.reduceEqDiff, Nat.reduceLT, reduceCtorEq, Nat.reduceAdd, Nat.reduceLeDiff, ei, eo, t2, t3, t4, hw]
            refine ⟨⟨i + 1, u, L ++ [x], hlt, rfl, rfl, by simp; omega, fun c hc => ?_, hO4, hU4, hF4⟩, ?_⟩
            · rcases List.mem_append.1 hc with hc | hc
              · exact hLa c hc
              · simp at hc; subst hc; exact hxm
            · omega
          | false =>
            simp (maxSteps := 1000000) only [sx, fx, icI, icS, icB, icN, icL, implies_true, evBuildSlice, fillE, fillA, here, plain, laid, evOp, avOf, avCell, strOf, evBin, evInt, evStr, evUn, evResults, evResultsL, AV.isUndef, AV.cells, Heap.store, wbool_off, after_scope, Nat.reduceMul, Nat.reducePow, Nat.reduceSub, Nat.reduceBEq, UInt8.reduceToNat, Nat.reduceEqDiff, Nat.reduceLT, reduceCtorEq, Nat.reduceAdd, Nat.reduceLeDiff, ei, eo, t2, t3, t4, b0, b1, pd, hpx, hbk, hwg, hel', x0, xl, e3, hel, hs, hw]
            refine ⟨⟨i + 1, out, L, hlt, rfl, rfl, by omega, hLa, hO, hU', hF'⟩, ?_⟩
            omega
      · have hoc := holds_cell hO.holds
        have fin := fun x y => two_set hO hU' hUG hF hF' (a := H.next) (b := H.next + 2) (by rw [g0]; simp) (by rw [g2]; simp) (Nat.le_refl _) (by omega) x y
        have hset := hp.st out L
        have hpr := hpB.wt (M := N + 1) (sub_up hB (fin (.row 33 24 [] 0 0) (.row 33 24 [] 0 0)).1) (sub_own (fin (.row 33 24 [] 0 0) (.row 33 24 [] 0 0)).2.2.2) (by omega) (by omega) (fun c hc => hpB.ct c (hLa c hc))
        have wl := hpr.len
        have wc := hpr.cells
        have wt : (p.wt out L).cells.take 24 = (p.wt out L).cells := List.take_of_length_le (by omega)
        have hs33 : splice z33 0 (p.wt out L).cells = (p.wt out L).cells := by simp [splice, z33, wl]
        unfold z33 at b2 hs33
        rcases own_shape hO with rfl | rfl | ⟨sb, so, sl, sc, sx', sg, rfl⟩
        all_goals
          simp (maxSteps := 1000000) only [sx, fx, icI, icS, icB, icN, icL, implies_true, evBuildSlice, fillE, fillA, here, plain, laid, evOp, avOf, avCell, strOf, evBin, evInt, evStr, evUn, evResults, evResultsL, AV.isUndef, AV.cells, Heap.store, wbool_off, after_scope, Nat.reduceMul, Nat.reducePow, Nat.reduceSub, Nat.reduceBEq, UInt8.reduceToNat, Nat.reduceEqDiff, Nat.reduceLT, reduceCtorEq, Nat.reduceAdd, Nat.reduceLeDiff, ei, eo, t2, t3, t4, b0, b2, pd, hpl, set_02, hv'.lenAt und28, lt_false hlt, hoc, hset, wl, wc, wt, hs33]
          exact hK _ _ (PRes.ok (hpB.wt (M := N + 1) (sub_up hB (fin _ _).1) (sub_own (fin _ _).2.2.2) (by omega) (by omega) (fun c hc => hpB.ct c (hLa c hc))) (post _)) (fin _ _).1 (fin _ _).2.1
  · have hb22 := hU2 _ _ hb2
    have hU12 := hU1.trans hU2
    have hb23 : ∀ xs, (HP H2 xs).blk (H.next + 2) = some (.row 33 24 [z33] 0 0) := fun xs => hF2.hpU xs _ _ hb22
    unfold z33 at hb23
    simp (maxSteps := 1000000) only [z107, sx, fx, icI, icS, icB, icN, icL, implies_true, evBuildSlice, fillE, fillA, here, plain, laid, evOp, avOf, avCell, strOf, evBin, evInt, evStr, evUn, evResults, evResultsL, AV.isUndef, AV.cells, Heap.store, wbool_off, after_scope, Nat.reduceMul, Nat.reducePow, Nat.reduceSub, Nat.reduceBEq, UInt8.reduceToNat, Nat.reduceEqDiff, Nat.reduceLT, reduceCtorEq, Nat.reduceAdd, Nat.reduceLeDiff, hF2.at, hF2.hp, hb23]
    exact hK _ _ (PRes.err (by decide)) ((hU12.trans (hF2.hpU _)).set (hF _ (by omega)) _) ((hF2.hpF _).set ((hF2.hpF _).lt (hb23 _)) _)

set_option maxHeartbeats 8000000 in
theorem f60_ok {H B : Heap} {N : Nat} {p : PS} {e : ES} (hB : Up B H) (hpB : PR B N p) (heB : ER B e) (hN : N ≤ 60) (hk2 : e.k ≠ 2) (hk7 : e.k ≠ 7) (hF : Free H) (K : AV → Heap → Prop) (hK : ∀ r H', PRes (hsub H' H B) (N + 1) (Post e) r → Up H H' → Free H' → K r H') : WF Try.prog 60 [.agg p.cells, .agg e.cells] H K := by
  have hp := hpB.up hB
  have he := heB.up hB
  have post : ∀ q, Post e q := fun q => ⟨fun h => absurd h hk2, fun h => absurd h hk7⟩
  have hpl := hp.len
  have hpc := hp.cells
  have hel := he.len
  have pt : p.cells.take 24 = p.cells := List.take_of_length_le (by omega)
  have pd := hp.ds
  have e1 : (e.cells.drop 1).take 1 = [.int .i64 e.k] := rfl
  have e3 : (e.cells.drop 3).take 1 = [.int .i64 e.sq] := rfl
  have e4 : (e.cells.drop 4).take 1 = [.int .i64 e.rf] := rfl
  have hnl := hp.ns
  have hels : ∀ c ∈ p.sends, ElB 4 c := fun c hc => (hp.cs c hc).el
  refine WF_body Try.func60 (by kernel_rfl) rfl Try.ntmps60 (by rw [Try.results60]) (of_decide_eq_true (by kernel_rfl)) ?_
  simp (maxSteps := 1000000) only [sx, fx, icI, icS, icB, icN, icL, implies_true, evBuildSlice, fillE, fillA, here, plain, laid, evOp, avOf, avCell, strOf, evBin, evInt, evStr, evUn, evResults, evResultsL, AV.isUndef, AV.cells, Heap.store, wbool_off, after_scope, Nat.reduceMul, Nat.reducePow, Nat.reduceSub, Nat.reduceBEq, UInt8.reduceToNat, Nat.reduceEqDiff, Nat.reduceLT, reduceCtorEq, Nat.reduceAdd, Nat.reduceLeDiff, hF.at, hF.hp, hpl, hel, pt, e3]
  generalize hH1 : HP H [Blk.row 33 24 [p.cells] 0 0, Blk.row 63 24 [e.cells] 0 0, Blk.row 33 24 [z33] 0 0] = H1
  have hH1' := hH1
  unfold z33 at hH1'
  simp only [hH1']
  have hb0 : H1.blk H.next = some (.row 33 24 [p.cells] 0 0) := by rw [← hH1, hp_blk0]; rfl
  have hb1 : H1.blk (H.next + 1) = some (.row 63 24 [e.cells] 0 0) := by rw [← hH1, hp_blk]; rfl
  have hb2 : H1.blk (H.next + 2) = some (.row 33 24 [z33] 0 0) := by rw [← hH1, hp_blk]; rfl
  have hF1 : Free H1 := hH1 ▸ hF.hpF _
  have hU1 : Up H H1 := hH1 ▸ hF.hpU _
  refine callStep (f82_ok hF1 hpl pd (hp.hs.up hU1) (by omega) hels _ (fun c H2 hfind hU2 hF2 => ?_) fun H2 hfind hU2 hF2 => ?_)
  · have hcm := List.mem_of_find?_eq_some hfind
    obtain ⟨cl, cc, c0⟩ := hels c hcm
    obtain ⟨cev, c1⟩ := (hp.cs c hcm).f1
    have ct : c.take 4 = c := List.take_of_length_le (by omega)
    have hsp : splice z111 0 c = c := by simp [splice, z111, cl]
    unfold z111 at hsp
    generalize hG : HP H2 [Blk.row 111 4 [c] 0 0] = G
    have hGF : Free G := hG ▸ hF2.hpF _
    have hG2 : Up H2 G := hG ▸ hF2.hpU _
    have hUG : Up H G := hU1.trans (hU2.trans hG2)
    have g0 := hG2 _ _ (hU2 _ _ hb0)
    have g1 := hG2 _ _ (hU2 _ _ hb1)
    have g2 := hG2 _ _ (hU2 _ _ hb2)
    have g3 : G.blk H2.next = some (.row 111 4 [c] 0 0) := by rw [← hG, hp_blk0]; rfl
    cases hx : (cev != e.rf) with
    | true =>
      have g2' := g2
      unfold z33 at g2'
      simp (maxSteps := 1000000) only [sx, fx, icI, icS, icB, icN, icL, implies_true, evBuildSlice, fillE, fillA, here, plain, laid, evOp, avOf, avCell, strOf, evBin, evInt, evStr, evUn, evResults, evResultsL, AV.isUndef, AV.cells, Heap.store, wbool_off, after_scope, Nat.reduceMul, Nat.reducePow, Nat.reduceSub, Nat.reduceBEq, UInt8.reduceToNat, Nat.reduceEqDiff, Nat.reduceLT, reduceCtorEq, Nat.reduceAdd, Nat.reduceLeDiff, hF2.at, hF2.hp, cl, cc, ct, c1, hsp, hG, g0, g1, g3, e3, e4, hel, hx, g2']
      exact hK _ _ (PRes.err (by decide)) (hUG.set (hF _ (by omega)) _) (hGF.set (hGF.lt g2) _)
    | false =>
    simp (maxSteps := 1000000) only [sx, fx, icI, icS, icB, icN, icL, implies_true, evBuildSlice, fillE, fillA, here, plain, laid, evOp, avOf, avCell, strOf, evBin, evInt, evStr, evUn, evResults, evResultsL, AV.isUndef, AV.cells, Heap.store, wbool_off, after_scope, Nat.reduceMul, Nat.reducePow, Nat.reduceSub, Nat.reduceBEq, UInt8.reduceToNat, Nat.reduceEqDiff, Nat.reduceLT, reduceCtorEq, Nat.reduceAdd, Nat.reduceLeDiff, hF2.at, hF2.hp, cl, cc, ct, c1, hsp, hG, g0, g1, g3, e1, e3, e4, hel, hx]
    refine loopStep' (fun env H' => ∃ (i : Nat) (out : AV) (L : List (List AV)), i ≤ p.sends.length ∧ env.at (.tmp 9) = .int .i64 i ∧ env.at (.tmp 8) = out ∧ env.at (.tmp 2) = .ptr H.next 0 0 0 ∧ env.at (.tmp 3) = .ptr (H.next + 1) 0 0 0 ∧ env.at (.tmp 4) = .ptr (H.next + 2) 0 0 0 ∧
        L.length ≤ i ∧ (∀ c ∈ L, c ∈ p.sends) ∧ Own G H' 111 4 out L ∧ Up G H' ∧ Free H')
      (fun env H' => match env.at (.tmp 9) with | .int _ i => ((p.sends.length : Int) - i).toNat | _ => 0) ?_ ?_
    · exact ⟨0, .nilslice, [], Nat.zero_le _, by simp only [sx, fx, icI, icS, icB, icN, icL, implies_true, evBuildSlice, fillE, fillA, here, plain, laid, evOp, avOf, avCell, strOf, evBin, evInt, evStr, evUn, evResults, evResultsL, AV.isUndef, AV.cells, Heap.store, wbool_off, after_scope, Nat.reduceMul, Nat.reducePow, Nat.reduceSub, Nat.reduceBEq, UInt8.reduceToNat, Nat.reduceEqDiff, Nat.reduceLT, reduceCtorEq, Nat.reduceAdd, Nat.reduceLeDiff]; rfl, by simp only [sx, fx, icI, icS, icB, icN, icL, implies_true, evBuildSlice, fillE, fillA, here, plain, laid, evOp, avOf, avCell, strOf, evBin, evInt, evStr, evUn, evResults, evResultsL, AV.isUndef, AV.cells, Heap.store, wbool_off, after_scope, Nat.reduceMul, Nat.reducePow, Nat.reduceSub, Nat.reduceBEq, UInt8.reduceToNat, Nat.reduceEqDiff, Nat.reduceLT, reduceCtorEq, Nat.reduceAdd, Nat.reduceLeDiff], by simp only [sx, fx, icI, icS, icB, icN, icL, implies_true, evBuildSlice, fillE, fillA, here, plain, laid, evOp, avOf, avCell, strOf, evBin, evInt, evStr, evUn, evResults, evResultsL, AV.isUndef, AV.cells, Heap.store, wbool_off, after_scope, Nat.reduceMul, Nat.reducePow, Nat.reduceSub, Nat.reduceBEq, UInt8.reduceToNat, Nat.reduceEqDiff, Nat.reduceLT, reduceCtorEq, Nat.reduceAdd, Nat.reduceLeDiff], by simp only [sx, fx, icI, icS, icB, icN, icL, implies_true, evBuildSlice, fillE, fillA, here, plain, laid, evOp, avOf, avCell, strOf, evBin, evInt, evStr, evUn, evResults, evResultsL, AV.isUndef, AV.cells, Heap.store, wbool_off, after_scope, Nat.reduceMul, Nat.reducePow, Nat.reduceSub, Nat.reduceBEq, UInt8.reduceToNat, Nat.reduceEqDiff, Nat.reduceLT, reduceCtorEq, Nat.reduceAdd, Nat.reduceLeDiff], by simp only [sx, fx, icI, icS, icB, icN, icL, implies_true, evBuildSlice, fillE, fillA, here, plain, laid, evOp, avOf, avCell, strOf, evBin, evInt, evStr, evUn, evResults, evResultsL, AV.isUndef, AV.cells, Heap.store, wbool_off, after_scope, Nat.reduceMul, Nat.reducePow, Nat.reduceSub, Nat.reduceBEq, UInt8.reduceToNat, Nat.reduceEqDiff, Nat.reduceLT, reduceCtorEq, Nat.reduceAdd, Nat.reduceLeDiff], Nat.le_refl _, by simp, Own.nil, Up.refl _, hGF⟩
    · rintro env H' ⟨i, out, L, hi, ei, eo, t2, t3, t4, hLl, hLa, hO, hU', hF'⟩
      have b0 := hU' _ _ g0
      have b1 := hU' _ _ g1
      have b2 := hU' _ _ g2
      have hv' := hp.hs.up (hUG.trans hU')
      by_cases hlt : i < p.sends.length
      · obtain ⟨x, hx⟩ : ∃ x, p.sends[i]? = some x := ⟨_, List.getElem?_eq_getElem hlt⟩
        have hxm := List.mem_of_getElem? hx
        obtain ⟨xl, xc, x0⟩ := hels x hxm
        have xt : x.take 4 = x := List.take_of_length_le (by omega)
        have hw := wrap_succ (i := i) (by omega)
        simp (maxSteps := 1000000) only [sx, fx, icI, icS, icB, icN, icL, implies_true, evBuildSlice, fillE, fillA, here, plain, laid, evOp, avOf, avCell, strOf, evBin, evInt, evStr, evUn, evResults, evResultsL, AV.isUndef, AV.cells, Heap.store, wbool_off, after_scope, Nat.reduceMul, Nat.reducePow, Nat.reduceSub, Nat.reduceBEq, UInt8.reduceToNat, Nat.reduceEqDiff, Nat.reduceLT, reduceCtorEq, Nat.reduceAdd, Nat.reduceLeDiff, ei, eo, t2, t3, t4, b0, b1, pd, hv'.lenAt und30, lt_true hlt]
        refine drawStep [] [0, 1, 2, 3, 4, 5, 6, 7, 8] _ rfl (by kernel_rfl) ?_
        rcases index2 hv' und30 sz111 .i64 hx with hpx | ⟨b', j, g, ty, els, gen, wgen, hpx, hbk, hwg, hel'⟩
        · cases hs : (seqOf x != e.sq) with
          | true =>
            simp (maxSteps := 1000000) only [sx, fx, icI, icS, icB, icN, icL, implies_true, evBuildSlice, fillE, fillA, here, plain, laid, evOp, avOf, avCell, strOf, evBin, evInt, evStr, evUn, evResults, evResultsL, AV.isUndef, AV.cells, Heap.store, wbool_off, after_scope, Nat.reduceMul, Nat.reducePow, Nat.reduceSub, Nat.reduceBEq, UInt8.reduceToNat, Nat.reduceEqDiff, Nat.reduceLT, reduceCtorEq, Nat.reduceAdd, Nat.reduceLeDiff, ei, eo, t2, t3, t4, b0, b1, pd, hpx, x0, xl, e3, hel, hs, hF'.at, hF'.hp, xt, xc]
            refine opStep_append app30 (hO.up (hF'.hpU _)) (hF'.hpF _) (hU'.trans (hF'.hpU _)) (holds_hp (k := 0) (L := [x]) rfl rfl (Nat.le_refl _) (by simp [xl])) (fun cs hcs => by rw [List.mem_singleton] at hcs; rw [hcs]; exact xc) (by simp only [maxBytes, List.length_cons, List.length_nil]; omega) (by simp only [maxBytes, List.length_cons, List.length_nil]; omega) (fun u K' hO4 hU4 hF4 => ?_)
            simp (maxSteps := 1000000) only [sx, fx, icI, icS, icB, icN, icL, implies_true, evBuildSlice, fillE, fillA, here, plain, laid, evOp, avOf, avCell, strOf, evBin, evInt, evStr, evUn, evResults, evResultsL, AV.isUndef, AV.cells, Heap.store, wbool_off, after_scope, Nat.reduceMul, Nat.reducePow, Nat.reduceSub, Nat.reduceBEq, UInt8.reduceToNat, Nat.reduceEqDiff, Nat.reduceLT, reduceCtorEq, Nat.reduceAdd, Nat.reduceLeDiff, ei, eo, t2, t3, t4, hw]
            refine ⟨⟨i + 1, u, L ++ [x], hlt, rfl, rfl, by simp; omega, fun c hc => ?_, hO4, hU4, hF4⟩, ?_⟩
            · rcases List.mem_append.1 hc with hc | hc
              · exact hLa c hc
              · simp at hc; subst hc; exact hxm
            · omega
          | false =>
            simp (maxSteps := 1000000) only [sx, fx, icI, icS, icB, icN, icL, implies_true, evBuildSlice, fillE, fillA, here, plain, laid, evOp, avOf, avCell, strOf, evBin, evInt, evStr, evUn, evResults, evResultsL, AV.isUndef, AV.cells, Heap.store, wbool_off, after_scope, Nat.reduceMul, Nat.reducePow, Nat.reduceSub, Nat.reduceBEq, UInt8.reduceToNat, Nat.reduceEqDiff, Nat.reduceLT, reduceCtorEq, Nat.reduceAdd, Nat.reduceLeDiff, ei, eo, t2, t3, t4, b0, b1, pd, hpx, x0, xl, e3, hel, hs, hw]
            refine ⟨⟨i + 1, out, L, hlt, rfl, rfl, by omega, hLa, hO, hU', hF'⟩, ?_⟩
            omega
        · cases hs : (seqOf x != e.sq) with
          | true =>
            simp (maxSteps := 1000000) only [sx, fx, icI, icS, icB, icN, icL, implies_true, evBuildSlice, fillE, fillA, here, plain, laid, evOp, avOf, avCell, strOf, evBin, evInt, evStr, evUn, evResults, evResultsL, AV.isUndef, AV.cells, Heap.store, wbool_off, after_scope, Nat.reduceMul, Nat.reducePow, Nat.reduceSub, Nat.reduceBEq, UInt8.reduceToNat, Nat.reduceEqDiff, Nat.reduceLT, reduceCtorEq, Nat.reduceAdd, Nat.reduceLeDiff, ei, eo, t2, t3, t4, b0, b1, pd, hpx, hbk, hwg, hel', x0, xl, e3, hel, hs, hF'.at, hF'.hp, xt, xc]
            refine opStep_append app30 (hO.up (hF'.hpU _)) (hF'.hpF _) (hU'.trans (hF'.hpU _)) (holds_hp (k := 0) (L := [x]) rfl rfl (Nat.le_refl _) (by simp [xl])) (fun cs hcs => by rw [List.mem_singleton] at hcs; rw [hcs]; exact xc) (by simp only [maxBytes, List.length_cons, List.length_nil]; omega) (by simp only [maxBytes, List.length_cons, List.length_nil]; omega) (fun u K' hO4 hU4 hF4 => ?_)
            simp (maxSteps := 1000000) only [sx, fx, icI, icS, icB, icN, icL, implies_true, evBuildSlice, fillE, fillA, here, plain, laid, evOp, avOf, avCell, strOf, evBin, evInt, evStr, evUn, evResults, evResultsL, AV.isUndef, AV.cells, Heap.store, wbool_off, after_scope, Nat.reduceMul, Nat.reducePow, Nat.reduceSub, Nat.reduceBEq, UInt8.reduceToNat, Nat.reduceEqDiff, Nat.reduceLT, reduceCtorEq, Nat.reduceAdd, Nat.reduceLeDiff, ei, eo, t2, t3, t4, hw]
            refine ⟨⟨i + 1, u, L ++ [x], hlt, rfl, rfl, by simp; omega, fun c hc => ?_, hO4, hU4, hF4⟩, ?_⟩
            · rcases List.mem_append.1 hc with hc | hc
              · exact hLa c hc
              · simp at hc; subst hc; exact hxm
            · omega
          | false =>
            simp (maxSteps := 1000000) only [sx, fx, icI, icS, icB, icN, icL, implies_true, evBuildSlice, fillE, fillA, here, plain, laid, evOp, avOf, avCell, strOf, evBin, evInt, evStr, evUn, evResults, evResultsL, AV.isUndef, AV.cells, Heap.store, wbool_off, after_scope, Nat.reduceMul, Nat.reducePow, Nat.reduceSub, Nat.reduceBEq, UInt8.reduceToNat, Nat.reduceEqDiff, Nat.reduceLT, reduceCtorEq, Nat.reduceAdd, Nat.reduceLeDiff, ei, eo, t2, t3, t4, b0, b1, pd, hpx, hbk, hwg, hel', x0, xl, e3, hel, hs, hw]
            refine ⟨⟨i + 1, out, L, hlt, rfl, rfl, by omega, hLa, hO, hU', hF'⟩, ?_⟩
            omega
      · have hoc := holds_cell hO.holds
        have fin := fun x y => two_set hO hU' hUG hF hF' (a := H.next) (b := H.next + 2) (by rw [g0]; simp) (by rw [g2]; simp) (Nat.le_refl _) (by omega) x y
        have hset := hp.ss out L
        have hpr := hpB.ws (M := N + 1) (sub_up hB (fin (.row 33 24 [] 0 0) (.row 33 24 [] 0 0)).1) (sub_own (fin (.row 33 24 [] 0 0) (.row 33 24 [] 0 0)).2.2.2) (by omega) (by omega) (fun c hc => hpB.cs c (hLa c hc))
        have wl := hpr.len
        have wc := hpr.cells
        have wt : (p.ws out L).cells.take 24 = (p.ws out L).cells := List.take_of_length_le (by omega)
        have hs33 : splice z33 0 (p.ws out L).cells = (p.ws out L).cells := by simp [splice, z33, wl]
        unfold z33 at b2 hs33
        rcases own_shape hO with rfl | rfl | ⟨sb, so, sl, sc, sx', sg, rfl⟩
        all_goals
          simp (maxSteps := 1000000) only [sx, fx, icI, icS, icB, icN, icL, implies_true, evBuildSlice, fillE, fillA, here, plain, laid, evOp, avOf, avCell, strOf, evBin, evInt, evStr, evUn, evResults, evResultsL, AV.isUndef, AV.cells, Heap.store, wbool_off, after_scope, Nat.reduceMul, Nat.reducePow, Nat.reduceSub, Nat.reduceBEq, UInt8.reduceToNat, Nat.reduceEqDiff, Nat.reduceLT, reduceCtorEq, Nat.reduceAdd, Nat.reduceLeDiff, ei, eo, t2, t3, t4, b0, b2, pd, hpl, set_02, hv'.lenAt und30, lt_false hlt, hoc, hset, wl, wc, wt, hs33]
          exact hK _ _ (PRes.ok (hpB.ws (M := N + 1) (sub_up hB (fin _ _).1) (sub_own (fin _ _).2.2.2) (by omega) (by omega) (fun c hc => hpB.cs c (hLa c hc))) (post _)) (fin _ _).1 (fin _ _).2.1
  · have hb22 := hU2 _ _ hb2
    have hU12 := hU1.trans hU2
    have hb23 : ∀ xs, (HP H2 xs).blk (H.next + 2) = some (.row 33 24 [z33] 0 0) := fun xs => hF2.hpU xs _ _ hb22
    unfold z33 at hb23
    simp (maxSteps := 1000000) only [z111, sx, fx, icI, icS, icB, icN, icL, implies_true, evBuildSlice, fillE, fillA, here, plain, laid, evOp, avOf, avCell, strOf, evBin, evInt, evStr, evUn, evResults, evResultsL, AV.isUndef, AV.cells, Heap.store, wbool_off, after_scope, Nat.reduceMul, Nat.reducePow, Nat.reduceSub, Nat.reduceBEq, UInt8.reduceToNat, Nat.reduceEqDiff, Nat.reduceLT, reduceCtorEq, Nat.reduceAdd, Nat.reduceLeDiff, hF2.at, hF2.hp, hb23]
    exact hK _ _ (PRes.err (by decide)) ((hU12.trans (hF2.hpU _)).set (hF _ (by omega)) _) ((hF2.hpF _).set ((hF2.hpF _).lt (hb23 _)) _)
end Go.Proofs.T
