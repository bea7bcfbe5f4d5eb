import Derived.Test.YtlllflmjpclobaaW13
set_option linter.unusedVariables false
set_option linter.unusedSimpArgs false
set_option linter.unusedVariables false
set_option linter.unusedSimpArgs false
set_option maxRecDepth 100000
namespace Go.Proofs.T
open Go.Ev

/-- H' without the k names from H's next on. -/
def hmin (H' H : Heap) (k : Nat) : Heap := ⟨fun c => if H.next ≤ c ∧ c < H.next + k then none else H'.blk c, H'.next⟩
theorem hmin_up {H' H : Heap} {k : Nat} : Up (hmin H' H k) H' := fun b x h => by
  simp only [hmin] at h
  split at h
  · cases h
  · exact h
theorem hmin_blk {H' H : Heap} {k b : Nat} (h : ¬ (H.next ≤ b ∧ b < H.next + k)) : (hmin H' H k).blk b = H'.blk b := by simp only [hmin]; rw [if_neg h]
theorem up_hmin {H' H : Heap} {k : Nat} (hF : Free H) (hU : Up H H') : Up H (hmin H' H k) := fun b x h => by
  have := hF.lt h
  rw [hmin_blk (by omega)]; exact hU _ _ h
theorem own_hmin {G K H : Heap} {k ty esz : Nat} {v : AV} {L : List (List AV)} (hO : Own G K ty esz v L) (hG : ∀ j, j < k → G.blk (H.next + j) ≠ none) : Holds (hmin K H k) esz v L :=
  (own_keep hO (K := hmin K H k) fun b x hb hx => by
    rw [hmin_blk (fun hc => ?_)]
    · exact hx
    · obtain ⟨j, rfl⟩ : ∃ j, b = H.next + j := ⟨b - H.next, by omega⟩
      exact hG j (by omega) (own_row hO hb).1).holds
theorem hmin_set {K H : Heap} {k j : Nat} (hj : j < k) (y : Blk) : Up (hmin K H k) (K.set (H.next + j) y) := fun b x h => by
  by_cases hc : H.next ≤ b ∧ b < H.next + k
  · simp only [hmin] at h; rw [if_pos hc] at h; cases h
  · rw [hmin_blk hc] at h; rw [Heap.set_other _ _ _ (by omega)]; exact h
theorem hmin_set' {K H : Heap} {k j : Nat} (hj : j < k) (y : Blk) : hmin (K.set (H.next + j) y) H k = hmin K H k := by
  refine Heap.ext' (fun b => ?_) rfl
  simp only [hmin]
  split
  · rfl
  · rename_i hc; exact Heap.set_other _ _ _ (by omega)
theorem PR.datr {H : Heap} {N : Nat} {p : PS} (h : PR H N p) : (p.cells.drop 12).take 5 = p.atr := by
  obtain ⟨i0, i1, i2, i3, i4, a0, a1, a2, a3, a4, e, e'⟩ := h.split
  simp only [PS.cells, e, e']; rfl
def PS.watr (p : PS) (d : List AV) : PS := { p with atr := d }
theorem PR.satr {H : Heap} {N : Nat} {p : PS} (h : PR H N p) (b0 b1 b2 b3 b4 : AV) : splice p.cells 12 [b0, b1, b2, b3, b4] = (p.watr [b0, b1, b2, b3, b4]).cells := by
  obtain ⟨i0, i1, i2, i3, i4, a0, a1, a2, a3, a4, e, e'⟩ := h.split
  simp only [PS.cells, PS.watr, e, e']; rfl
theorem PR.watr {H : Heap} {N : Nat} {p : PS} (h : PR H N p) {d : List AV} (hd : AT H N d) : PR H N (p.watr d) :=
  ⟨h.inn, hd, h.ha, h.ht, h.hk, h.hs, h.hu, h.hr, h.na, h.nt, h.nk, h.ns, h.nu, h.nr, h.ca, h.ct, h.ck, h.cs, h.cu, h.cr, h.sq0, h.sqN⟩

set_option maxHeartbeats 8000000 in
theorem f63_ok {H B : Heap} {N : Nat} {p : PS} {e : ES} (hB : Up B H) (hpB : PR B N p) (heB : ER B e) (hN : N ≤ 60) (hk2 : e.k ≠ 2) (hk7 : e.k ≠ 7) (hfit : KeysFit e.d) (h5 : ∃ (i : Int) (s : List Nat) (v w : AV), e.d = [.int .i64 5, .int .i64 i, .str s, v, w]) (hF : Free H) (K : AV → Heap → Prop) (hK : ∀ r H', PRes (hsub H' H B) (N + 1) (Post e) r → Up H H' → Free H' → K r H') : WF Try.prog 63 [.agg p.cells, .agg e.cells] H K := by
  have hp := hpB.up hB
  have he := heB.up hB
  have post : ∀ q, Post e q := fun q => ⟨fun h => absurd h hk2, fun h => absurd h hk7⟩
  have hpl := hp.len
  have hel := he.len
  have pt : p.cells.take 24 = p.cells := List.take_of_length_le (by omega)
  have pd := hp.datr
  have satr := hp.satr
  obtain ⟨ak, ai, as', av, aw, AL, AM, ea, hav, haw, ⟨na, hAL⟩, hAM, hal, hab⟩ := hpB.atr
  rw [ea] at pd
  have hacv := holds_cell hav
  have hacw := holds_cell haw
  obtain ⟨ei, es, ev, ew, ed⟩ := h5
  obtain ⟨nd, hdv⟩ := heB.d
  cases nd with
  | zero => exact hdv.elim
  | succ nd =>
  obtain ⟨k', i', s', v', w', EL, EM, ee, hev, hevn, hEL, hew, hewn, hEM⟩ := hdv
  rw [ed] at ee
  simp only [List.cons.injEq, and_true] at ee
  obtain ⟨_, _, _, rfl, rfl⟩ := ee
  have hmm : EM.length = EL.length := hfit _ _ _ _ ed B EL EM hev hew
  have hsm : EL.length ≤ 6000 := heB.sm _ _ _ _ _ ed EL hev
  have e12 : (e.cells.drop 12).take 1 = [ev] := by simp only [ES.cells, ed]; rfl
  have e13 : (e.cells.drop 13).take 1 = [ew] := by simp only [ES.cells, ed]; rfl
  have hAL' : ∀ c ∈ AL, VR (na + nd) B c := fun c hc => (hAL c hc).mono (by omega)
  refine WF_body Try.func63 (by kernel_rfl) rfl Try.ntmps63 (by rw [Try.results63]) (of_decide_eq_true (by kernel_rfl)) ?_
  simp (maxSteps := 1000000) only [sx, fx, ux, implies_true, evBuildSlice, fillE, fillA, here, plain, laid, evOp, avOf, avCell, strOf, evBin, evInt, evStr, evUn, evResults, evResultsL, Heap.store, wbool_off, after_scope, Nat.reduceMul, Nat.reducePow, Nat.reduceSub, Nat.reduceBEq, UInt8.reduceToNat, Nat.reduceEqDiff, Nat.reduceLT, reduceCtorEq, Nat.reduceAdd, Nat.reduceLeDiff, hF.at, hF.hp, hpl, hel, pd, hacv, hacw]
  generalize hH1 : HP H [Blk.row 33 24 [p.cells] 0 0, Blk.row 63 24 [e.cells] 0 0, Blk.row 33 24 [z33] 0 0, Blk.row 26 5 [[.int .i64 ak, .int .i64 ai, .str as', av, aw]] 0 0] = H1
  have hH1' := hH1
  unfold z33 at hH1'
  simp only [hH1']
  have hb0 : H1.blk H.next = some (.row 33 24 [p.cells] 0 0) := by rw [← hH1, hp_blk0]; rfl
  have hb1 : H1.blk (H.next + 1) = some (.row 63 24 [e.cells] 0 0) := by rw [← hH1, hp_blk]; rfl
  have hb2 : H1.blk (H.next + 2) = some (.row 33 24 [z33] 0 0) := by rw [← hH1, hp_blk]; rfl
  have hb3 : H1.blk (H.next + 3) = some (.row 26 5 [[.int .i64 ak, .int .i64 ai, .str as', av, aw]] 0 0) := by rw [← hH1, hp_blk]; rfl
  have hF1 : Free H1 := hH1 ▸ hF.hpF _
  have hU1 : Up H H1 := hH1 ▸ hF.hpU _
  have hUB := hB.trans hU1
  have hUm : Up B (hsub H1 H1 B) := sub_up hUB (Up.refl _)
  have hBn : ∀ j, B.blk (H.next + j) = none := fun j => by
    cases hx : B.blk (H.next + j) with
    | none => rfl
    | some z => have := hF.lt (hB _ _ hx); omega
  have hH1n : ∀ j, j < 4 → H1.blk (H.next + j) ≠ none := fun j hj => by
    match j, hj with
    | 0, _ => rw [Nat.add_zero, hb0]; simp
    | 1, _ => rw [hb1]; simp
    | 2, _ => rw [hb2]; simp
    | 3, _ => rw [hb3]; simp
  refine loopStep' (fun env H' => ∃ (i : Nat) (k1 i1 : Int) (s1 : List Nat) (v w : AV) (LI LK : List (List AV)), i ≤ EM.length ∧ env.at (.tmp 7) = .int .i64 i ∧ env.at (.tmp 2) = .ptr H.next 0 0 0 ∧ env.at (.tmp 3) = .ptr (H.next + 1) 0 0 0 ∧ env.at (.tmp 4) = .ptr (H.next + 2) 0 0 0 ∧ env.at (.tmp 6) = .ptr (H.next + 3) 0 0 0 ∧
      H'.blk H.next = some (.row 33 24 [p.cells] 0 0) ∧ H'.blk (H.next + 1) = some (.row 63 24 [e.cells] 0 0) ∧ H'.blk (H.next + 2) = some (.row 33 24 [z33] 0 0) ∧ H'.blk (H.next + 3) = some (.row 26 5 [[.int .i64 k1, .int .i64 i1, .str s1, v, w]] 0 0) ∧
      Holds (hsub H' H1 B) 5 v LI ∧ Holds (hsub H' H1 B) 1 w LK ∧ (∀ b, H'.blk b = none → H1.blk b = none) ∧ (∀ c ∈ LI, VR (na + nd) B c) ∧ StrL LK ∧ LI.length = LK.length ∧ LI.length ≤ 6000 * N + i ∧ Up H H' ∧ Free H')
    (fun env H' => match env.at (.tmp 7) with | .int _ i => ((EM.length : Int) - i).toNat | _ => 0) ?_ ?_
  · exact ⟨0, ak, ai, as', av, aw, AL, AM, Nat.zero_le _, by simp only [sx, fx, ux, implies_true, evBuildSlice, fillE, fillA, here, plain, laid, evOp, avOf, avCell, strOf, evBin, evInt, evStr, evUn, evResults, evResultsL, Heap.store, wbool_off, after_scope, Nat.reduceMul, Nat.reducePow, Nat.reduceSub, Nat.reduceBEq, UInt8.reduceToNat, Nat.reduceEqDiff, Nat.reduceLT, reduceCtorEq, Nat.reduceAdd, Nat.reduceLeDiff]; rfl, by simp only [sx, fx, ux, implies_true, evBuildSlice, fillE, fillA, here, plain, laid, evOp, avOf, avCell, strOf, evBin, evInt, evStr, evUn, evResults, evResultsL, Heap.store, wbool_off, after_scope, Nat.reduceMul, Nat.reducePow, Nat.reduceSub, Nat.reduceBEq, UInt8.reduceToNat, Nat.reduceEqDiff, Nat.reduceLT, reduceCtorEq, Nat.reduceAdd, Nat.reduceLeDiff], by simp only [sx, fx, ux, implies_true, evBuildSlice, fillE, fillA, here, plain, laid, evOp, avOf, avCell, strOf, evBin, evInt, evStr, evUn, evResults, evResultsL, Heap.store, wbool_off, after_scope, Nat.reduceMul, Nat.reducePow, Nat.reduceSub, Nat.reduceBEq, UInt8.reduceToNat, Nat.reduceEqDiff, Nat.reduceLT, reduceCtorEq, Nat.reduceAdd, Nat.reduceLeDiff], by simp only [sx, fx, ux, implies_true, evBuildSlice, fillE, fillA, here, plain, laid, evOp, avOf, avCell, strOf, evBin, evInt, evStr, evUn, evResults, evResultsL, Heap.store, wbool_off, after_scope, Nat.reduceMul, Nat.reducePow, Nat.reduceSub, Nat.reduceBEq, UInt8.reduceToNat, Nat.reduceEqDiff, Nat.reduceLT, reduceCtorEq, Nat.reduceAdd, Nat.reduceLeDiff], by simp only [sx, fx, ux, implies_true, evBuildSlice, fillE, fillA, here, plain, laid, evOp, avOf, avCell, strOf, evBin, evInt, evStr, evUn, evResults, evResultsL, Heap.store, wbool_off, after_scope, Nat.reduceMul, Nat.reducePow, Nat.reduceSub, Nat.reduceBEq, UInt8.reduceToNat, Nat.reduceEqDiff, Nat.reduceLT, reduceCtorEq, Nat.reduceAdd, Nat.reduceLeDiff], hb0, hb1, hb2, hb3, hav.up hUm, haw.up hUm, fun b h => h, hAL', hAM, hal, by omega, hU1, hF1⟩
  · rintro env H' ⟨i, k1, i1, s1, v, w, LI, LK, hi, e7, t2, t3, t4, t6, b0, b1, b2, b3, hv, hw, hdom, hvr, hst, hll, hlb, hU, hF'⟩
    have lk := hew.lenAt (P := Try.prog) und24
    have hv' := hv.up sub_le
    have hw' := hw.up sub_le
    by_cases hlt : i < EM.length
    · obtain ⟨c, hc⟩ : ∃ c, EM[i]? = some c := ⟨_, List.getElem?_eq_getElem hlt⟩
      obtain ⟨ks, rfl⟩ := hEM c (List.mem_of_getElem? hc)
      obtain ⟨y, hy⟩ : ∃ y, EL[i]? = some y := ⟨_, List.getElem?_eq_getElem (by omega)⟩
      have hyR := hEL y (List.mem_of_getElem? hy)
      have yl := hyR.len
      have yt : y.take 5 = y := List.take_of_length_le (by omega)
      have hw1 := wrap_succ (i := i) (by omega)
      obtain ⟨pk, hpk, hlk, _⟩ := (hew.up (hB.trans hU)).index (P := Try.prog) und24 sz9 .i64 hc
      obtain ⟨py, hpy, hly, _⟩ := (hev.up (hB.trans hU)).index (P := Try.prog) und23 sz26 .i64 hy
      simp (maxSteps := 1000000) only [sx, fx, ux, implies_true, evBuildSlice, fillE, fillA, here, plain, laid, evOp, avOf, avCell, strOf, evBin, evInt, evStr, evUn, evResults, evResultsL, Heap.store, wbool_off, after_scope, Nat.reduceMul, Nat.reducePow, Nat.reduceSub, Nat.reduceBEq, UInt8.reduceToNat, Nat.reduceEqDiff, Nat.reduceLT, reduceCtorEq, Nat.reduceAdd, Nat.reduceLeDiff, e7, t2, t3, t4, t6, b1, e13, lk, lt_true hlt]
      refine drawStep [] [0, 1, 2, 3, 4, 5, 6, 7, 8, 9, 10, 11, 12, 13, 14] _ rfl (by kernel_rfl) ?_
      simp (maxSteps := 1000000) only [sx, fx, ux, implies_true, evBuildSlice, fillE, fillA, here, plain, laid, evOp, avOf, avCell, strOf, evBin, evInt, evStr, evUn, evResults, evResultsL, Heap.store, wbool_off, after_scope, Nat.reduceMul, Nat.reducePow, Nat.reduceSub, Nat.reduceBEq, UInt8.reduceToNat, Nat.reduceEqDiff, Nat.reduceLT, reduceCtorEq, Nat.reduceAdd, Nat.reduceLeDiff, e7, t2, t3, t4, t6, b1, b3, e12, e13, hel, hpk, hpy, hlk _ (Up.refl _), hly _ (Up.refl _), yl, yt]
      refine callStep (f85_ok (n := nd) (n0 := na + nd) (B := 6000 * N + i) (H := H') hv' hw' (fun c hc => (hvr c hc).up (hB.trans hU)) hst hll hlb (hyR.up (hB.trans hU)) (by omega) hF' _ fun vI wK LI' LK' H4 oI oK k1' k2' k3' k4' hU4 hF4 => ?_)
      obtain ⟨p1, p2, p3⟩ := own_plain oI
      obtain ⟨q1, q2, q3⟩ := own_plain oK
      have c3 := hU4 _ _ b3
      simp (maxSteps := 1000000) only [sx, fx, ux, implies_true, evBuildSlice, fillE, fillA, here, plain, laid, evOp, avOf, avCell, strOf, evBin, evInt, evStr, evUn, evResults, evResultsL, Heap.store, wbool_off, after_scope, Nat.reduceMul, Nat.reducePow, Nat.reduceSub, Nat.reduceBEq, UInt8.reduceToNat, Nat.reduceEqDiff, Nat.reduceLT, reduceCtorEq, Nat.reduceAdd, Nat.reduceLeDiff, t6, c3, p3, q3, splice]
      simp (maxSteps := 1000000) only [sx, fx, ux, implies_true, evBuildSlice, fillE, fillA, here, plain, laid, evOp, avOf, avCell, strOf, evBin, evInt, evStr, evUn, evResults, evResultsL, Heap.store, wbool_off, after_scope, Nat.reduceMul, Nat.reducePow, Nat.reduceSub, Nat.reduceBEq, UInt8.reduceToNat, Nat.reduceEqDiff, Nat.reduceLT, reduceCtorEq, Nat.reduceAdd, Nat.reduceLeDiff, e7, t2, t3, t4, t6, hw1]
      refine ⟨⟨i + 1, 5, 0, [], vI, wK, LI', LK', hlt, rfl, ?_, ?_, ?_, rfl, ?_, ?_, fun b hb => ?_, fun c hc => ?_, k4', k1', by omega, (hU.trans hU4).set (hF _ (by omega)) _, hF4.set (hF4.lt c3) _⟩, by omega⟩
      · rw [Heap.set_other _ _ _ (by omega)]; exact hU4 _ _ b0
      · rw [Heap.set_other _ _ _ (by omega)]; exact hU4 _ _ b1
      · rw [Heap.set_other _ _ _ (by omega)]; exact hU4 _ _ b2
      · exact ((sub_own (B := B) (own_dom oI hdom)).up (sub_set (Up.refl _) (hH1n 3 (by omega)) (hBn 3) _))
      · exact ((sub_own (B := B) (own_dom oK hdom)).up (sub_set (Up.refl _) (hH1n 3 (by omega)) (hBn 3) _))
      · refine hdom b ?_
        have hb3 : b ≠ H.next + 3 := fun e => by rw [e, set_same] at hb; cases hb
        rw [Heap.set_other _ _ _ hb3] at hb
        cases hx : H'.blk b with
        | none => rfl
        | some z => have := hU4 _ _ hx; rw [hb] at this; cases this
      · rcases k3' c hc with hc | rfl
        · exact hvr c hc
        · exact hyR.mono (by omega)
    · obtain rfl : i = EM.length := by omega
      have hvc := holds_cell hv
      have hwc := holds_cell hw
      simp (maxSteps := 1000000) only [sx, fx, ux, implies_true, evBuildSlice, fillE, fillA, here, plain, laid, evOp, avOf, avCell, strOf, evBin, evInt, evStr, evUn, evResults, evResultsL, Heap.store, wbool_off, after_scope, Nat.reduceMul, Nat.reducePow, Nat.reduceSub, Nat.reduceBEq, UInt8.reduceToNat, Nat.reduceEqDiff, Nat.reduceLT, reduceCtorEq, Nat.reduceAdd, Nat.reduceLeDiff, e7, t2, t3, t4, t6, b1, b3, e13, lk, lt_false hlt]
      refine callStep (f68_ok (n := na + nd + 1) (H := H') ⟨k1, i1, s1, v, w, LI, LK, rfl, hv', by omega, fun c hc => (hvr c hc).up (hB.trans hU), hw', by omega, hst⟩ hF' _ fun b H4 _ hU4 hF4 => ?_)
      have c0 := hU4 _ _ b0
      have c2 := hU4 _ _ b2
      have c3 := hU4 _ _ b3
      have hUU := hU.trans hU4
      cases b with
      | false =>
        unfold z33 at c2
        simp (maxSteps := 1000000) only [sx, fx, ux, implies_true, evBuildSlice, fillE, fillA, here, plain, laid, evOp, avOf, avCell, strOf, evBin, evInt, evStr, evUn, evResults, evResultsL, Heap.store, wbool_off, after_scope, Nat.reduceMul, Nat.reducePow, Nat.reduceSub, Nat.reduceBEq, UInt8.reduceToNat, Nat.reduceEqDiff, Nat.reduceLT, reduceCtorEq, Nat.reduceAdd, Nat.reduceLeDiff, e7, t2, t3, t4, t6, c2]
        exact hK _ _ (PRes.err (by decide)) (hUU.set (hF _ (by omega)) _) (hF4.set (hF4.lt c2) _)
      | true =>
        have hm4 : Up (hsub H' H1 B) (hsub H4 H1 B) := sub_mono hU4
        have fm : ∀ x y, Up (hsub H4 H1 B) (hsub ((H4.set H.next x).set (H.next + 2) y) H B) := fun x y => by
          have h1 : Up (hsub H4 H1 B) (hsub (H4.set H.next x) H1 B) := sub_set (Up.refl _) (hH1n 0 (by omega)) (hBn 0) x
          have h2 : Up (hsub (H4.set H.next x) H1 B) (hsub ((H4.set H.next x).set (H.next + 2) y) H B) := sub_set hU1 (hH1n 2 (by omega)) (hBn 2) y
          exact h1.trans h2
        have fU : ∀ x y, Up H ((H4.set H.next x).set (H.next + 2) y) := fun x y => (hUU.set (hF _ (Nat.le_refl _)) _).set (hF _ (by omega)) _
        have fF : ∀ x y, Free ((H4.set H.next x).set (H.next + 2) y) := fun x y => (hF4.set (hF4.lt c0) _).set (by rw [set_next]; exact hF4.lt c2) _
        have hat : ∀ x y, AT (hsub ((H4.set H.next x).set (H.next + 2) y) H B) (N + 1) [.int .i64 k1, .int .i64 i1, .str s1, v, w] := fun x y =>
          ⟨k1, i1, s1, v, w, LI, LK, rfl, (hv.up hm4).up (fm x y), (hw.up hm4).up (fm x y), ⟨_, fun c hc => (hvr c hc).up (sub_up hB (fU x y))⟩, hst, hll, by omega⟩
        have hpr := fun x y => ((hpB.up (sub_up hB (fU x y))).mono (Nat.le_succ N)).watr (hat x y)
        have wl := (hpr (.row 33 24 [] 0 0) (.row 33 24 [] 0 0)).len
        have wc := (hpr (.row 33 24 [] 0 0) (.row 33 24 [] 0 0)).cells
        have wt : (p.watr [.int .i64 k1, .int .i64 i1, .str s1, v, w]).cells.take 24 = (p.watr [.int .i64 k1, .int .i64 i1, .str s1, v, w]).cells := List.take_of_length_le (by omega)
        have hs33 : splice z33 0 (p.watr [.int .i64 k1, .int .i64 i1, .str s1, v, w]).cells = (p.watr [.int .i64 k1, .int .i64 i1, .str s1, v, w]).cells := by simp [splice, z33, wl]
        unfold z33 at c2 hs33
        simp (maxSteps := 1000000) only [sx, fx, ux, implies_true, evBuildSlice, fillE, fillA, here, plain, laid, evOp, avOf, avCell, strOf, evBin, evInt, evStr, evUn, evResults, evResultsL, Heap.store, wbool_off, after_scope, Nat.reduceMul, Nat.reducePow, Nat.reduceSub, Nat.reduceBEq, UInt8.reduceToNat, Nat.reduceEqDiff, Nat.reduceLT, reduceCtorEq, Nat.reduceAdd, Nat.reduceLeDiff, e7, t2, t3, t4, t6, c0, c2, c3, hvc, hwc, hpl, satr, set_02, wl, wc, wt, hs33]
        exact hK _ _ (PRes.ok (hpr _ _) (post _)) (fU _ _) (fF _ _)
end Go.Proofs.T
