import Derived.Test.YtlllflmjpclobaaW15
set_option linter.unusedVariables false
set_option linter.unusedSimpArgs false
set_option linter.unusedVariables false
set_option linter.unusedSimpArgs false
set_option maxRecDepth 100000
namespace Go.Proofs.T
open Go.Ev

theorem ER.evr {H : Heap} {e : ES} (h : ER H e) : EvR H e.cells e.k e.d := ⟨⟨e.id, e.tm, e.sq, e.rf, e.nn, e.cd, e.nm, e.ky, e.o, rfl, h.nm, h.ky, h.d, h.o⟩⟩
def PS.wnx (p : PS) (x : Int) : PS := { p with nx := x }
theorem PR.wnx {H : Heap} {N : Nat} {p : PS} (h : PR H N p) (x : Int) : PR H N (p.wnx x) := h.chg x p.st p.tk p.ti p.att p.cn
theorem none_of {H B : Heap} (hF : Free H) (hB : Up B H) {j : Nat} : B.blk (H.next + j) = none := by
  cases hx : B.blk (H.next + j) with
  | none => rfl
  | some z => have := hF.lt (hB _ _ hx); omega

set_option maxHeartbeats 8000000 in
theorem f33_ok {H B : Heap} {e : ES} (hB : Up B H) (heB : ER B e) (hF : Free H) (K : AV → Heap → Prop) (hK : ∀ r H', PRes (hsub H' H B) 1 (Post e) r → Up H H' → Free H' → K r H') : WF Try.prog 33 [.agg e.cells] H K := by
  have he := heB.up hB
  have hel := he.len
  obtain ⟨ndB, hedB⟩ : ∃ n, VR n B e.d := heB.d
  obtain ⟨id, k, tm, esq, rf, nn, cd, enm, ky, ed, eo⟩ := e
  obtain ⟨nd, hed⟩ : ∃ n, VR n H ed := he.d
  obtain ⟨d0, d1, d2, d3, d4, rfl⟩ := five hed.len
  have hcd := hed.cells
  simp only [List.all_cons, List.all_nil, Bool.and_eq_true, Bool.and_true] at hcd
  obtain ⟨hcd0, hcd1, hcd2, hcd3, hcd4⟩ := hcd
  have et : (ES.mk id k tm esq rf nn cd enm ky [d0, d1, d2, d3, d4] eo).cells.take 24 = (ES.mk id k tm esq rf nn cd enm ky [d0, d1, d2, d3, d4] eo).cells := List.take_of_length_le (by omega)
  have e0 : (ES.mk id k tm esq rf nn cd enm ky [d0, d1, d2, d3, d4] eo).cells.take 1 = [.int .i64 id] := rfl
  have e1 : ((ES.mk id k tm esq rf nn cd enm ky [d0, d1, d2, d3, d4] eo).cells.drop 1).take 1 = [.int .i64 k] := rfl
  have e7 : ((ES.mk id k tm esq rf nn cd enm ky [d0, d1, d2, d3, d4] eo).cells.drop 7).take 1 = [.str enm] := rfl
  have e9 : ((ES.mk id k tm esq rf nn cd enm ky [d0, d1, d2, d3, d4] eo).cells.drop 9).take 5 = [d0, d1, d2, d3, d4] := rfl
  have hev : EvR H (ES.mk id k tm esq rf nn cd enm ky [d0, d1, d2, d3, d4] eo).cells k [d0, d1, d2, d3, d4] := he.evr
  have hedB2 : VR ndB B [d0, d1, d2, d3, d4] := hedB
  generalize hee : (ES.mk id k tm esq rf nn cd enm ky [d0, d1, d2, d3, d4] eo) = e at *
  have hk : e.k = k := by rw [← hee]
  refine WF_body Try.func33 (by kernel_rfl) rfl Try.ntmps33 (by rw [Try.results33]) (of_decide_eq_true (by kernel_rfl)) ?_
  simp (maxSteps := 1000000) only [sx, fx, icI, icS, icB, icN, icL, implies_true, evBuildSlice, fillE, fillA, here, plain, laid, evOp, avOf, avCell, strOf, evBin, evInt, evStr, evUn, evResults, evResultsL, AV.isUndef, AV.cells, Heap.store, wbool_off, after_scope, Nat.reduceMul, Nat.reducePow, Nat.reduceSub, Nat.reduceBEq, UInt8.reduceToNat, Nat.reduceEqDiff, Nat.reduceLT, reduceCtorEq, Nat.reduceAdd, Nat.reduceLeDiff, hF.at, hF.hp, hel, et]
  generalize hH1 : HP H [Blk.row 63 24 [e.cells] 0 0, _] = H1
  have g0 : H1.blk H.next = some (.row 63 24 [e.cells] 0 0) := by rw [← hH1, hp_blk0]; rfl
  have g1 : H1.blk (H.next + 1) = some (.row 33 24 [z33] 0 0) := by rw [← hH1, hp_blk]; rfl
  have hF1 : Free H1 := hH1 ▸ hF.hpF _
  have hU1 : Up H H1 := hH1 ▸ hF.hpU _
  refine callStep (f39_ok (hev.up hU1) hF1 _ fun b H2 hfit hU2 hF2 => ?_)
  have h0 := hU2 _ _ g0
  have h1 := hU2 _ _ g1
  have hUU := hU1.trans hU2
  unfold z33 at h1
  have fU := fun y => hUU.set (hF (H.next + 1) (by omega)) y
  have fF := fun y => hF2.set (hF2.lt h1) y
  cases b with
  | false =>
    simp (maxSteps := 1000000) only [sx, fx, icI, icS, icB, icN, icL, implies_true, evBuildSlice, fillE, fillA, here, plain, laid, evOp, avOf, avCell, strOf, evBin, evInt, evStr, evUn, evResults, evResultsL, AV.isUndef, AV.cells, Heap.store, wbool_off, after_scope, Nat.reduceMul, Nat.reducePow, Nat.reduceSub, Nat.reduceBEq, UInt8.reduceToNat, Nat.reduceEqDiff, Nat.reduceLT, reduceCtorEq, Nat.reduceAdd, Nat.reduceLeDiff, h0, h1, e0, e1, hel]
    exact hK _ _ (PRes.err (by decide)) (fU _) (fF _)
  | true =>
  cases hk1 : (k != 1) with
  | true =>
    simp (maxSteps := 1000000) only [sx, fx, icI, icS, icB, icN, icL, implies_true, evBuildSlice, fillE, fillA, here, plain, laid, evOp, avOf, avCell, strOf, evBin, evInt, evStr, evUn, evResults, evResultsL, AV.isUndef, AV.cells, Heap.store, wbool_off, after_scope, Nat.reduceMul, Nat.reducePow, Nat.reduceSub, Nat.reduceBEq, UInt8.reduceToNat, Nat.reduceEqDiff, Nat.reduceLT, reduceCtorEq, Nat.reduceAdd, Nat.reduceLeDiff, h0, h1, e0, e1, hel, hk1]
    exact hK _ _ (PRes.err (by decide)) (fU _) (fF _)
  | false =>
  have hk1' : k = 1 := by simpa using hk1
  cases hi : (id != 1) with
  | true =>
    simp (maxSteps := 1000000) only [sx, fx, icI, icS, icB, icN, icL, implies_true, evBuildSlice, fillE, fillA, here, plain, laid, evOp, avOf, avCell, strOf, evBin, evInt, evStr, evUn, evResults, evResultsL, AV.isUndef, AV.cells, Heap.store, wbool_off, after_scope, Nat.reduceMul, Nat.reducePow, Nat.reduceSub, Nat.reduceBEq, UInt8.reduceToNat, Nat.reduceEqDiff, Nat.reduceLT, reduceCtorEq, Nat.reduceAdd, Nat.reduceLeDiff, h0, h1, e0, e1, hel, hk1, hi]
    exact hK _ _ (PRes.err (by decide)) (fU _) (fF _)
  | false =>
    simp (maxSteps := 1000000) only [sx, fx, icI, icS, icB, icN, icL, implies_true, evBuildSlice, fillE, fillA, here, plain, laid, evOp, avOf, avCell, strOf, evBin, evInt, evStr, evUn, evResults, evResultsL, AV.isUndef, AV.cells, Heap.store, wbool_off, after_scope, Nat.reduceMul, Nat.reducePow, Nat.reduceSub, Nat.reduceBEq, UInt8.reduceToNat, Nat.reduceEqDiff, Nat.reduceLT, reduceCtorEq, Nat.reduceAdd, Nat.reduceLeDiff, splice, h0, h1, e0, e1, e7, e9, hel, hk1, hi, hcd0, hcd1, hcd2, hcd3, hcd4]
    refine hK _ _ (PRes.ok (p := (PS.mk 2 0 0 0 0 0 enm [d0, d1, d2, d3, d4] [.int .i64 5, .int .i64 0, .str [], .nilslice, .nilslice] false .nilslice .nilslice .nilslice .nilslice .nilslice .nilslice [] [] [] [] [] [])) ?_ ⟨fun h => absurd h (by omega), fun h => absurd h (by omega)⟩) (fU _) (fF _)
    exact { inn := ⟨ndB, hedB2.up (sub_up hB (fU _))⟩, atr := ⟨5, 0, [], .nilslice, .nilslice, [], [], rfl, Holds.nil, Holds.nil, ⟨0, by simp⟩, by simp [StrL], rfl, by simp⟩, ha := Holds.nil, ht := Holds.nil, hk := Holds.nil, hs := Holds.nil, hu := Holds.nil, hr := Holds.nil, na := by simp, nt := by simp, nk := by simp, ns := by simp, nu := by simp, nr := by simp, ca := by simp, ct := by simp, ck := by simp, cs := by simp, cu := by simp, cr := by simp [StrL], sq0 := by simp, sqN := by simp }

set_option maxHeartbeats 8000000 in
theorem f34_ok {H B : Heap} {N : Nat} {p : PS} {e : ES} (hB : Up B H) (hpB : PR B N p) (heB : ER B e) (hN : N ≤ 60) (hF : Free H) (K : AV → Heap → Prop) (hK : ∀ r H', PRes (hsub H' H B) (N + 1) (Post e) r → Up H H' → Free H' → K r H') : WF Try.prog 34 [.agg p.cells, .agg e.cells] H K := by
  have hp := hpB.up hB
  have he := heB.up hB
  have hpl := hp.len
  have hel := he.len
  have pt : p.cells.take 24 = p.cells := List.take_of_length_le (by omega)
  have et : e.cells.take 24 = e.cells := List.take_of_length_le (by omega)
  have e0 : (e.cells).take 1 = [.int .i64 e.id] := rfl
  have e1 : (e.cells.drop 1).take 1 = [.int .i64 e.k] := rfl
  have p0 : (p.cells).take 1 = [.int .i64 p.nx] := rfl
  have p1 : (p.cells.drop 1).take 1 = [.int .i64 p.st] := rfl
  refine WF_body Try.func34 (by kernel_rfl) rfl Try.ntmps34 (by rw [Try.results34]) (of_decide_eq_true (by kernel_rfl)) ?_
  simp (maxSteps := 1000000) only [sx, fx, icI, icS, icB, icN, icL, implies_true, evBuildSlice, fillE, fillA, here, plain, laid, evOp, avOf, avCell, strOf, evBin, evInt, evStr, evUn, evResults, evResultsL, AV.isUndef, AV.cells, Heap.store, wbool_off, after_scope, Nat.reduceMul, Nat.reducePow, Nat.reduceSub, Nat.reduceBEq, UInt8.reduceToNat, Nat.reduceEqDiff, Nat.reduceLT, reduceCtorEq, Nat.reduceAdd, Nat.reduceLeDiff, hF.at, hF.hp, hpl, hel, et]
  generalize hH1 : HP H [Blk.row 33 24 [p.cells] 0 0, Blk.row 63 24 [e.cells] 0 0, _] = H1
  have g0 : H1.blk H.next = some (.row 33 24 [p.cells] 0 0) := by rw [← hH1, hp_blk0]; rfl
  have g1 : H1.blk (H.next + 1) = some (.row 63 24 [e.cells] 0 0) := by rw [← hH1, hp_blk]; rfl
  have g2 : H1.blk (H.next + 2) = some (.row 33 24 [z33] 0 0) := by rw [← hH1, hp_blk]; rfl
  have hF1 : Free H1 := hH1 ▸ hF.hpF _
  have hU1 : Up H H1 := hH1 ▸ hF.hpU _
  refine callStep (f39_ok (he.evr.up hU1) hF1 _ fun b H2 hfit hU2 hF2 => ?_)
  have h0 := hU2 _ _ g0
  have h1 := hU2 _ _ g1
  have h2 := hU2 _ _ g2
  have h2' := h2
  unfold z33 at h2'
  have hUU := hU1.trans hU2
  have fU := fun y => hUU.set (hF (H.next + 2) (by omega)) y
  have fF := fun y => hF2.set (hF2.lt h2) y
  cases b with
  | false =>
    simp (maxSteps := 1000000) only [sx, fx, icI, icS, icB, icN, icL, implies_true, evBuildSlice, fillE, fillA, here, plain, laid, evOp, avOf, avCell, strOf, evBin, evInt, evStr, evUn, evResults, evResultsL, AV.isUndef, AV.cells, Heap.store, wbool_off, after_scope, Nat.reduceMul, Nat.reducePow, Nat.reduceSub, Nat.reduceBEq, UInt8.reduceToNat, Nat.reduceEqDiff, Nat.reduceLT, reduceCtorEq, Nat.reduceAdd, Nat.reduceLeDiff, h0, h1, h2', e1, hel]
    exact hK _ _ (PRes.err (by decide)) (fU _) (fF _)
  | true =>
  cases hk1 : (e.k == 1) with
  | true =>
    simp (maxSteps := 1000000) only [sx, fx, icI, icS, icB, icN, icL, implies_true, evBuildSlice, fillE, fillA, here, plain, laid, evOp, avOf, avCell, strOf, evBin, evInt, evStr, evUn, evResults, evResultsL, AV.isUndef, AV.cells, Heap.store, wbool_off, after_scope, Nat.reduceMul, Nat.reducePow, Nat.reduceSub, Nat.reduceBEq, UInt8.reduceToNat, Nat.reduceEqDiff, Nat.reduceLT, reduceCtorEq, Nat.reduceAdd, Nat.reduceLeDiff, h0, h1, h2', e1, hel, hk1]
    exact hK _ _ (PRes.err (by decide)) (fU _) (fF _)
  | false =>
  cases hi : (e.id != p.nx) with
  | true =>
    simp (maxSteps := 1000000) only [sx, fx, icI, icS, icB, icN, icL, implies_true, evBuildSlice, fillE, fillA, here, plain, laid, evOp, avOf, avCell, strOf, evBin, evInt, evStr, evUn, evResults, evResultsL, AV.isUndef, AV.cells, Heap.store, wbool_off, after_scope, Nat.reduceMul, Nat.reducePow, Nat.reduceSub, Nat.reduceBEq, UInt8.reduceToNat, Nat.reduceEqDiff, Nat.reduceLT, reduceCtorEq, Nat.reduceAdd, Nat.reduceLeDiff, h0, h1, h2', e0, e1, p0, hel, hpl, hk1, hi]
    exact hK _ _ (PRes.err (by decide)) (fU _) (fF _)
  | false =>
  cases hst : (p.st != 0) with
  | true =>
    simp (maxSteps := 1000000) only [sx, fx, icI, icS, icB, icN, icL, implies_true, evBuildSlice, fillE, fillA, here, plain, laid, evOp, avOf, avCell, strOf, evBin, evInt, evStr, evUn, evResults, evResultsL, AV.isUndef, AV.cells, Heap.store, wbool_off, after_scope, Nat.reduceMul, Nat.reducePow, Nat.reduceSub, Nat.reduceBEq, UInt8.reduceToNat, Nat.reduceEqDiff, Nat.reduceLT, reduceCtorEq, Nat.reduceAdd, Nat.reduceLeDiff, h0, h1, h2', e0, e1, p0, p1, hel, hpl, hk1, hi, hst]
    exact hK _ _ (PRes.err (by decide)) (fU _) (fF _)
  | false =>
  simp (maxSteps := 1000000) only [sx, fx, icI, icS, icB, icN, icL, implies_true, evBuildSlice, fillE, fillA, here, plain, laid, evOp, avOf, avCell, strOf, evBin, evInt, evStr, evUn, evResults, evResultsL, AV.isUndef, AV.cells, Heap.store, wbool_off, after_scope, Nat.reduceMul, Nat.reducePow, Nat.reduceSub, Nat.reduceBEq, UInt8.reduceToNat, Nat.reduceEqDiff, Nat.reduceLT, reduceCtorEq, Nat.reduceAdd, Nat.reduceLeDiff, h0, h1, e0, e1, p0, p1, pt, et, hel, hpl, hk1, hi, hst]
  refine callStep (f40_ok (B := B) (hB.trans hUU) hpB heB hN (hfit rfl) hF2 _ fun r H4 hr hU4 hF4 => ?_)
  obtain ⟨cs, er, rfl, cl, cc, cp⟩ := hr
  have k0 := hU4 _ _ h0
  have k2 := hU4 _ _ h2
  have j0 : ∀ xs, (HP H4 xs).blk H.next = some (.row 33 24 [p.cells] 0 0) := fun xs => hF4.hpU xs _ _ k0
  have j2 : ∀ xs, (HP H4 xs).blk (H.next + 2) = some (.row 33 24 [z33] 0 0) := fun xs => hF4.hpU xs _ _ k2
  have cs24 : cs.take 24 = cs := List.take_of_length_le (by omega)
  have hs33 : splice z33 0 cs = cs := by simp [splice, z33, cl]
  have gU := fun xs y => ((hUU.trans hU4).trans (hF4.hpU xs)).set (hF (H.next + 2) (by omega)) y
  have gF := fun xs y => (hF4.hpF xs).set ((hF4.hpF xs).lt (j2 xs)) y
  have hsb := fun xs y => (sub_mono (H := H2) (B := B) (hF4.hpU xs)).trans (sub_set (K := HP H4 xs) (H := H) (H1 := H2) (B := B) (b := H.next + 2) hUU (by rw [h2]; simp) (none_of hF hB) y)
  have j2' := j2
  unfold z33 at j2' hs33
  cases her : (er != 0) with
  | true =>
    have hne : er ≠ 0 := by simpa using her
    simp (maxSteps := 1000000) only [sx, fx, icI, icS, icB, icN, icL, implies_true, evBuildSlice, fillE, fillA, here, plain, laid, evOp, avOf, avCell, strOf, evBin, evInt, evStr, evUn, evResults, evResultsL, AV.isUndef, AV.cells, Heap.store, wbool_off, after_scope, Nat.reduceMul, Nat.reducePow, Nat.reduceSub, Nat.reduceBEq, UInt8.reduceToNat, Nat.reduceEqDiff, Nat.reduceLT, reduceCtorEq, Nat.reduceAdd, Nat.reduceLeDiff, hF4.at, hF4.hp, j0, j2', cl, cc, cs24, hs33, her]
    exact hK _ _ (PRes.err hne) (gU _ _) (gF _ _)
  | false =>
    obtain rfl : er = 0 := by simpa using her
    obtain ⟨q, rfl, hq, hpost⟩ := cp rfl
    have hset : ∀ x, q.cells.set 0 (.int .i64 x) = (q.wnx x).cells := fun x => rfl
    have wl := fun x => (hq.wnx x).len
    have wc := fun x => (hq.wnx x).cells
    have wt : ∀ x, (q.wnx x).cells.take 24 = (q.wnx x).cells := fun x => List.take_of_length_le (by rw [wl]; omega)
    have hs33' : ∀ x, splice z33 0 (q.wnx x).cells = (q.wnx x).cells := fun x => by simp [splice, z33, wl]
    unfold z33 at hs33'
    simp (maxSteps := 1000000) only [sx, fx, icI, icS, icB, icN, icL, implies_true, evBuildSlice, fillE, fillA, here, plain, laid, evOp, avOf, avCell, strOf, evBin, evInt, evStr, evUn, evResults, evResultsL, AV.isUndef, AV.cells, Heap.store, wbool_off, after_scope, Nat.reduceMul, Nat.reducePow, Nat.reduceSub, Nat.reduceBEq, UInt8.reduceToNat, Nat.reduceEqDiff, Nat.reduceLT, reduceCtorEq, Nat.reduceAdd, Nat.reduceLeDiff, hF4.at, hF4.hp, j0, j2', p0, hpl, cl, cc, cs24, hs33, her, hset, wl, wc, wt, hs33']
    exact hK _ _ (PRes.ok ((hq.wnx _).up (hsb _ _)) hpost) (gU _ _) (gF _ _)
end Go.Proofs.T
