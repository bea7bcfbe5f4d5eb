import Derived.Test.YtlllflmjpclobaaW10
set_option linter.unusedVariables false
set_option linter.unusedSimpArgs false
set_option linter.unusedVariables false
set_option linter.unusedSimpArgs false
set_option maxRecDepth 100000
namespace Go.Proofs.T
open Go.Ev

def PS.wsq (p : PS) (x : Int) : PS := { p with sq := x }
theorem PR.wsq {H : Heap} {N : Nat} {p : PS} {x : Int} (h : PR H N p) (hx : p.sq + 1 = x) : PR H (N + 1) (p.wsq x) := by
  have h0 := h.sq0; have h1 := h.sqN
  have h := h.mono (Nat.le_succ N)
  exact ⟨h.inn, h.atr, h.ha, h.ht, h.hk, h.hs, h.hu, h.hr, h.na, h.nt, h.nk, h.ns, h.nu, h.nr, fun c hc => (h.ca c hc).mono (by show p.sq ≤ x; omega), h.ct, h.ck, h.cs, h.cu, h.cr, by show 0 ≤ x; omega, by show x ≤ ((N + 1 : Nat) : Int); omega⟩
theorem TimL.cells {L : List (List AV)} (h : ∀ c ∈ L, TimR c) : ∀ c ∈ L, c.all AV.isCell = true := fun c hc => (h c hc).el.2.1
theorem KidL.cells {L : List (List AV)} (h : ∀ c ∈ L, KidR c) : ∀ c ∈ L, c.all AV.isCell = true := fun c hc => (h c hc).el.2.1
theorem SndL.cells {L : List (List AV)} (h : ∀ c ∈ L, SndR c) : ∀ c ∈ L, c.all AV.isCell = true := fun c hc => (h c hc).el.2.1
theorem find_snoc {L : List (List AV)} {c : List AV} {x : Int} (h : ∀ y ∈ L, seqOf y ≠ x) (hc : seqOf c = x) : (L ++ [c]).find? (fun c => seqOf c == x) = some c := by
  rw [List.find?_append, List.find?_eq_none.2 (fun y hy => by simpa using h y hy)]; simp [hc]

set_option maxHeartbeats 16000000 in
theorem f56_ok {H B : Heap} {N : Nat} {p : PS} {e : ES} (hB : Up B H) (hpB : PR B N p) (heB : ER B e) (hN : N ≤ 60) (hk2 : e.k ≠ 2) (hF : Free H) (K : AV → Heap → Prop) (hK : ∀ r H', PRes (hsub H' H B) (N + 1) (Post e) r → Up H H' → Free H' → K r H') : WF Try.prog 56 [.agg p.cells, .agg e.cells] H K := by
  have hp := hpB.up hB
  have he := heB.up hB
  have hpl := hp.len
  have hel := he.len
  have pt : p.cells.take 24 = p.cells := List.take_of_length_le (by omega)
  have p5 : (p.cells.drop 5).take 1 = [.int .i64 p.sq] := rfl
  have hs0 := hp.sq0
  have hsN := hp.sqN
  have hw : IntKind.i64.wrap (p.sq + 1) = p.sq + 1 := IntWalk.i64_in _ (by omega)
  obtain ⟨ndB, hedB⟩ : ∃ n, TB n B e.d := heB.dt
  have heoB : PolT B e.o := heB.ot
  obtain ⟨id, k, tm, esq, rf, nn, cd, enm, ky, ed, eo⟩ := e
  obtain ⟨nd, hed⟩ : ∃ n, VR n H ed := he.d
  have heo : PolR H eo := he.o
  obtain ⟨d0, d1, d2, d3, d4, rfl⟩ := five hed.len
  obtain ⟨o0, o1, o2, o3, o4, o5, o6, o7, o8, o9, rfl⟩ := ten heo.len
  have hcd := hed.cells
  have hco := heo.cells
  simp only [List.all_cons, List.all_nil, Bool.and_eq_true, Bool.and_true] at hcd hco
  obtain ⟨hcd0, hcd1, hcd2, hcd3, hcd4⟩ := hcd
  obtain ⟨hco0, hco1, hco2, hco3, hco4, hco5, hco6, hco7, hco8, hco9⟩ := hco
  have e0 : ((ES.mk id k tm esq rf nn cd enm ky [d0, d1, d2, d3, d4] [o0, o1, o2, o3, o4, o5, o6, o7, o8, o9]).cells).take 1 = [.int .i64 id] := rfl
  have e1 : ((ES.mk id k tm esq rf nn cd enm ky [d0, d1, d2, d3, d4] [o0, o1, o2, o3, o4, o5, o6, o7, o8, o9]).cells.drop 1).take 1 = [.int .i64 k] := rfl
  have e2 : ((ES.mk id k tm esq rf nn cd enm ky [d0, d1, d2, d3, d4] [o0, o1, o2, o3, o4, o5, o6, o7, o8, o9]).cells.drop 2).take 1 = [.int .i64 tm] := rfl
  have e3 : ((ES.mk id k tm esq rf nn cd enm ky [d0, d1, d2, d3, d4] [o0, o1, o2, o3, o4, o5, o6, o7, o8, o9]).cells.drop 3).take 1 = [.int .i64 esq] := rfl
  have e5 : ((ES.mk id k tm esq rf nn cd enm ky [d0, d1, d2, d3, d4] [o0, o1, o2, o3, o4, o5, o6, o7, o8, o9]).cells.drop 5).take 1 = [.int .i64 nn] := rfl
  have e7 : ((ES.mk id k tm esq rf nn cd enm ky [d0, d1, d2, d3, d4] [o0, o1, o2, o3, o4, o5, o6, o7, o8, o9]).cells.drop 7).take 1 = [.str enm] := rfl
  have e8 : ((ES.mk id k tm esq rf nn cd enm ky [d0, d1, d2, d3, d4] [o0, o1, o2, o3, o4, o5, o6, o7, o8, o9]).cells.drop 8).take 1 = [.str ky] := rfl
  have e9 : ((ES.mk id k tm esq rf nn cd enm ky [d0, d1, d2, d3, d4] [o0, o1, o2, o3, o4, o5, o6, o7, o8, o9]).cells.drop 9).take 5 = [d0, d1, d2, d3, d4] := rfl
  have e14 : ((ES.mk id k tm esq rf nn cd enm ky [d0, d1, d2, d3, d4] [o0, o1, o2, o3, o4, o5, o6, o7, o8, o9]).cells.drop 14).take 10 = [o0, o1, o2, o3, o4, o5, o6, o7, o8, o9] := rfl
  have post : ∀ q, (k = 7 → ∃ c, q.acts.find? (fun c => seqOf c == esq) = some c ∧ (c.drop 18).take 2 = [.int .i64 1, .int .i64 1]) → Post (ES.mk id k tm esq rf nn cd enm ky [d0, d1, d2, d3, d4] [o0, o1, o2, o3, o4, o5, o6, o7, o8, o9]) q := fun q hq => ⟨fun h => absurd h hk2, hq⟩
  generalize (ES.mk id k tm esq rf nn cd enm ky [d0, d1, d2, d3, d4] [o0, o1, o2, o3, o4, o5, o6, o7, o8, o9]).cells = ec at *
  refine WF_body Try.func56 (by kernel_rfl) rfl Try.ntmps56 (by rw [Try.results56]) (of_decide_eq_true (by kernel_rfl)) ?_
  cases hx : (esq != p.sq + 1) with
  | true =>
    simp (maxSteps := 1000000) only [sx, fx, icI, icS, icB, icN, icL, implies_true, evBuildSlice, fillE, fillA, here, plain, laid, evOp, avOf, avCell, strOf, evBin, evInt, evStr, evUn, evResults, evResultsL, AV.isUndef, AV.cells, Heap.store, wbool_off, after_scope, Nat.reduceMul, Nat.reducePow, Nat.reduceSub, Nat.reduceBEq, UInt8.reduceToNat, Nat.reduceEqDiff, Nat.reduceLT, reduceCtorEq, Nat.reduceAdd, Nat.reduceLeDiff, hF.at, hF.hp, hpl, hel, p5, e3, hw, hx]
    exact hK _ _ (PRes.err (by decide)) (hF.hpU _) (hF.hpF _)
  | false =>
  have hsq : p.sq + 1 = esq := by have := hx; simp at this; omega
  have hset : p.cells.set 5 (.int .i64 esq) = (p.wsq esq).cells := rfl
  simp (maxSteps := 1000000) only [sx, fx, icI, icS, icB, icN, icL, implies_true, evBuildSlice, fillE, fillA, here, plain, laid, evOp, avOf, avCell, strOf, evBin, evInt, evStr, evUn, evResults, evResultsL, AV.isUndef, AV.cells, Heap.store, wbool_off, after_scope, Nat.reduceMul, Nat.reducePow, Nat.reduceSub, Nat.reduceBEq, UInt8.reduceToNat, Nat.reduceEqDiff, Nat.reduceLT, reduceCtorEq, Nat.reduceAdd, Nat.reduceLeDiff, hF.at, hF.hp, hpl, hel, p5, e3, hw, hx, e1, hset]
  have hp1 := hp.wsq hsq
  have hp1B := hpB.wsq hsq
  have hca1 : ∀ c ∈ p.acts, ActR H p.sq c := hp.ca
  have hpsq : (p.wsq esq).acts = p.acts := rfl
  have hsq1 : (p.wsq esq).sq = esq := rfl
  have m1 := hp.na
  have m2 := hp.nt
  have m3 := hp.nk
  have m4 := hp.ns
  have m1' : (p.wsq esq).acts.length = p.acts.length := rfl
  have m2' : (p.wsq esq).timers.length = p.timers.length := rfl
  have m3' : (p.wsq esq).kids.length = p.kids.length := rfl
  have m4' : (p.wsq esq).sends.length = p.sends.length := rfl
  generalize hpp : p.wsq esq = q at *
  have hql := hp1.len
  have qt : q.cells.take 24 = q.cells := List.take_of_length_le (by omega)
  have qa := hp1.da
  have qti := hp1.dt
  have qk := hp1.dk
  have qs := hp1.ds
  generalize hH1 : HP H [Blk.row 33 24 [q.cells] 0 0, Blk.row 63 24 [ec] 0 0, Blk.row 33 24 [z33] 0 0] = H1
  have hH1' := hH1
  unfold z33 at hH1'
  simp only [hH1']
  have g0 : H1.blk H.next = some (.row 33 24 [q.cells] 0 0) := by rw [← hH1, hp_blk0]; rfl
  have g1 : H1.blk (H.next + 1) = some (.row 63 24 [ec] 0 0) := by rw [← hH1, hp_blk]; rfl
  have g2 : H1.blk (H.next + 2) = some (.row 33 24 [z33] 0 0) := by rw [← hH1, hp_blk]; rfl
  have hF1 : Free H1 := hH1 ▸ hF.hpF _
  have hU1 : Up H H1 := hH1 ▸ hF.hpU _
  have f0 : ∀ xs, (HP H1 xs).blk H.next = some (.row 33 24 [q.cells] 0 0) := fun xs => hF1.hpU xs _ _ g0
  cases q7 : (k == 7) with
  | true =>
    simp (maxSteps := 1000000) only [sx, fx, icI, icS, icB, icN, icL, implies_true, evBuildSlice, fillE, fillA, here, plain, laid, evOp, avOf, avCell, strOf, evBin, evInt, evStr, evUn, evResults, evResultsL, AV.isUndef, AV.cells, Heap.store, wbool_off, after_scope, Nat.reduceMul, Nat.reducePow, Nat.reduceSub, Nat.reduceBEq, UInt8.reduceToNat, Nat.reduceEqDiff, Nat.reduceLT, reduceCtorEq, Nat.reduceAdd, Nat.reduceLeDiff, q7, hF1.at, hF1.hp, f0, qa]
    refine opStep_append app27 (own_hp (G := H1) (k := 0) (n := 0) (L := []) hF1 (Up.refl _) rfl rfl (by simp)) (hF1.hpF _) (hF1.hpU _) (hp1.ha.up (hU1.trans (hF1.hpU _))) (fun c hc => (hp1.ca c hc).el.2.1) (by simp only [maxBytes, List.length_cons, List.length_nil, List.nil_append, List.length_append]; omega) (by simp only [maxBytes, List.length_cons, List.length_nil, List.nil_append, List.length_append]; omega) (fun u H3 oO oU oF => ?_)
    simp only [List.nil_append] at oO
    have b1 := oU _ _ g1
    simp (maxSteps := 1000000) only [sx, fx, icI, icS, icB, icN, icL, implies_true, evBuildSlice, fillE, fillA, here, plain, laid, evOp, avOf, avCell, strOf, evBin, evInt, evStr, evUn, evResults, evResultsL, AV.isUndef, AV.cells, Heap.store, wbool_off, after_scope, Nat.reduceMul, Nat.reducePow, Nat.reduceSub, Nat.reduceBEq, UInt8.reduceToNat, Nat.reduceEqDiff, Nat.reduceLT, reduceCtorEq, Nat.reduceAdd, Nat.reduceLeDiff, b1, e0, e1, e2, e3, e5, e7, e8, e9, e14, hel, oF.at, oF.hp, splice, hcd0, hcd1, hcd2, hcd3, hcd4, hco0, hco1, hco2, hco3, hco4, hco5, hco6, hco7, hco8, hco9]
    refine callStep (f79_ok (s := esq) (ev := id) (nm := enm) (d := [d0, d1, d2, d3, d4]) (o := [o0, o1, o2, o3, o4, o5, o6, o7, o8, o9]) (x5 := 0) (x6 := 0) (x7 := tm) (x8 := 0) (x9 := 0) (x10 := 0) (x11 := 0) (cn := false) (dt := zv) (fl := []) rfl rfl rfl hed.cells heo.cells oF _ fun H3b vU vF => ?_)
    have hnew : ActR B q.sq (actC esq id enm [d0, d1, d2, d3, d4] [o0, o1, o2, o3, o4, o5, o6, o7, o8, o9] 1 1 tm tm 0 0 0 false zv []) := ⟨_, _, _, _, _, _, _, _, _, _, _, _, _, _, _, rfl, ⟨ndB, hedB⟩, heoB, ⟨1, tb_zv B⟩, by rw [hsq1]; exact Int.le_refl _⟩
    obtain ⟨nl, nc, n0⟩ := hnew.el
    have nt32 : (actC esq id enm [d0, d1, d2, d3, d4] [o0, o1, o2, o3, o4, o5, o6, o7, o8, o9] 1 1 tm tm 0 0 0 false zv []).take 32 = (actC esq id enm [d0, d1, d2, d3, d4] [o0, o1, o2, o3, o4, o5, o6, o7, o8, o9] 1 1 tm tm 0 0 0 false zv []) := List.take_of_length_le (by omega)
    have hf7 : ∀ v, (q.wa v (q.acts ++ [(actC esq id enm [d0, d1, d2, d3, d4] [o0, o1, o2, o3, o4, o5, o6, o7, o8, o9] 1 1 tm tm 0 0 0 false zv [])])).acts.find? (fun c => seqOf c == esq) = some (actC esq id enm [d0, d1, d2, d3, d4] [o0, o1, o2, o3, o4, o5, o6, o7, o8, o9] 1 1 tm tm 0 0 0 false zv []) ∧ ((actC esq id enm [d0, d1, d2, d3, d4] [o0, o1, o2, o3, o4, o5, o6, o7, o8, o9] 1 1 tm tm 0 0 0 false zv []).drop 18).take 2 = [.int .i64 1, .int .i64 1] := fun v => ⟨find_snoc (fun y hy => by
      have := (hca1 y (by rw [← hpsq]; exact hy)).seq
      omega) rfl, rfl⟩
    generalize (actC esq id enm [d0, d1, d2, d3, d4] [o0, o1, o2, o3, o4, o5, o6, o7, o8, o9] 1 1 tm tm 0 0 0 false zv []) = nw at *
    simp (maxSteps := 1000000) only [sx, fx, icI, icS, icB, icN, icL, implies_true, evBuildSlice, fillE, fillA, here, plain, laid, evOp, avOf, avCell, strOf, evBin, evInt, evStr, evUn, evResults, evResultsL, AV.isUndef, AV.cells, Heap.store, wbool_off, after_scope, Nat.reduceMul, Nat.reducePow, Nat.reduceSub, Nat.reduceBEq, UInt8.reduceToNat, Nat.reduceEqDiff, Nat.reduceLT, reduceCtorEq, Nat.reduceAdd, Nat.reduceLeDiff, vF.at, vF.hp, nl, nc, nt32]
    refine opStep_append app27 ((oO.up vU).up (vF.hpU _)) (vF.hpF _) ((oU.trans vU).trans (vF.hpU _)) (holds_hp (k := 0) (L := [nw]) rfl rfl (Nat.le_refl _) (by simp [nl])) (fun cs hcs => by rw [List.mem_singleton] at hcs; rw [hcs]; exact nc) (by simp only [maxBytes, List.length_cons, List.length_nil, List.nil_append, List.length_append]; omega) (by simp only [maxBytes, List.length_cons, List.length_nil, List.nil_append, List.length_append]; omega) (fun out H4 qO qU qF => ?_)
    have r0 := qU _ _ g0
    have r2 := qU _ _ g2
    unfold z33 at r2
    have hoc := holds_cell qO.holds
    have fin := fun x y => two_set qO qU hU1 hF qF (a := H.next) (b := H.next + 2) (by rw [g0]; simp) (by rw [g2]; simp) (Nat.le_refl _) (by omega) x y
    have hset := hp1.sa out (q.acts ++ [nw])
    have hLs : ∀ c ∈ q.acts ++ [nw], ActR B q.sq c := fun c hc => by
      rcases List.mem_append.1 hc with hc | hc
      · exact hp1B.ca c hc
      · simp at hc; subst hc; exact hnew
    have hpr := fun x y => hp1B.acts (M := N + 1) (sub_up hB (fin x y).1) (sub_own (fin x y).2.2.2) (by simp; omega) (by omega) hLs
    have wl := (hpr (.row 33 24 [] 0 0) (.row 33 24 [] 0 0)).len
    have wc := (hpr (.row 33 24 [] 0 0) (.row 33 24 [] 0 0)).cells
    have wt : (q.wa out (q.acts ++ [nw])).cells.take 24 = (q.wa out (q.acts ++ [nw])).cells := List.take_of_length_le (by omega)
    have hs33 : splice z33 0 (q.wa out (q.acts ++ [nw])).cells = (q.wa out (q.acts ++ [nw])).cells := by simp [splice, z33, wl]
    unfold z33 at hs33
    rcases own_shape qO with rfl | rfl | ⟨sb, so, sl, sc, sx', sg, rfl⟩
    all_goals
      simp (maxSteps := 1000000) only [sx, fx, icI, icS, icB, icN, icL, implies_true, evBuildSlice, fillE, fillA, here, plain, laid, evOp, avOf, avCell, strOf, evBin, evInt, evStr, evUn, evResults, evResultsL, AV.isUndef, AV.cells, Heap.store, wbool_off, after_scope, Nat.reduceMul, Nat.reducePow, Nat.reduceSub, Nat.reduceBEq, UInt8.reduceToNat, Nat.reduceEqDiff, Nat.reduceLT, reduceCtorEq, Nat.reduceAdd, Nat.reduceLeDiff, r0, r2, hql, set_02, hoc, hset, wl, wc, wt, hs33]
      exact hK _ _ (PRes.ok (hpr _ _) (post _ (fun _ => ⟨nw, hf7 _⟩))) (fin _ _).1 (fin _ _).2.1
  | false =>
  have k7 : k ≠ 7 := by have := q7; simp at this; exact this
  cases q14 : (k == 14) with
  | true =>
    by_cases hbig : IntKind.i64.wrap (tm + nn) > 1099511627776
    · skip
      simp (maxSteps := 1000000) only [sx, fx, icI, icS, icB, icN, icL, implies_true, evBuildSlice, fillE, fillA, here, plain, laid, evOp, avOf, avCell, strOf, evBin, evInt, evStr, evUn, evResults, evResultsL, AV.isUndef, AV.cells, Heap.store, wbool_off, after_scope, Nat.reduceMul, Nat.reducePow, Nat.reduceSub, Nat.reduceBEq, UInt8.reduceToNat, Nat.reduceEqDiff, Nat.reduceLT, reduceCtorEq, Nat.reduceAdd, Nat.reduceLeDiff, q7, q14, e2, e5, hel, g1, hbig, hF1.at, hF1.hp, f0, qti]
      refine opStep_append app28 (own_hp (G := H1) (k := 0) (n := 0) (L := []) hF1 (Up.refl _) rfl rfl (by simp)) (hF1.hpF _) (hF1.hpU _) (hp1.ht.up (hU1.trans (hF1.hpU _))) (TimL.cells hp1.ct) (by simp only [maxBytes, List.length_cons, List.length_nil, List.nil_append, List.length_append]; omega) (by simp only [maxBytes, List.length_cons, List.length_nil, List.nil_append, List.length_append]; omega) (fun u H3 oO oU oF => ?_)
      simp only [List.nil_append] at oO
      have b1 := oU _ _ g1
      simp (maxSteps := 1000000) only [sx, fx, icI, icS, icB, icN, icL, implies_true, evBuildSlice, fillE, fillA, here, plain, laid, evOp, avOf, avCell, strOf, evBin, evInt, evStr, evUn, evResults, evResultsL, AV.isUndef, AV.cells, Heap.store, wbool_off, after_scope, Nat.reduceMul, Nat.reducePow, Nat.reduceSub, Nat.reduceBEq, UInt8.reduceToNat, Nat.reduceEqDiff, Nat.reduceLT, reduceCtorEq, Nat.reduceAdd, Nat.reduceLeDiff, b1, e0, e1, e2, e3, e5, e7, e8, e9, e14, hel, oF.at, oF.hp, splice]
      refine opStep_append app28 (oO.up (oF.hpU _)) (oF.hpF _) (oU.trans (oF.hpU _)) (holds_hp (k := 0) (L := [[.int .i64 esq, .int .i64 id, .int .i64 1099511627776]]) rfl rfl (Nat.le_refl _) (by simp)) (fun cs hcs => by rw [List.mem_singleton] at hcs; rw [hcs]; rfl) (by simp only [maxBytes, List.length_cons, List.length_nil, List.nil_append, List.length_append]; omega) (by simp only [maxBytes, List.length_cons, List.length_nil, List.nil_append, List.length_append]; omega) (fun out H4 qO qU qF => ?_)
      have r0 := qU _ _ g0
      have r2 := qU _ _ g2
      unfold z33 at r2
      have hoc := holds_cell qO.holds
      have fin := fun x y => two_set qO qU hU1 hF qF (a := H.next) (b := H.next + 2) (by rw [g0]; simp) (by rw [g2]; simp) (Nat.le_refl _) (by omega) x y
      have hset := hp1.st out (q.timers ++ [[.int .i64 esq, .int .i64 id, .int .i64 1099511627776]])
      have hLs : ∀ c ∈ (q.timers ++ [[.int .i64 esq, .int .i64 id, .int .i64 1099511627776]]), TimR c := fun c hc => by
        rcases List.mem_append.1 hc with hc | hc
        · exact hp1.ct c hc
        · simp at hc; subst hc; exact ⟨_, _, _, rfl⟩
      have hpr := fun x y => hp1B.wt (M := N + 1) (sub_up hB (fin x y).1) (sub_own (fin x y).2.2.2) (by simp; omega) (by omega) hLs
      have wl := (hpr (.row 33 24 [] 0 0) (.row 33 24 [] 0 0)).len
      have wc := (hpr (.row 33 24 [] 0 0) (.row 33 24 [] 0 0)).cells
      have wt : (q.wt out (q.timers ++ [[.int .i64 esq, .int .i64 id, .int .i64 1099511627776]])).cells.take 24 = (q.wt out (q.timers ++ [[.int .i64 esq, .int .i64 id, .int .i64 1099511627776]])).cells := List.take_of_length_le (by omega)
      have hs33 : splice z33 0 (q.wt out (q.timers ++ [[.int .i64 esq, .int .i64 id, .int .i64 1099511627776]])).cells = (q.wt out (q.timers ++ [[.int .i64 esq, .int .i64 id, .int .i64 1099511627776]])).cells := by simp [splice, z33, wl]
      unfold z33 at hs33
      rcases own_shape qO with rfl | rfl | ⟨sb, so, sl, sc, sx', sg, rfl⟩
      all_goals
        simp (maxSteps := 1000000) only [sx, fx, icI, icS, icB, icN, icL, implies_true, evBuildSlice, fillE, fillA, here, plain, laid, evOp, avOf, avCell, strOf, evBin, evInt, evStr, evUn, evResults, evResultsL, AV.isUndef, AV.cells, Heap.store, wbool_off, after_scope, Nat.reduceMul, Nat.reducePow, Nat.reduceSub, Nat.reduceBEq, UInt8.reduceToNat, Nat.reduceEqDiff, Nat.reduceLT, reduceCtorEq, Nat.reduceAdd, Nat.reduceLeDiff, r0, r2, hql, set_02, hoc, hset, wl, wc, wt, hs33]
        exact hK _ _ (PRes.ok (hpr _ _) (post _ (fun h => absurd h k7))) (fin _ _).1 (fin _ _).2.1
    · skip
      simp (maxSteps := 1000000) only [sx, fx, icI, icS, icB, icN, icL, implies_true, evBuildSlice, fillE, fillA, here, plain, laid, evOp, avOf, avCell, strOf, evBin, evInt, evStr, evUn, evResults, evResultsL, AV.isUndef, AV.cells, Heap.store, wbool_off, after_scope, Nat.reduceMul, Nat.reducePow, Nat.reduceSub, Nat.reduceBEq, UInt8.reduceToNat, Nat.reduceEqDiff, Nat.reduceLT, reduceCtorEq, Nat.reduceAdd, Nat.reduceLeDiff, q7, q14, e2, e5, hel, g1, hbig, hF1.at, hF1.hp, f0, qti]
      refine opStep_append app28 (own_hp (G := H1) (k := 0) (n := 0) (L := []) hF1 (Up.refl _) rfl rfl (by simp)) (hF1.hpF _) (hF1.hpU _) (hp1.ht.up (hU1.trans (hF1.hpU _))) (TimL.cells hp1.ct) (by simp only [maxBytes, List.length_cons, List.length_nil, List.nil_append, List.length_append]; omega) (by simp only [maxBytes, List.length_cons, List.length_nil, List.nil_append, List.length_append]; omega) (fun u H3 oO oU oF => ?_)
      simp only [List.nil_append] at oO
      have b1 := oU _ _ g1
      simp (maxSteps := 1000000) only [sx, fx, icI, icS, icB, icN, icL, implies_true, evBuildSlice, fillE, fillA, here, plain, laid, evOp, avOf, avCell, strOf, evBin, evInt, evStr, evUn, evResults, evResultsL, AV.isUndef, AV.cells, Heap.store, wbool_off, after_scope, Nat.reduceMul, Nat.reducePow, Nat.reduceSub, Nat.reduceBEq, UInt8.reduceToNat, Nat.reduceEqDiff, Nat.reduceLT, reduceCtorEq, Nat.reduceAdd, Nat.reduceLeDiff, b1, e0, e1, e2, e3, e5, e7, e8, e9, e14, hel, oF.at, oF.hp, splice]
      refine opStep_append app28 (oO.up (oF.hpU _)) (oF.hpF _) (oU.trans (oF.hpU _)) (holds_hp (k := 0) (L := [[.int .i64 esq, .int .i64 id, .int .i64 (IntKind.i64.wrap (tm + nn))]]) rfl rfl (Nat.le_refl _) (by simp)) (fun cs hcs => by rw [List.mem_singleton] at hcs; rw [hcs]; rfl) (by simp only [maxBytes, List.length_cons, List.length_nil, List.nil_append, List.length_append]; omega) (by simp only [maxBytes, List.length_cons, List.length_nil, List.nil_append, List.length_append]; omega) (fun out H4 qO qU qF => ?_)
      have r0 := qU _ _ g0
      have r2 := qU _ _ g2
      unfold z33 at r2
      have hoc := holds_cell qO.holds
      have fin := fun x y => two_set qO qU hU1 hF qF (a := H.next) (b := H.next + 2) (by rw [g0]; simp) (by rw [g2]; simp) (Nat.le_refl _) (by omega) x y
      have hset := hp1.st out (q.timers ++ [[.int .i64 esq, .int .i64 id, .int .i64 (IntKind.i64.wrap (tm + nn))]])
      have hLs : ∀ c ∈ (q.timers ++ [[.int .i64 esq, .int .i64 id, .int .i64 (IntKind.i64.wrap (tm + nn))]]), TimR c := fun c hc => by
        rcases List.mem_append.1 hc with hc | hc
        · exact hp1.ct c hc
        · simp at hc; subst hc; exact ⟨_, _, _, rfl⟩
      have hpr := fun x y => hp1B.wt (M := N + 1) (sub_up hB (fin x y).1) (sub_own (fin x y).2.2.2) (by simp; omega) (by omega) hLs
      have wl := (hpr (.row 33 24 [] 0 0) (.row 33 24 [] 0 0)).len
      have wc := (hpr (.row 33 24 [] 0 0) (.row 33 24 [] 0 0)).cells
      have wt : (q.wt out (q.timers ++ [[.int .i64 esq, .int .i64 id, .int .i64 (IntKind.i64.wrap (tm + nn))]])).cells.take 24 = (q.wt out (q.timers ++ [[.int .i64 esq, .int .i64 id, .int .i64 (IntKind.i64.wrap (tm + nn))]])).cells := List.take_of_length_le (by omega)
      have hs33 : splice z33 0 (q.wt out (q.timers ++ [[.int .i64 esq, .int .i64 id, .int .i64 (IntKind.i64.wrap (tm + nn))]])).cells = (q.wt out (q.timers ++ [[.int .i64 esq, .int .i64 id, .int .i64 (IntKind.i64.wrap (tm + nn))]])).cells := by simp [splice, z33, wl]
      unfold z33 at hs33
      rcases own_shape qO with rfl | rfl | ⟨sb, so, sl, sc, sx', sg, rfl⟩
      all_goals
        simp (maxSteps := 1000000) only [sx, fx, icI, icS, icB, icN, icL, implies_true, evBuildSlice, fillE, fillA, here, plain, laid, evOp, avOf, avCell, strOf, evBin, evInt, evStr, evUn, evResults, evResultsL, AV.isUndef, AV.cells, Heap.store, wbool_off, after_scope, Nat.reduceMul, Nat.reducePow, Nat.reduceSub, Nat.reduceBEq, UInt8.reduceToNat, Nat.reduceEqDiff, Nat.reduceLT, reduceCtorEq, Nat.reduceAdd, Nat.reduceLeDiff, r0, r2, hql, set_02, hoc, hset, wl, wc, wt, hs33]
        exact hK _ _ (PRes.ok (hpr _ _) (post _ (fun h => absurd h k7))) (fin _ _).1 (fin _ _).2.1
  | false =>
  cases q19 : (k == 19) with
  | true =>
    simp (maxSteps := 1000000) only [sx, fx, icI, icS, icB, icN, icL, implies_true, evBuildSlice, fillE, fillA, here, plain, laid, evOp, avOf, avCell, strOf, evBin, evInt, evStr, evUn, evResults, evResultsL, AV.isUndef, AV.cells, Heap.store, wbool_off, after_scope, Nat.reduceMul, Nat.reducePow, Nat.reduceSub, Nat.reduceBEq, UInt8.reduceToNat, Nat.reduceEqDiff, Nat.reduceLT, reduceCtorEq, Nat.reduceAdd, Nat.reduceLeDiff, q7, q14, q19, hF1.at, hF1.hp, f0, qk]
    refine opStep_append app29 (own_hp (G := H1) (k := 0) (n := 0) (L := []) hF1 (Up.refl _) rfl rfl (by simp)) (hF1.hpF _) (hF1.hpU _) (hp1.hk.up (hU1.trans (hF1.hpU _))) (KidL.cells hp1.ck) (by simp only [maxBytes, List.length_cons, List.length_nil, List.nil_append, List.length_append]; omega) (by simp only [maxBytes, List.length_cons, List.length_nil, List.nil_append, List.length_append]; omega) (fun u H3 oO oU oF => ?_)
    simp only [List.nil_append] at oO
    have b1 := oU _ _ g1
    simp (maxSteps := 1000000) only [sx, fx, icI, icS, icB, icN, icL, implies_true, evBuildSlice, fillE, fillA, here, plain, laid, evOp, avOf, avCell, strOf, evBin, evInt, evStr, evUn, evResults, evResultsL, AV.isUndef, AV.cells, Heap.store, wbool_off, after_scope, Nat.reduceMul, Nat.reducePow, Nat.reduceSub, Nat.reduceBEq, UInt8.reduceToNat, Nat.reduceEqDiff, Nat.reduceLT, reduceCtorEq, Nat.reduceAdd, Nat.reduceLeDiff, b1, e0, e1, e2, e3, e5, e7, e8, e9, e14, hel, oF.at, oF.hp, splice]
    refine opStep_append app29 (oO.up (oF.hpU _)) (oF.hpF _) (oU.trans (oF.hpU _)) (holds_hp (k := 0) (L := [[.int .i64 esq, .int .i64 id, .str ky, .str enm, .int .i64 nn, .str []]]) rfl rfl (Nat.le_refl _) (by simp)) (fun cs hcs => by rw [List.mem_singleton] at hcs; rw [hcs]; rfl) (by simp only [maxBytes, List.length_cons, List.length_nil, List.nil_append, List.length_append]; omega) (by simp only [maxBytes, List.length_cons, List.length_nil, List.nil_append, List.length_append]; omega) (fun out H4 qO qU qF => ?_)
    have r0 := qU _ _ g0
    have r2 := qU _ _ g2
    unfold z33 at r2
    have hoc := holds_cell qO.holds
    have fin := fun x y => two_set qO qU hU1 hF qF (a := H.next) (b := H.next + 2) (by rw [g0]; simp) (by rw [g2]; simp) (Nat.le_refl _) (by omega) x y
    have hset := hp1.sk out (q.kids ++ [[.int .i64 esq, .int .i64 id, .str ky, .str enm, .int .i64 nn, .str []]])
    have hLs : ∀ c ∈ (q.kids ++ [[.int .i64 esq, .int .i64 id, .str ky, .str enm, .int .i64 nn, .str []]]), KidR c := fun c hc => by
      rcases List.mem_append.1 hc with hc | hc
      · exact hp1.ck c hc
      · simp at hc; subst hc; exact ⟨_, _, _, _, _, _, rfl⟩
    have hpr := fun x y => hp1B.wk (M := N + 1) (sub_up hB (fin x y).1) (sub_own (fin x y).2.2.2) (by simp; omega) (by omega) hLs
    have wl := (hpr (.row 33 24 [] 0 0) (.row 33 24 [] 0 0)).len
    have wc := (hpr (.row 33 24 [] 0 0) (.row 33 24 [] 0 0)).cells
    have wt : (q.wk out (q.kids ++ [[.int .i64 esq, .int .i64 id, .str ky, .str enm, .int .i64 nn, .str []]])).cells.take 24 = (q.wk out (q.kids ++ [[.int .i64 esq, .int .i64 id, .str ky, .str enm, .int .i64 nn, .str []]])).cells := List.take_of_length_le (by omega)
    have hs33 : splice z33 0 (q.wk out (q.kids ++ [[.int .i64 esq, .int .i64 id, .str ky, .str enm, .int .i64 nn, .str []]])).cells = (q.wk out (q.kids ++ [[.int .i64 esq, .int .i64 id, .str ky, .str enm, .int .i64 nn, .str []]])).cells := by simp [splice, z33, wl]
    unfold z33 at hs33
    rcases own_shape qO with rfl | rfl | ⟨sb, so, sl, sc, sx', sg, rfl⟩
    all_goals
      simp (maxSteps := 1000000) only [sx, fx, icI, icS, icB, icN, icL, implies_true, evBuildSlice, fillE, fillA, here, plain, laid, evOp, avOf, avCell, strOf, evBin, evInt, evStr, evUn, evResults, evResultsL, AV.isUndef, AV.cells, Heap.store, wbool_off, after_scope, Nat.reduceMul, Nat.reducePow, Nat.reduceSub, Nat.reduceBEq, UInt8.reduceToNat, Nat.reduceEqDiff, Nat.reduceLT, reduceCtorEq, Nat.reduceAdd, Nat.reduceLeDiff, r0, r2, hql, set_02, hoc, hset, wl, wc, wt, hs33]
      exact hK _ _ (PRes.ok (hpr _ _) (post _ (fun h => absurd h k7))) (fin _ _).1 (fin _ _).2.1
  | false =>
    simp (maxSteps := 1000000) only [sx, fx, icI, icS, icB, icN, icL, implies_true, evBuildSlice, fillE, fillA, here, plain, laid, evOp, avOf, avCell, strOf, evBin, evInt, evStr, evUn, evResults, evResultsL, AV.isUndef, AV.cells, Heap.store, wbool_off, after_scope, Nat.reduceMul, Nat.reducePow, Nat.reduceSub, Nat.reduceBEq, UInt8.reduceToNat, Nat.reduceEqDiff, Nat.reduceLT, reduceCtorEq, Nat.reduceAdd, Nat.reduceLeDiff, q7, q14, q19, hF1.at, hF1.hp, f0, qs]
    refine opStep_append app30 (own_hp (G := H1) (k := 0) (n := 0) (L := []) hF1 (Up.refl _) rfl rfl (by simp)) (hF1.hpF _) (hF1.hpU _) (hp1.hs.up (hU1.trans (hF1.hpU _))) (SndL.cells hp1.cs) (by simp only [maxBytes, List.length_cons, List.length_nil, List.nil_append, List.length_append]; omega) (by simp only [maxBytes, List.length_cons, List.length_nil, List.nil_append, List.length_append]; omega) (fun u H3 oO oU oF => ?_)
    simp only [List.nil_append] at oO
    have b1 := oU _ _ g1
    simp (maxSteps := 1000000) only [sx, fx, icI, icS, icB, icN, icL, implies_true, evBuildSlice, fillE, fillA, here, plain, laid, evOp, avOf, avCell, strOf, evBin, evInt, evStr, evUn, evResults, evResultsL, AV.isUndef, AV.cells, Heap.store, wbool_off, after_scope, Nat.reduceMul, Nat.reducePow, Nat.reduceSub, Nat.reduceBEq, UInt8.reduceToNat, Nat.reduceEqDiff, Nat.reduceLT, reduceCtorEq, Nat.reduceAdd, Nat.reduceLeDiff, b1, e0, e1, e2, e3, e5, e7, e8, e9, e14, hel, oF.at, oF.hp, splice]
    refine opStep_append app30 (oO.up (oF.hpU _)) (oF.hpF _) (oU.trans (oF.hpU _)) (holds_hp (k := 0) (L := [[.int .i64 esq, .int .i64 id, .str ky, .str enm]]) rfl rfl (Nat.le_refl _) (by simp)) (fun cs hcs => by rw [List.mem_singleton] at hcs; rw [hcs]; rfl) (by simp only [maxBytes, List.length_cons, List.length_nil, List.nil_append, List.length_append]; omega) (by simp only [maxBytes, List.length_cons, List.length_nil, List.nil_append, List.length_append]; omega) (fun out H4 qO qU qF => ?_)
    have r0 := qU _ _ g0
    have r2 := qU _ _ g2
    unfold z33 at r2
    have hoc := holds_cell qO.holds
    have fin := fun x y => two_set qO qU hU1 hF qF (a := H.next) (b := H.next + 2) (by rw [g0]; simp) (by rw [g2]; simp) (Nat.le_refl _) (by omega) x y
    have hset := hp1.ss out (q.sends ++ [[.int .i64 esq, .int .i64 id, .str ky, .str enm]])
    have hLs : ∀ c ∈ (q.sends ++ [[.int .i64 esq, .int .i64 id, .str ky, .str enm]]), SndR c := fun c hc => by
      rcases List.mem_append.1 hc with hc | hc
      · exact hp1.cs c hc
      · simp at hc; subst hc; exact ⟨_, _, _, _, rfl⟩
    have hpr := fun x y => hp1B.ws (M := N + 1) (sub_up hB (fin x y).1) (sub_own (fin x y).2.2.2) (by simp; omega) (by omega) hLs
    have wl := (hpr (.row 33 24 [] 0 0) (.row 33 24 [] 0 0)).len
    have wc := (hpr (.row 33 24 [] 0 0) (.row 33 24 [] 0 0)).cells
    have wt : (q.ws out (q.sends ++ [[.int .i64 esq, .int .i64 id, .str ky, .str enm]])).cells.take 24 = (q.ws out (q.sends ++ [[.int .i64 esq, .int .i64 id, .str ky, .str enm]])).cells := List.take_of_length_le (by omega)
    have hs33 : splice z33 0 (q.ws out (q.sends ++ [[.int .i64 esq, .int .i64 id, .str ky, .str enm]])).cells = (q.ws out (q.sends ++ [[.int .i64 esq, .int .i64 id, .str ky, .str enm]])).cells := by simp [splice, z33, wl]
    unfold z33 at hs33
    rcases own_shape qO with rfl | rfl | ⟨sb, so, sl, sc, sx', sg, rfl⟩
    all_goals
      simp (maxSteps := 1000000) only [sx, fx, icI, icS, icB, icN, icL, implies_true, evBuildSlice, fillE, fillA, here, plain, laid, evOp, avOf, avCell, strOf, evBin, evInt, evStr, evUn, evResults, evResultsL, AV.isUndef, AV.cells, Heap.store, wbool_off, after_scope, Nat.reduceMul, Nat.reducePow, Nat.reduceSub, Nat.reduceBEq, UInt8.reduceToNat, Nat.reduceEqDiff, Nat.reduceLT, reduceCtorEq, Nat.reduceAdd, Nat.reduceLeDiff, r0, r2, hql, set_02, hoc, hset, wl, wc, wt, hs33]
      exact hK _ _ (PRes.ok (hpr _ _) (post _ (fun h => absurd h k7))) (fin _ _).1 (fin _ _).2.1
end Go.Proofs.T
