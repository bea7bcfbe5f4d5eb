import Derived.Test.YtlllflmjpclobaaW4
set_option linter.unusedVariables false
set_option linter.unusedSimpArgs false
set_option linter.unusedVariables false
set_option linter.unusedSimpArgs false
set_option maxRecDepth 100000
namespace Go.Proofs.T
open Go.Ev

theorem app27 : appB Try.prog 27 27 60 32 376 = true := by kernel_rfl
theorem app28 : appB Try.prog 28 28 107 3 24 = true := by kernel_rfl
theorem app29 : appB Try.prog 29 29 109 6 72 = true := by kernel_rfl
theorem app30 : appB Try.prog 30 30 111 4 48 = true := by kernel_rfl
theorem app31 : appB Try.prog 31 31 120 2 24 = true := by kernel_rfl
theorem app24 : appB Try.prog 24 24 9 1 16 = true := by kernel_rfl
theorem app23 : appB Try.prog 23 23 26 5 80 = true := by kernel_rfl
theorem set_02 {H : Heap} {b : Nat} {x : Blk} : (H.set b x).blk (b + 2) = H.blk (b + 2) := Heap.set_other _ _ _ (by omega)
theorem two_set {G H H' : Heap} {ty esz : Nat} {out : AV} {L : List (List AV)} (hO : Own G H' ty esz out L) (hU : Up G H') (hG : Up H G) (hF : Free H) (hF' : Free H') {a b : Nat} (ga : G.blk a ≠ none) (gb : G.blk b ≠ none) (na : H.next ≤ a) (nb : H.next ≤ b) (x y : Blk) :
    Up H ((H'.set a x).set b y) ∧ Free ((H'.set a x).set b y) ∧ Holds ((H'.set a x).set b y) esz out L ∧ Own H ((H'.set a x).set b y) ty esz out L := by
  have la : ∀ {c : Nat}, G.blk c ≠ none → c < H'.next := fun {c} h => by
    cases hc : G.blk c with
    | none => exact absurd hc h
    | some z => exact hF'.lt (hU _ _ hc)
  exact ⟨((hG.trans hU).set (hF _ na) _).set (hF _ nb) _, (hF'.set (la ga) _).set (by rw [set_next]; exact la gb) _, (own_set (own_set hO ga x) gb y).holds, (own_set (own_set hO ga x) gb y).base hG⟩
/-- F without what H has above B. -/
def hsub (F H B : Heap) : Heap := ⟨fun c => if (H.blk c).isSome = true ∧ (B.blk c).isNone = true then none else F.blk c, F.next⟩
theorem sub_le {F H B : Heap} : Up (hsub F H B) F := fun b x h => by
  simp only [hsub] at h
  split at h
  · cases h
  · exact h
theorem sub_up {F H B : Heap} (hB : Up B H) (hU : Up H F) : Up B (hsub F H B) := fun b x h => by
  simp only [hsub]; rw [if_neg (by rw [h]; simp)]; exact hU _ _ (hB _ _ h)
theorem sub_own {F H B : Heap} {ty esz : Nat} {v : AV} {L : List (List AV)} (hO : Own H F ty esz v L) : Holds (hsub F H B) esz v L := by
  have e : ∀ b, H.blk b = none → (hsub F H B).blk b = F.blk b := fun b h => by simp only [hsub]; rw [if_neg (by rw [h]; simp)]
  obtain ⟨h0, h | ⟨b, g, wgen, rfl, h2, h3, h4⟩ | ⟨b, g, ty', gen, wgen, rfl, h2, h3, h4⟩⟩ := hO
  · exact Own.holds (G := H) (ty := ty) ⟨h0, .inl h⟩
  · exact Own.holds (G := H) (ty := ty) ⟨h0, .inr (.inl ⟨b, g, wgen, rfl, by rw [e b h4]; exact h2, h3, h4⟩)⟩
  · exact Own.holds (G := H) (ty := ty) ⟨h0, .inr (.inr ⟨b, g, ty', gen, wgen, rfl, by rw [e b h4]; exact h2, h3, h4⟩)⟩
theorem sub_mono {K F H B : Heap} (hU : Up K F) : Up (hsub K H B) (hsub F H B) := fun b x h => by
  simp only [hsub] at h ⊢
  split at h
  · cases h
  · rename_i hn; rw [if_neg hn]; exact hU _ _ h
theorem sub_set {K H H1 B : Heap} {b : Nat} (hU : Up H H1) (h1 : H1.blk b ≠ none) (h2 : B.blk b = none) (y : Blk) : Up (hsub K H1 B) (hsub (K.set b y) H B) := fun c x h => by
  simp only [hsub] at h ⊢
  split at h
  · cases h
  · rename_i hn
    have hcb : c ≠ b := fun e => hn ⟨by rw [e]; exact Option.isSome_iff_ne_none.2 h1, by rw [e, h2]; rfl⟩
    rw [if_neg (fun hc => hn ⟨?_, hc.2⟩), Heap.set_other _ _ _ hcb]
    · exact h
    · obtain ⟨z, hz⟩ := Option.isSome_iff_exists.1 hc.1
      rw [hU _ _ hz]; rfl
theorem own_shape {G H : Heap} {ty esz : Nat} {out : AV} {L : List (List AV)} (hO : Own G H ty esz out L) : out = .nilslice ∨ out = .eslice ∨ ∃ b o l c ex g, out = .slice b o l c ex g := by
  obtain ⟨_, ⟨_, h | h⟩ | ⟨_, _, _, h, _⟩ | ⟨_, _, _, _, _, h, _⟩⟩ := hO
  · exact .inl h
  · exact .inr (.inl h)
  · exact .inr (.inr ⟨_, _, _, _, _, _, h⟩)
  · exact .inr (.inr ⟨_, _, _, _, _, _, h⟩)
def PS.wa (p : PS) (v : AV) (L : List (List AV)) : PS := { p with va := v, acts := L }
theorem ActR.le {H : Heap} {sa sq : Int} {a : List AV} (ha : ActR H sa a) (h : seqOf a ≤ sq) : ActR H sq a := by
  obtain ⟨s, ev, nm, d, o, x5, x6, x7, x8, x9, x10, x11, cn, dt, fl, e, r1, r2, r3, r4⟩ := ha
  have hs2 : seqOf a = s := by rw [e]; rfl
  exact ⟨s, ev, nm, d, o, x5, x6, x7, x8, x9, x10, x11, cn, dt, fl, e, r1, r2, r3, by omega⟩
theorem PR.acts {H G : Heap} {N M : Nat} {p : PS} (h : PR H N p) (hu : Up H G) {v : AV} {L : List (List AV)} (hv : Holds G 32 v L) (hl : L.length ≤ M) (hn : N ≤ M) (hc : ∀ c ∈ L, ActR H p.sq c) : PR G M (p.wa v L) :=
  have h := (h.up hu).mono hn
  ⟨h.inn, h.atr, hv, h.ht, h.hk, h.hs, h.hu, h.hr, hl, h.nt, h.nk, h.ns, h.nu, h.nr, fun c k => (hc c k).up hu, h.ct, h.ck, h.cs, h.cu, h.cr, h.sq0, h.sqN⟩

set_option maxHeartbeats 8000000 in
theorem f24_ok {H : Heap} {N : Nat} {p : PS} {a : List AV} {sa : Int} (hp : PR H N p) (ha : ActR H sa a) (hN : N ≤ 100) (hF : Free H) (K : AV → Heap → Prop)
    (h1 : ∀ v L H', Up H H' → Free H' → Own H H' 60 32 v L → L.length ≤ N → (∀ c ∈ L, c = a ∨ c ∈ p.acts) → seqOf a ≤ p.sq → K (.tuple [.agg (p.wa v L).cells, .bool true]) H') (h2 : ∀ H', Up H H' → Free H' → K (.tuple [.agg z33, .bool false]) H') : WF Try.prog 24 [.agg p.cells, .agg a] H K := by
  have hpl := hp.len
  have hna := hp.na
  obtain ⟨hal, hac, ha0⟩ := ha.el
  have hels : ∀ c ∈ p.acts, ElB 32 c := fun c hc => (hp.ca c hc).el
  have hca' := hp.ca
  obtain ⟨nx, st, tk, ti, att, sq, pnm, inn, atr, cn, va, vt, vk, vs, vu, vr, acts, timers, kids, sends, upds, reqs⟩ := p
  obtain ⟨ni, hin⟩ : ∃ n, VR n H inn := hp.inn
  obtain ⟨i0, i1, i2, i3, i4, rfl⟩ := five hin.len
  obtain ⟨a0, a1, a2, a3, a4, rfl⟩ := five (show AT H N atr from hp.atr).len
  have hci := hin.cells
  have hca := (show AT H N [a0, a1, a2, a3, a4] from hp.atr).cells
  simp only [List.all_cons, List.all_nil, Bool.and_eq_true, Bool.and_true] at hci hca
  obtain ⟨hci0, hci1, hci2, hci3, hci4⟩ := hci
  obtain ⟨hca0, hca1, hca2, hca3, hca4⟩ := hca
  have hva : Holds H 32 va acts := hp.ha
  have hvt : Holds H 3 vt timers := hp.ht
  have hvk : Holds H 6 vk kids := hp.hk
  have hvs : Holds H 4 vs sends := hp.hs
  have hvu : Holds H 2 vu upds := hp.hu
  have hvr : Holds H 1 vr reqs := hp.hr
  have hcv0 := holds_cell hva
  have hcv1 := holds_cell hvt
  have hcv2 := holds_cell hvk
  have hcv3 := holds_cell hvs
  have hcv4 := holds_cell hvu
  have hcv5 := holds_cell hvr
  refine WF_body Try.func24 (by kernel_rfl) rfl Try.ntmps24 (by rw [Try.results24]) (of_decide_eq_true (by kernel_rfl)) ?_
  have hat : a.take 32 = a := List.take_of_length_le (by omega)
  have hl24 : (PS.cells (PS.mk nx st tk ti att sq pnm [i0, i1, i2, i3, i4] [a0, a1, a2, a3, a4] cn va vt vk vs vu vr acts timers kids sends upds reqs)).length = 24 := hpl
  simp (maxSteps := 1000000) only [sx, fx, icI, icS, icB, icN, icL, implies_true, evBuildSlice, fillE, fillA, here, plain, laid, evOp, avOf, avCell, strOf, evBin, evInt, evStr, evUn, evResults, evResultsL, AV.isUndef, AV.cells, Heap.store, wbool_off, after_scope, Nat.reduceMul, Nat.reducePow, Nat.reduceSub, Nat.reduceBEq, UInt8.reduceToNat, Nat.reduceEqDiff, Nat.reduceLT, reduceCtorEq, Nat.reduceAdd, Nat.reduceLeDiff, hF.at, hF.hp, hpl, hal, ha0]
  generalize hH1 : HP H [Blk.row 33 24 [PS.cells (PS.mk nx st tk ti att sq pnm [i0, i1, i2, i3, i4] [a0, a1, a2, a3, a4] cn va vt vk vs vu vr acts timers kids sends upds reqs)] 0 0, Blk.row 60 32 [a] 0 0, Blk.row 33 24 [z33] 0 0] = H1
  have hH1' := hH1
  unfold z33 at hH1'
  simp only [hH1']
  have hb0 : H1.blk H.next = some (.row 33 24 [PS.cells (PS.mk nx st tk ti att sq pnm [i0, i1, i2, i3, i4] [a0, a1, a2, a3, a4] cn va vt vk vs vu vr acts timers kids sends upds reqs)] 0 0) := by rw [← hH1, hp_blk0]; rfl
  have hb1 : H1.blk (H.next + 1) = some (.row 60 32 [a] 0 0) := by rw [← hH1, hp_blk]; rfl
  have hb2 : H1.blk (H.next + 2) = some (.row 33 24 [z33] 0 0) := by rw [← hH1, hp_blk]; rfl
  have hF1 : Free H1 := hH1 ▸ hF.hpF _
  have hU1 : Up H H1 := hH1 ▸ hF.hpU _
  refine callStep (f35_ok hF1 hl24 (show _ = [va] from rfl) (hva.up hU1) (by have : acts.length ≤ N := hna; omega) hels _ (fun c H2 hfind hU2 hF2 => ?_) fun H2 hfind hU2 hF2 => ?_)
  · obtain ⟨cl, cc, c0⟩ := hels c (List.mem_of_find?_eq_some hfind)
    have cs : seqOf c = seqOf a := by have := List.find?_some hfind; simpa using this
    have ct : c.take 32 = c := List.take_of_length_le (by omega)
    have hsp : splice z60 0 c = c := by simp [splice, z60, cl]
    unfold z60 at hsp
    have hsa : seqOf a ≤ sq := by
      have := (hca' c (List.mem_of_find?_eq_some hfind)).seq
      rw [← cs]; exact this
    simp (maxSteps := 1000000) only [sx, fx, icI, icS, icB, icN, icL, implies_true, evBuildSlice, fillE, fillA, here, plain, laid, evOp, avOf, avCell, strOf, evBin, evInt, evStr, evUn, evResults, evResultsL, AV.isUndef, AV.cells, Heap.store, wbool_off, after_scope, Nat.reduceMul, Nat.reducePow, Nat.reduceSub, Nat.reduceBEq, UInt8.reduceToNat, Nat.reduceEqDiff, Nat.reduceLT, reduceCtorEq, Nat.reduceAdd, Nat.reduceLeDiff, hF2.at, hF2.hp, cl, cc, ct, hsp]
    generalize hG : HP H2 [Blk.row 60 32 [c] 0 0] = G
    have hGF : Free G := hG ▸ hF2.hpF _
    have hG2 : Up H2 G := hG ▸ hF2.hpU _
    have hUG : Up H G := hU1.trans (hU2.trans hG2)
    have g0 := hG2 _ _ (hU2 _ _ hb0)
    have g1 := hG2 _ _ (hU2 _ _ hb1)
    have g2 := hG2 _ _ (hU2 _ _ hb2)
    refine loopStep' (fun env H' => ∃ (i : Nat) (out : AV) (L : List (List AV)) (dn : Bool), i ≤ acts.length ∧ env.at (.tmp 10) = .int .i64 i ∧ env.at (.tmp 8) = out ∧ env.at (.tmp 9) = .bool dn ∧ env.at (.tmp 2) = .ptr H.next 0 0 0 ∧ env.at (.tmp 3) = .ptr (H.next + 1) 0 0 0 ∧ env.at (.tmp 4) = .ptr (H.next + 2) 0 0 0 ∧
        L.length = i ∧ (∀ c ∈ L, c = a ∨ c ∈ acts) ∧ Own G H' 60 32 out L ∧ Up G H' ∧ Free H')
      (fun env H' => match env.at (.tmp 10) with | .int _ i => ((acts.length : Int) - i).toNat | _ => 0) ?_ ?_
    · exact ⟨0, .nilslice, [], false, Nat.zero_le _, by simp only [sx, fx, icI, icS, icB, icN, icL, implies_true, evBuildSlice, fillE, fillA, here, plain, laid, evOp, avOf, avCell, strOf, evBin, evInt, evStr, evUn, evResults, evResultsL, AV.isUndef, AV.cells, Heap.store, wbool_off, after_scope, Nat.reduceMul, Nat.reducePow, Nat.reduceSub, Nat.reduceBEq, UInt8.reduceToNat, Nat.reduceEqDiff, Nat.reduceLT, reduceCtorEq, Nat.reduceAdd, Nat.reduceLeDiff]; rfl, by simp only [sx, fx, icI, icS, icB, icN, icL, implies_true, evBuildSlice, fillE, fillA, here, plain, laid, evOp, avOf, avCell, strOf, evBin, evInt, evStr, evUn, evResults, evResultsL, AV.isUndef, AV.cells, Heap.store, wbool_off, after_scope, Nat.reduceMul, Nat.reducePow, Nat.reduceSub, Nat.reduceBEq, UInt8.reduceToNat, Nat.reduceEqDiff, Nat.reduceLT, reduceCtorEq, Nat.reduceAdd, Nat.reduceLeDiff], by simp only [sx, fx, icI, icS, icB, icN, icL, implies_true, evBuildSlice, fillE, fillA, here, plain, laid, evOp, avOf, avCell, strOf, evBin, evInt, evStr, evUn, evResults, evResultsL, AV.isUndef, AV.cells, Heap.store, wbool_off, after_scope, Nat.reduceMul, Nat.reducePow, Nat.reduceSub, Nat.reduceBEq, UInt8.reduceToNat, Nat.reduceEqDiff, Nat.reduceLT, reduceCtorEq, Nat.reduceAdd, Nat.reduceLeDiff], by simp only [sx, fx, icI, icS, icB, icN, icL, implies_true, evBuildSlice, fillE, fillA, here, plain, laid, evOp, avOf, avCell, strOf, evBin, evInt, evStr, evUn, evResults, evResultsL, AV.isUndef, AV.cells, Heap.store, wbool_off, after_scope, Nat.reduceMul, Nat.reducePow, Nat.reduceSub, Nat.reduceBEq, UInt8.reduceToNat, Nat.reduceEqDiff, Nat.reduceLT, reduceCtorEq, Nat.reduceAdd, Nat.reduceLeDiff], by simp only [sx, fx, icI, icS, icB, icN, icL, implies_true, evBuildSlice, fillE, fillA, here, plain, laid, evOp, avOf, avCell, strOf, evBin, evInt, evStr, evUn, evResults, evResultsL, AV.isUndef, AV.cells, Heap.store, wbool_off, after_scope, Nat.reduceMul, Nat.reducePow, Nat.reduceSub, Nat.reduceBEq, UInt8.reduceToNat, Nat.reduceEqDiff, Nat.reduceLT, reduceCtorEq, Nat.reduceAdd, Nat.reduceLeDiff], by simp only [sx, fx, icI, icS, icB, icN, icL, implies_true, evBuildSlice, fillE, fillA, here, plain, laid, evOp, avOf, avCell, strOf, evBin, evInt, evStr, evUn, evResults, evResultsL, AV.isUndef, AV.cells, Heap.store, wbool_off, after_scope, Nat.reduceMul, Nat.reducePow, Nat.reduceSub, Nat.reduceBEq, UInt8.reduceToNat, Nat.reduceEqDiff, Nat.reduceLT, reduceCtorEq, Nat.reduceAdd, Nat.reduceLeDiff], rfl, by simp, Own.nil, Up.refl _, hGF⟩
    · rintro env H' ⟨i, out, L, dn, hi, e10, e8, e9, e2, e3, e4, hLl, hLa, hO, hU', hF'⟩
      have b0 := hU' _ _ g0
      have b1 := hU' _ _ g1
      have b2 := hU' _ _ g2
      have hva' := hva.up (hUG.trans hU')
      have hp18 : ((PS.cells (PS.mk nx st tk ti att sq pnm [i0, i1, i2, i3, i4] [a0, a1, a2, a3, a4] cn va vt vk vs vu vr acts timers kids sends upds reqs)).drop 18).take 1 = [va] := rfl
      by_cases hlt : i < acts.length
      · obtain ⟨x, hx⟩ : ∃ x, acts[i]? = some x := ⟨_, List.getElem?_eq_getElem hlt⟩
        have hxm := List.mem_of_getElem? hx
        obtain ⟨xl, xc, x0⟩ := hels x hxm
        have xt : x.take 32 = x := List.take_of_length_le (by omega)
        have hil : acts.length ≤ N := hna
        have hw := wrap_succ (i := i) (by omega)
        have go : ∀ (y : List AV), y.length = 32 → y.all AV.isCell = true → (y = a ∨ y ∈ acts) → ∀ u K', Own G K' 60 32 u (L ++ [y]) → Up G K' → Free K' → (L ++ [y]).length = i + 1 ∧ (∀ c ∈ L ++ [y], c = a ∨ c ∈ acts) := fun y _ _ hy u K' _ _ _ => by
          refine ⟨by simp [hLl], fun c hc => ?_⟩
          rcases List.mem_append.1 hc with hc | hc
          · exact hLa c hc
          · simp at hc; subst hc; exact hy
        simp (maxSteps := 1000000) only [sx, fx, icI, icS, icB, icN, icL, implies_true, evBuildSlice, fillE, fillA, here, plain, laid, evOp, avOf, avCell, strOf, evBin, evInt, evStr, evUn, evResults, evResultsL, AV.isUndef, AV.cells, Heap.store, wbool_off, after_scope, Nat.reduceMul, Nat.reducePow, Nat.reduceSub, Nat.reduceBEq, UInt8.reduceToNat, Nat.reduceEqDiff, Nat.reduceLT, reduceCtorEq, Nat.reduceAdd, Nat.reduceLeDiff, e10, e8, e9, e2, e3, e4, b0, hp18, hva'.lenAt und27, lt_true hlt]
        refine drawStep [] [0, 1, 2, 3, 4, 5, 6, 7, 8, 9, 10, 11, 12] _ rfl (by kernel_rfl) ?_
        have f0 : ∀ xs, (HP H' xs).blk H.next = some (.row 33 24 [PS.cells (PS.mk nx st tk ti att sq pnm [i0, i1, i2, i3, i4] [a0, a1, a2, a3, a4] cn va vt vk vs vu vr acts timers kids sends upds reqs)] 0 0) := fun xs => hF'.hpU xs _ _ b0
        rcases index2 hva' und27 sz60 .i64 hx with hpx | ⟨b', j, g, ty, els, gen, wgen, hpx, hbk, hwg, hel⟩
        · cases hs : (seqOf x == seqOf a) with
          | true =>
            cases dn with
            | false =>
              simp (maxSteps := 1000000) only [sx, fx, icI, icS, icB, icN, icL, implies_true, evBuildSlice, fillE, fillA, here, plain, laid, evOp, avOf, avCell, strOf, evBin, evInt, evStr, evUn, evResults, evResultsL, AV.isUndef, AV.cells, Heap.store, wbool_off, after_scope, Nat.reduceMul, Nat.reducePow, Nat.reduceSub, Nat.reduceBEq, UInt8.reduceToNat, Nat.reduceEqDiff, Nat.reduceLT, reduceCtorEq, Nat.reduceAdd, Nat.reduceLeDiff, e10, e8, e9, e2, e3, e4, b0, b1, hp18, hpx, x0, xl, ha0, hs, hF'.at, hF'.hp, hal, hat, hac]
              refine opStep_append app27 (hO.up (hF'.hpU _)) (hF'.hpF _) (hU'.trans (hF'.hpU _)) (holds_hp (k := 0) (L := [a]) rfl rfl (Nat.le_refl _) (by simp [hal])) (fun cs hcs => by rw [List.mem_singleton] at hcs; rw [hcs]; exact hac) (by simp only [maxBytes, List.length_cons, List.length_nil]; omega) (by simp only [maxBytes, List.length_cons, List.length_nil]; omega) (fun u K' hO4 hU4 hF4 => ?_)
              simp (maxSteps := 1000000) only [sx, fx, icI, icS, icB, icN, icL, implies_true, evBuildSlice, fillE, fillA, here, plain, laid, evOp, avOf, avCell, strOf, evBin, evInt, evStr, evUn, evResults, evResultsL, AV.isUndef, AV.cells, Heap.store, wbool_off, after_scope, Nat.reduceMul, Nat.reducePow, Nat.reduceSub, Nat.reduceBEq, UInt8.reduceToNat, Nat.reduceEqDiff, Nat.reduceLT, reduceCtorEq, Nat.reduceAdd, Nat.reduceLeDiff, e10, e8, e9, e2, e3, e4, hw]
              obtain ⟨q1, q2⟩ := go a hal hac (.inl rfl) u K' hO4 hU4 hF4
              refine ⟨⟨i + 1, u, L ++ [a], true, hlt, rfl, rfl, rfl, q1, q2, hO4, hU4, hF4⟩, ?_⟩
              omega
            | true =>
              simp (maxSteps := 1000000) only [sx, fx, icI, icS, icB, icN, icL, implies_true, evBuildSlice, fillE, fillA, here, plain, laid, evOp, avOf, avCell, strOf, evBin, evInt, evStr, evUn, evResults, evResultsL, AV.isUndef, AV.cells, Heap.store, wbool_off, after_scope, Nat.reduceMul, Nat.reducePow, Nat.reduceSub, Nat.reduceBEq, UInt8.reduceToNat, Nat.reduceEqDiff, Nat.reduceLT, reduceCtorEq, Nat.reduceAdd, Nat.reduceLeDiff, e10, e8, e9, e2, e3, e4, b0, b1, hp18, hpx, x0, ha0, hs, hF'.at, hF'.hp, xl, xt, xc]
              refine opStep_append app27 (hO.up (hF'.hpU _)) (hF'.hpF _) (hU'.trans (hF'.hpU _)) (holds_hp (k := 0) (L := [x]) rfl rfl (Nat.le_refl _) (by simp [xl])) (fun cs hcs => by rw [List.mem_singleton] at hcs; rw [hcs]; exact xc) (by simp only [maxBytes, List.length_cons, List.length_nil]; omega) (by simp only [maxBytes, List.length_cons, List.length_nil]; omega) (fun u K' hO4 hU4 hF4 => ?_)
              simp (maxSteps := 1000000) only [sx, fx, icI, icS, icB, icN, icL, implies_true, evBuildSlice, fillE, fillA, here, plain, laid, evOp, avOf, avCell, strOf, evBin, evInt, evStr, evUn, evResults, evResultsL, AV.isUndef, AV.cells, Heap.store, wbool_off, after_scope, Nat.reduceMul, Nat.reducePow, Nat.reduceSub, Nat.reduceBEq, UInt8.reduceToNat, Nat.reduceEqDiff, Nat.reduceLT, reduceCtorEq, Nat.reduceAdd, Nat.reduceLeDiff, e10, e8, e9, e2, e3, e4, hw]
              obtain ⟨q1, q2⟩ := go x xl xc (.inr hxm) u K' hO4 hU4 hF4
              refine ⟨⟨i + 1, u, L ++ [x], true, hlt, rfl, rfl, rfl, q1, q2, hO4, hU4, hF4⟩, ?_⟩
              omega
          | false =>
            simp (maxSteps := 1000000) only [sx, fx, icI, icS, icB, icN, icL, implies_true, evBuildSlice, fillE, fillA, here, plain, laid, evOp, avOf, avCell, strOf, evBin, evInt, evStr, evUn, evResults, evResultsL, AV.isUndef, AV.cells, Heap.store, wbool_off, after_scope, Nat.reduceMul, Nat.reducePow, Nat.reduceSub, Nat.reduceBEq, UInt8.reduceToNat, Nat.reduceEqDiff, Nat.reduceLT, reduceCtorEq, Nat.reduceAdd, Nat.reduceLeDiff, e10, e8, e9, e2, e3, e4, b0, b1, hp18, hpx, x0, ha0, hs, hF'.at, hF'.hp, xl, xt, xc]
            refine opStep_append app27 (hO.up (hF'.hpU _)) (hF'.hpF _) (hU'.trans (hF'.hpU _)) (holds_hp (k := 0) (L := [x]) rfl rfl (Nat.le_refl _) (by simp [xl])) (fun cs hcs => by rw [List.mem_singleton] at hcs; rw [hcs]; exact xc) (by simp only [maxBytes, List.length_cons, List.length_nil]; omega) (by simp only [maxBytes, List.length_cons, List.length_nil]; omega) (fun u K' hO4 hU4 hF4 => ?_)
            simp (maxSteps := 1000000) only [sx, fx, icI, icS, icB, icN, icL, implies_true, evBuildSlice, fillE, fillA, here, plain, laid, evOp, avOf, avCell, strOf, evBin, evInt, evStr, evUn, evResults, evResultsL, AV.isUndef, AV.cells, Heap.store, wbool_off, after_scope, Nat.reduceMul, Nat.reducePow, Nat.reduceSub, Nat.reduceBEq, UInt8.reduceToNat, Nat.reduceEqDiff, Nat.reduceLT, reduceCtorEq, Nat.reduceAdd, Nat.reduceLeDiff, e10, e8, e9, e2, e3, e4, hw]
            obtain ⟨q1, q2⟩ := go x xl xc (.inr hxm) u K' hO4 hU4 hF4
            refine ⟨⟨i + 1, u, L ++ [x], dn, hlt, rfl, rfl, rfl, q1, q2, hO4, hU4, hF4⟩, ?_⟩
            omega
        · cases hs : (seqOf x == seqOf a) with
          | true =>
            cases dn with
            | false =>
              simp (maxSteps := 1000000) only [sx, fx, icI, icS, icB, icN, icL, implies_true, evBuildSlice, fillE, fillA, here, plain, laid, evOp, avOf, avCell, strOf, evBin, evInt, evStr, evUn, evResults, evResultsL, AV.isUndef, AV.cells, Heap.store, wbool_off, after_scope, Nat.reduceMul, Nat.reducePow, Nat.reduceSub, Nat.reduceBEq, UInt8.reduceToNat, Nat.reduceEqDiff, Nat.reduceLT, reduceCtorEq, Nat.reduceAdd, Nat.reduceLeDiff, e10, e8, e9, e2, e3, e4, b0, b1, hp18, hpx, hbk, hwg, hel, x0, xl, ha0, hs, hF'.at, hF'.hp, hal, hat, hac]
              refine opStep_append app27 (hO.up (hF'.hpU _)) (hF'.hpF _) (hU'.trans (hF'.hpU _)) (holds_hp (k := 0) (L := [a]) rfl rfl (Nat.le_refl _) (by simp [hal])) (fun cs hcs => by rw [List.mem_singleton] at hcs; rw [hcs]; exact hac) (by simp only [maxBytes, List.length_cons, List.length_nil]; omega) (by simp only [maxBytes, List.length_cons, List.length_nil]; omega) (fun u K' hO4 hU4 hF4 => ?_)
              simp (maxSteps := 1000000) only [sx, fx, icI, icS, icB, icN, icL, implies_true, evBuildSlice, fillE, fillA, here, plain, laid, evOp, avOf, avCell, strOf, evBin, evInt, evStr, evUn, evResults, evResultsL, AV.isUndef, AV.cells, Heap.store, wbool_off, after_scope, Nat.reduceMul, Nat.reducePow, Nat.reduceSub, Nat.reduceBEq, UInt8.reduceToNat, Nat.reduceEqDiff, Nat.reduceLT, reduceCtorEq, Nat.reduceAdd, Nat.reduceLeDiff, e10, e8, e9, e2, e3, e4, hw]
              obtain ⟨q1, q2⟩ := go a hal hac (.inl rfl) u K' hO4 hU4 hF4
              refine ⟨⟨i + 1, u, L ++ [a], true, hlt, rfl, rfl, rfl, q1, q2, hO4, hU4, hF4⟩, ?_⟩
              omega
            | true =>
              simp (maxSteps := 1000000) only [sx, fx, icI, icS, icB, icN, icL, implies_true, evBuildSlice, fillE, fillA, here, plain, laid, evOp, avOf, avCell, strOf, evBin, evInt, evStr, evUn, evResults, evResultsL, AV.isUndef, AV.cells, Heap.store, wbool_off, after_scope, Nat.reduceMul, Nat.reducePow, Nat.reduceSub, Nat.reduceBEq, UInt8.reduceToNat, Nat.reduceEqDiff, Nat.reduceLT, reduceCtorEq, Nat.reduceAdd, Nat.reduceLeDiff, e10, e8, e9, e2, e3, e4, b0, b1, hp18, hpx, hbk, hwg, hel, x0, ha0, hs, hF'.at, hF'.hp, xl, xt, xc]
              refine opStep_append app27 (hO.up (hF'.hpU _)) (hF'.hpF _) (hU'.trans (hF'.hpU _)) (holds_hp (k := 0) (L := [x]) rfl rfl (Nat.le_refl _) (by simp [xl])) (fun cs hcs => by rw [List.mem_singleton] at hcs; rw [hcs]; exact xc) (by simp only [maxBytes, List.length_cons, List.length_nil]; omega) (by simp only [maxBytes, List.length_cons, List.length_nil]; omega) (fun u K' hO4 hU4 hF4 => ?_)
              simp (maxSteps := 1000000) only [sx, fx, icI, icS, icB, icN, icL, implies_true, evBuildSlice, fillE, fillA, here, plain, laid, evOp, avOf, avCell, strOf, evBin, evInt, evStr, evUn, evResults, evResultsL, AV.isUndef, AV.cells, Heap.store, wbool_off, after_scope, Nat.reduceMul, Nat.reducePow, Nat.reduceSub, Nat.reduceBEq, UInt8.reduceToNat, Nat.reduceEqDiff, Nat.reduceLT, reduceCtorEq, Nat.reduceAdd, Nat.reduceLeDiff, e10, e8, e9, e2, e3, e4, hw]
              obtain ⟨q1, q2⟩ := go x xl xc (.inr hxm) u K' hO4 hU4 hF4
              refine ⟨⟨i + 1, u, L ++ [x], true, hlt, rfl, rfl, rfl, q1, q2, hO4, hU4, hF4⟩, ?_⟩
              omega
          | false =>
            simp (maxSteps := 1000000) only [sx, fx, icI, icS, icB, icN, icL, implies_true, evBuildSlice, fillE, fillA, here, plain, laid, evOp, avOf, avCell, strOf, evBin, evInt, evStr, evUn, evResults, evResultsL, AV.isUndef, AV.cells, Heap.store, wbool_off, after_scope, Nat.reduceMul, Nat.reducePow, Nat.reduceSub, Nat.reduceBEq, UInt8.reduceToNat, Nat.reduceEqDiff, Nat.reduceLT, reduceCtorEq, Nat.reduceAdd, Nat.reduceLeDiff, e10, e8, e9, e2, e3, e4, b0, b1, hp18, hpx, hbk, hwg, hel, x0, ha0, hs, hF'.at, hF'.hp, xl, xt, xc]
            refine opStep_append app27 (hO.up (hF'.hpU _)) (hF'.hpF _) (hU'.trans (hF'.hpU _)) (holds_hp (k := 0) (L := [x]) rfl rfl (Nat.le_refl _) (by simp [xl])) (fun cs hcs => by rw [List.mem_singleton] at hcs; rw [hcs]; exact xc) (by simp only [maxBytes, List.length_cons, List.length_nil]; omega) (by simp only [maxBytes, List.length_cons, List.length_nil]; omega) (fun u K' hO4 hU4 hF4 => ?_)
            simp (maxSteps := 1000000) only [sx, fx, icI, icS, icB, icN, icL, implies_true, evBuildSlice, fillE, fillA, here, plain, laid, evOp, avOf, avCell, strOf, evBin, evInt, evStr, evUn, evResults, evResultsL, AV.isUndef, AV.cells, Heap.store, wbool_off, after_scope, Nat.reduceMul, Nat.reducePow, Nat.reduceSub, Nat.reduceBEq, UInt8.reduceToNat, Nat.reduceEqDiff, Nat.reduceLT, reduceCtorEq, Nat.reduceAdd, Nat.reduceLeDiff, e10, e8, e9, e2, e3, e4, hw]
            obtain ⟨q1, q2⟩ := go x xl xc (.inr hxm) u K' hO4 hU4 hF4
            refine ⟨⟨i + 1, u, L ++ [x], dn, hlt, rfl, rfl, rfl, q1, q2, hO4, hU4, hF4⟩, ?_⟩
            omega
      · have hoc := holds_cell hO.holds
        have fin := fun x y => two_set hO hU' hUG hF hF' (a := H.next) (b := H.next + 2) (by rw [g0]; simp) (by rw [g2]; simp) (Nat.le_refl _) (by omega) x y
        simp (maxSteps := 1000000) only [PS.cells, z33, List.cons_append, List.nil_append] at b0 b2
        rcases own_shape hO with rfl | rfl | ⟨sb, so, sl, sc, sx', sg, rfl⟩
        all_goals
          simp (maxSteps := 1000000) only [sx, fx, icI, icS, icB, icN, icL, implies_true, evBuildSlice, fillE, fillA, here, plain, laid, evOp, avOf, avCell, strOf, evBin, evInt, evStr, evUn, evResults, evResultsL, AV.isUndef, AV.cells, Heap.store, wbool_off, after_scope, Nat.reduceMul, Nat.reducePow, Nat.reduceSub, Nat.reduceBEq, UInt8.reduceToNat, Nat.reduceEqDiff, Nat.reduceLT, reduceCtorEq, Nat.reduceAdd, Nat.reduceLeDiff, e10, e8, e9, e2, e3, e4, b0, b2, set_02, hva'.lenAt und27, lt_false hlt, hoc, hci0, hci1, hci2, hci3, hci4, hca0, hca1, hca2, hca3, hca4, hcv0, hcv1, hcv2, hcv3, hcv4, hcv5]
          refine h1 _ L _ (fin _ _).1 (fin _ _).2.1 (fin _ _).2.2.2 (by have : acts.length ≤ N := hna; omega) hLa hsa
  · have hb22 := hU2 _ _ hb2
    have hU12 := hU1.trans hU2
    have hb23 : ∀ xs, (HP H2 xs).blk (H.next + 2) = some (.row 33 24 [z33] 0 0) := fun xs => hF2.hpU xs _ _ hb22
    unfold z33 at hb23
    simp (maxSteps := 1000000) only [z60, sx, fx, icI, icS, icB, icN, icL, implies_true, evBuildSlice, fillE, fillA, here, plain, laid, evOp, avOf, avCell, strOf, evBin, evInt, evStr, evUn, evResults, evResultsL, AV.isUndef, AV.cells, Heap.store, wbool_off, after_scope, Nat.reduceMul, Nat.reducePow, Nat.reduceSub, Nat.reduceBEq, UInt8.reduceToNat, Nat.reduceEqDiff, Nat.reduceLT, reduceCtorEq, Nat.reduceAdd, Nat.reduceLeDiff, hF2.at, hF2.hp, hb23]
    refine h2 _ ((hU12.trans (hF2.hpU _)).set (hF _ (by omega)) _) ((hF2.hpF _).set ((hF2.hpF _).lt (hb23 _)) _)
end Go.Proofs.T
