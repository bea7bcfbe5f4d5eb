import Derived.Test.YtlllflmjpclobaaW16
set_option linter.unusedVariables false
set_option linter.unusedSimpArgs false
set_option linter.unusedVariables false
set_option linter.unusedSimpArgs false
set_option maxRecDepth 100000
namespace Go.Proofs.T
open Go.Ev

theorem hsub_eq {F H B : Heap} {c : Nat} (h : ¬ ((H.blk c).isSome = true ∧ (B.blk c).isNone = true)) : (hsub F H B).blk c = F.blk c := by simp only [hsub]; rw [if_neg h]
theorem hsub_cut {F H B : Heap} {c : Nat} (h : (H.blk c).isSome = true ∧ (B.blk c).isNone = true) : (hsub F H B).blk c = none := by simp only [hsub]; rw [if_pos h]
theorem sub_up2 {F H B : Heap} (hU : Up B F) : Up B (hsub F H B) := fun b x h => by
  rw [hsub_eq (fun hc => by rw [h] at hc; cases hc.2)]; exact hU _ _ h
theorem sub_sub {K G H' B : Heap} (hdom : ∀ c, G.blk c ≠ none → H'.blk c ≠ none) : Up (hsub K H' (hsub H' G B)) (hsub K G B) := fun c x h => by
  by_cases hc : (G.blk c).isSome = true ∧ (B.blk c).isNone = true
  · exfalso
    rw [hsub_cut ⟨Option.isSome_iff_ne_none.2 (hdom c (Option.isSome_iff_ne_none.1 hc.1)), by rw [hsub_cut hc]; rfl⟩] at h
    cases h
  · rw [hsub_eq hc]; exact sub_le _ _ h
theorem sub_base {F G H B : Heap} (hU : Up H G) : Up (hsub F G B) (hsub F H B) := fun c x h => by
  simp only [hsub] at h ⊢
  split at h
  · cases h
  · rename_i hn
    rw [if_neg (fun hc => hn ⟨?_, hc.2⟩)]
    · exact h
    · obtain ⟨z, hz⟩ := Option.isSome_iff_exists.1 hc.1
      rw [hU _ _ hz]; rfl

set_option maxHeartbeats 8000000 in
theorem f23_ok {H B : Heap} {v : AV} {L : List (List AV)} (hB : Up B H) (hv : Holds B 24 v L) (hL : ∀ c ∈ L, ∃ e : ES, c = e.cells ∧ ER B e) (hn : L.length ≤ 60) (hF : Free H) (K : AV → Heap → Prop)
    (hK : ∀ cs er H', cs.length = 24 → cs.all AV.isCell = true → (er = 0 → ∃ p e, cs = p.cells ∧ PR (hsub H' H B) 60 p ∧ L[L.length - 1]? = some (ES.cells e) ∧ Post e p) → Up H H' → Free H' → K (.tuple [.agg cs, .int .i64 er]) H') : WF Try.prog 23 [v] H K := by
  refine WF_body Try.func23 (by kernel_rfl) rfl Try.ntmps23 (by rw [Try.results23]) (of_decide_eq_true (by kernel_rfl)) ?_
  have hvH := hv.up hB
  have lv := hvH.lenAt (P := Try.prog) und22
  cases h0 : ((L.length : Int) == 0) with
  | true =>
    simp (maxSteps := 1000000) only [sx, fx, icI, icS, icB, icN, icL, implies_true, evBuildSlice, fillE, fillA, here, plain, laid, evOp, avOf, avCell, strOf, evBin, evInt, evStr, evUn, evResults, evResultsL, AV.isUndef, AV.cells, Heap.store, wbool_off, after_scope, Nat.reduceMul, Nat.reducePow, Nat.reduceSub, Nat.reduceBEq, UInt8.reduceToNat, Nat.reduceEqDiff, Nat.reduceLT, reduceCtorEq, Nat.reduceAdd, Nat.reduceLeDiff, hF.at, hF.hp, lv, h0]
    exact hK _ _ _ rfl rfl (fun h => absurd h (by decide)) (hF.hpU _) (hF.hpF _)
  | false =>
  have hpos : 0 < L.length := by
    have : (L.length : Int) ≠ 0 := by simpa using h0
    omega
  obtain ⟨c, hc⟩ : ∃ c, L[0]? = some c := ⟨_, List.getElem?_eq_getElem hpos⟩
  obtain ⟨e, rfl, heB⟩ := hL c (List.mem_of_getElem? hc)
  have hel := heB.len
  have et : e.cells.take 24 = e.cells := List.take_of_length_le (by omega)
  generalize hH1 : HP H [Blk.row 33 24 [z33] 0 0] = H1
  have hH1' := hH1
  unfold z33 at hH1'
  have g0 : H1.blk H.next = some (.row 33 24 [z33] 0 0) := by rw [← hH1, hp_blk0]; rfl
  have hF1 : Free H1 := hH1 ▸ hF.hpF _
  have hU1 : Up H H1 := hH1 ▸ hF.hpU _
  obtain ⟨p0, hp0, hl0, _⟩ := (hvH.up hU1).index (P := Try.prog) und22 sz63 .i64 hc
  have hp0 : evIndexAddr Try.prog H1 22 v (.int .i64 0) = some p0 := hp0
  simp (maxSteps := 1000000) only [sx, fx, icI, icS, icB, icN, icL, implies_true, evBuildSlice, fillE, fillA, here, plain, laid, evOp, avOf, avCell, strOf, evBin, evInt, evStr, evUn, evResults, evResultsL, AV.isUndef, AV.cells, Heap.store, wbool_off, after_scope, Nat.reduceMul, Nat.reducePow, Nat.reduceSub, Nat.reduceBEq, UInt8.reduceToNat, Nat.reduceEqDiff, Nat.reduceLT, reduceCtorEq, Nat.reduceAdd, Nat.reduceLeDiff, hF.at, hF.hp, lv, h0, hH1', hp0, hl0 _ (Up.refl _), hel]
  refine callStep (f33_ok (B := B) (hB.trans hU1) heB hF1 _ fun r H2 hr hU2 hF2 => ?_)
  obtain ⟨cs, er, rfl, cl, cc, cp⟩ := hr
  have cs24 : cs.take 24 = cs := List.take_of_length_le (by omega)
  have hs33 : splice z33 0 cs = cs := by simp [splice, z33, cl]
  unfold z33 at hs33
  generalize hG : HP H2 [Blk.row 33 24 [cs] 0 0] = G
  have hGF : Free G := hG ▸ hF2.hpF _
  have hG2 : Up H2 G := hG ▸ hF2.hpU _
  have hUG : Up H G := hU1.trans (hU2.trans hG2)
  have k0 := hG2 _ _ (hU2 _ _ g0)
  have kb : G.blk H2.next = some (.row 33 24 [cs] 0 0) := by rw [← hG, hp_blk0]; rfl
  have hlt02 : H.next < H2.next := hF2.lt (hU2 _ _ g0)
  obtain ⟨PV, hPV⟩ : ∃ PV : Heap, PV = H1.set H2.next (.row 33 24 [] 0 0) := ⟨_, rfl⟩
  have pv1 : PV.blk H2.next ≠ none := by rw [hPV, set_same]; simp
  have pv2 : ∀ c, c ≠ H2.next → PV.blk c = H1.blk c := fun c hc => by rw [hPV, Heap.set_other _ _ _ hc]
  have pv0 : PV.blk H.next ≠ none := by rw [pv2 _ (by omega), g0]; simp
  have hUP : Up H PV := fun b x hb => by
    have := hF.lt hb
    rw [pv2 _ (by omega)]; exact hU1 _ _ hb
  have hPI : Up (hsub H2 H1 B) (hsub G PV B) := fun c x hx => by
    by_cases hc : (H1.blk c).isSome = true ∧ (B.blk c).isNone = true
    · rw [hsub_cut hc] at hx; cases hx
    · rw [hsub_eq hc] at hx
      have hne : c ≠ H2.next := fun e => by rw [e, hF2.at] at hx; cases hx
      rw [hsub_eq (by rw [pv2 c hne]; exact hc)]
      exact hG2 _ _ hx
  have hPG : ∀ c, PV.blk c ≠ none → G.blk c ≠ none := fun c hc => by
    by_cases hne : c = H2.next
    · rw [hne, kb]; simp
    · rw [pv2 c hne] at hc
      cases hx : H1.blk c with
      | none => exact absurd hx hc
      | some z => rw [hG2 _ _ (hU2 _ _ hx)]; simp
  have hBb : B.blk H2.next = none := by
    cases hx : B.blk H2.next with
    | none => rfl
    | some z => have := hF.lt (hB _ _ hx); omega
  simp (maxSteps := 1000000) only [sx, fx, icI, icS, icB, icN, icL, implies_true, evBuildSlice, fillE, fillA, here, plain, laid, evOp, avOf, avCell, strOf, evBin, evInt, evStr, evUn, evResults, evResultsL, AV.isUndef, AV.cells, Heap.store, wbool_off, after_scope, Nat.reduceMul, Nat.reducePow, Nat.reduceSub, Nat.reduceBEq, UInt8.reduceToNat, Nat.reduceEqDiff, Nat.reduceLT, reduceCtorEq, Nat.reduceAdd, Nat.reduceLeDiff, hF2.at, hF2.hp, cl, cc, cs24, hs33, hG]
  refine loopStepR (fun env H' => ∃ (i : Nat) (cs : List AV) (er : Int), 1 ≤ i ∧ i ≤ L.length ∧ env.at (.tmp 6) = .int .i64 i ∧ env.at (.tmp 0) = v ∧ env.at (.tmp 2) = .ptr H.next 0 0 0 ∧ env.at (.tmp 4) = .ptr H2.next 0 0 0 ∧ env.at (.tmp 5) = .int .i64 er ∧
      H'.blk H.next = some (.row 33 24 [z33] 0 0) ∧ H'.blk H2.next = some (.row 33 24 [cs] 0 0) ∧ cs.length = 24 ∧ cs.all AV.isCell = true ∧ (er = 0 → ∃ p e, cs = PS.cells p ∧ PR (hsub H' PV B) i p ∧ L[i - 1]? = some (ES.cells e) ∧ Post e p) ∧
      (∀ c, PV.blk c ≠ none → H'.blk c ≠ none) ∧ Up H H' ∧ Free H')
    (fun env H' => match env.at (.tmp 6) with | .int _ i => ((L.length : Int) - i).toNat | _ => 0)
    (fun ex env H' => ex = .exit 0 ∧ ∃ (cs : List AV) (er : Int), env.at (.tmp 2) = .ptr H.next 0 0 0 ∧ env.at (.tmp 4) = .ptr H2.next 0 0 0 ∧ env.at (.tmp 5) = .int .i64 er ∧
      H'.blk H.next = some (.row 33 24 [z33] 0 0) ∧ H'.blk H2.next = some (.row 33 24 [cs] 0 0) ∧ cs.length = 24 ∧ cs.all AV.isCell = true ∧ (er = 0 → ∃ p e, cs = PS.cells p ∧ PR (hsub H' PV B) 60 p ∧ L[L.length - 1]? = some (ES.cells e) ∧ Post e p) ∧
      Up H H' ∧ Free H') ?_ ?_ ?_
  · refine ⟨1, cs, er, Nat.le_refl _, hpos, by simp only [sx, fx, icI, icS, icB, icN, icL, implies_true, evBuildSlice, fillE, fillA, here, plain, laid, evOp, avOf, avCell, strOf, evBin, evInt, evStr, evUn, evResults, evResultsL, AV.isUndef, AV.cells, Heap.store, wbool_off, after_scope, Nat.reduceMul, Nat.reducePow, Nat.reduceSub, Nat.reduceBEq, UInt8.reduceToNat, Nat.reduceEqDiff, Nat.reduceLT, reduceCtorEq, Nat.reduceAdd, Nat.reduceLeDiff]; rfl, by simp only [sx, fx, icI, icS, icB, icN, icL, implies_true, evBuildSlice, fillE, fillA, here, plain, laid, evOp, avOf, avCell, strOf, evBin, evInt, evStr, evUn, evResults, evResultsL, AV.isUndef, AV.cells, Heap.store, wbool_off, after_scope, Nat.reduceMul, Nat.reducePow, Nat.reduceSub, Nat.reduceBEq, UInt8.reduceToNat, Nat.reduceEqDiff, Nat.reduceLT, reduceCtorEq, Nat.reduceAdd, Nat.reduceLeDiff], by simp only [sx, fx, icI, icS, icB, icN, icL, implies_true, evBuildSlice, fillE, fillA, here, plain, laid, evOp, avOf, avCell, strOf, evBin, evInt, evStr, evUn, evResults, evResultsL, AV.isUndef, AV.cells, Heap.store, wbool_off, after_scope, Nat.reduceMul, Nat.reducePow, Nat.reduceSub, Nat.reduceBEq, UInt8.reduceToNat, Nat.reduceEqDiff, Nat.reduceLT, reduceCtorEq, Nat.reduceAdd, Nat.reduceLeDiff], by simp only [sx, fx, icI, icS, icB, icN, icL, implies_true, evBuildSlice, fillE, fillA, here, plain, laid, evOp, avOf, avCell, strOf, evBin, evInt, evStr, evUn, evResults, evResultsL, AV.isUndef, AV.cells, Heap.store, wbool_off, after_scope, Nat.reduceMul, Nat.reducePow, Nat.reduceSub, Nat.reduceBEq, UInt8.reduceToNat, Nat.reduceEqDiff, Nat.reduceLT, reduceCtorEq, Nat.reduceAdd, Nat.reduceLeDiff], by simp only [sx, fx, icI, icS, icB, icN, icL, implies_true, evBuildSlice, fillE, fillA, here, plain, laid, evOp, avOf, avCell, strOf, evBin, evInt, evStr, evUn, evResults, evResultsL, AV.isUndef, AV.cells, Heap.store, wbool_off, after_scope, Nat.reduceMul, Nat.reducePow, Nat.reduceSub, Nat.reduceBEq, UInt8.reduceToNat, Nat.reduceEqDiff, Nat.reduceLT, reduceCtorEq, Nat.reduceAdd, Nat.reduceLeDiff], k0, kb, cl, cc, fun h => ?_, hPG, hUG, hGF⟩
    obtain ⟨p, e1, hp, hpost⟩ := cp h
    exact ⟨p, e, e1, hp.up hPI, by simpa using hc, hpost⟩
  · rintro env H' ⟨i, cs, er, h1, hi, e6, e0, e2, e4, e5, b0, bb, cl, cc, cp, hdom, hU, hF'⟩
    by_cases hlt : i < L.length
    · cases her : (er == 0) with
      | false =>
        simp (maxSteps := 1000000) only [sx, fx, icI, icS, icB, icN, icL, implies_true, evBuildSlice, fillE, fillA, here, plain, laid, evOp, avOf, avCell, strOf, evBin, evInt, evStr, evUn, evResults, evResultsL, AV.isUndef, AV.cells, Heap.store, wbool_off, after_scope, Nat.reduceMul, Nat.reducePow, Nat.reduceSub, Nat.reduceBEq, UInt8.reduceToNat, Nat.reduceEqDiff, Nat.reduceLT, reduceCtorEq, Nat.reduceAdd, Nat.reduceLeDiff, e6, e0, e2, e4, e5, lv, lt_true hlt, her]
        exact ⟨cs, er, rfl, b0, bb, cl, cc, fun h => absurd h (by simpa using her), hU, hF'⟩
      | true =>
      obtain rfl : er = 0 := by simpa using her
      obtain ⟨p, e1, rfl, hp, hlast, hpost⟩ := cp rfl
      obtain ⟨c, hc⟩ : ∃ c, L[i]? = some c := ⟨_, List.getElem?_eq_getElem hlt⟩
      obtain ⟨e, rfl, heB⟩ := hL c (List.mem_of_getElem? hc)
      have hel := heB.len
      have et : e.cells.take 24 = e.cells := List.take_of_length_le (by omega)
      have pt : p.cells.take 24 = p.cells := List.take_of_length_le (by omega)
      have hw := wrap_succ (i := i) (by omega)
      obtain ⟨px, hpx, hlx, _⟩ := (hvH.up hU).index (P := Try.prog) und22 sz63 .i64 hc
      have hUB : Up B (hsub H' PV B) := sub_up2 (hB.trans hU)
      simp (maxSteps := 1000000) only [sx, fx, icI, icS, icB, icN, icL, implies_true, evBuildSlice, fillE, fillA, here, plain, laid, evOp, avOf, avCell, strOf, evBin, evInt, evStr, evUn, evResults, evResultsL, AV.isUndef, AV.cells, Heap.store, wbool_off, after_scope, Nat.reduceMul, Nat.reducePow, Nat.reduceSub, Nat.reduceBEq, UInt8.reduceToNat, Nat.reduceEqDiff, Nat.reduceLT, reduceCtorEq, Nat.reduceAdd, Nat.reduceLeDiff, e6, e0, e2, e4, e5, lv, lt_true hlt, her]
      refine drawStep [] [0, 1, 2, 3, 4, 5, 6, 7, 8, 9, 10, 11] _ rfl (by kernel_rfl) ?_
      simp (maxSteps := 1000000) only [sx, fx, icI, icS, icB, icN, icL, implies_true, evBuildSlice, fillE, fillA, here, plain, laid, evOp, avOf, avCell, strOf, evBin, evInt, evStr, evUn, evResults, evResultsL, AV.isUndef, AV.cells, Heap.store, wbool_off, after_scope, Nat.reduceMul, Nat.reducePow, Nat.reduceSub, Nat.reduceBEq, UInt8.reduceToNat, Nat.reduceEqDiff, Nat.reduceLT, reduceCtorEq, Nat.reduceAdd, Nat.reduceLeDiff, e6, e0, e2, e4, e5, bb, cl, pt, hpx, hlx _ (Up.refl _), hel]
      refine callStep (f34_ok (B := hsub H' PV B) (N := i) sub_le hp (heB.up hUB) (by omega) hF' _ fun r H4 hr hU4 hF4 => ?_)
      obtain ⟨cs', er', rfl, cl', cc', cp'⟩ := hr
      have c0 := hU4 _ _ b0
      have cb := hU4 _ _ bb
      have j0 : ∀ xs, (HP H4 xs).blk H.next = some (.row 33 24 [z33] 0 0) := fun xs => hF4.hpU xs _ _ c0
      have jb : ∀ xs, (HP H4 xs).blk H2.next = some (.row 33 24 [p.cells] 0 0) := fun xs => hF4.hpU xs _ _ cb
      have cs24' : cs'.take 24 = cs' := List.take_of_length_le (by omega)
      have hs33' : splice z33 0 cs' = cs' := by simp [splice, z33, cl']
      have hsp' : splice p.cells 0 cs' = cs' := by simp [splice, cl, cl']
      unfold z33 at hs33'
      simp (maxSteps := 1000000) only [sx, fx, icI, icS, icB, icN, icL, implies_true, evBuildSlice, fillE, fillA, here, plain, laid, evOp, avOf, avCell, strOf, evBin, evInt, evStr, evUn, evResults, evResultsL, AV.isUndef, AV.cells, Heap.store, wbool_off, after_scope, Nat.reduceMul, Nat.reducePow, Nat.reduceSub, Nat.reduceBEq, UInt8.reduceToNat, Nat.reduceEqDiff, Nat.reduceLT, reduceCtorEq, Nat.reduceAdd, Nat.reduceLeDiff, e6, e0, e2, e4, e5, hw, hF4.at, hF4.hp, jb, cl', cc', cs24', hs33', hsp', cl]
      refine ⟨⟨i + 1, cs', er', by omega, hlt, rfl, rfl, ?_, rfl, cl', cc', fun h => ?_, fun c hc => ?_, ((hU.trans hU4).trans (hF4.hpU _)).set (by
        cases hx : H.blk H2.next with
        | none => rfl
        | some z => have := hF.lt hx; omega) _, (hF4.hpF _).set ((hF4.hpF _).lt (jb _)) _⟩, ?_⟩
      · rw [Heap.set_other _ _ _ (by omega)]; exact j0 _
      · obtain ⟨q, eq, hq, hpq⟩ := cp' h
        refine ⟨q, e, eq, hq.up ?_, by simpa using hc, hpq⟩
        exact (sub_sub hdom).trans ((sub_mono (hF4.hpU _)).trans (sub_set (Up.refl _) pv1 hBb _))
      · by_cases hne : c = H2.next
        · rw [hne, set_same]; simp
        · rw [Heap.set_other _ _ _ hne]
          cases hx : H'.blk c with
          | none => exact absurd hx (hdom c hc)
          | some z => rw [hF4.hpU _ _ _ (hU4 _ _ hx)]; simp
      · omega
    · simp (maxSteps := 1000000) only [sx, fx, icI, icS, icB, icN, icL, implies_true, evBuildSlice, fillE, fillA, here, plain, laid, evOp, avOf, avCell, strOf, evBin, evInt, evStr, evUn, evResults, evResultsL, AV.isUndef, AV.cells, Heap.store, wbool_off, after_scope, Nat.reduceMul, Nat.reducePow, Nat.reduceSub, Nat.reduceBEq, UInt8.reduceToNat, Nat.reduceEqDiff, Nat.reduceLT, reduceCtorEq, Nat.reduceAdd, Nat.reduceLeDiff, e6, e0, e2, e4, e5, lv, lt_false hlt]
      obtain rfl : i = L.length := by omega
      refine ⟨cs, er, rfl, b0, bb, cl, cc, fun h => ?_, hU, hF'⟩
      obtain ⟨p, e1, r1, hp, r2⟩ := cp h
      exact ⟨p, e1, r1, hp.mono hn, r2⟩
  · rintro ex env H' ⟨rfl, cs, er, e2, e4, e5, b0, bb, cl, cc, cp, hU, hF'⟩
    have cs24 : cs.take 24 = cs := List.take_of_length_le (by omega)
    have hs33 : splice z33 0 cs = cs := by simp [splice, z33, cl]
    have b0' := b0
    unfold z33 at b0' hs33
    cases her : (er != 0) with
    | true =>
      have hne : er ≠ 0 := by simpa using her
      simp (maxSteps := 1000000) only [sx, fx, icI, icS, icB, icN, icL, implies_true, evBuildSlice, fillE, fillA, here, plain, laid, evOp, avOf, avCell, strOf, evBin, evInt, evStr, evUn, evResults, evResultsL, AV.isUndef, AV.cells, Heap.store, wbool_off, after_scope, Nat.reduceMul, Nat.reducePow, Nat.reduceSub, Nat.reduceBEq, UInt8.reduceToNat, Nat.reduceEqDiff, Nat.reduceLT, reduceCtorEq, Nat.reduceAdd, Nat.reduceLeDiff, e2, e4, e5, b0', her]
      exact hK _ _ _ rfl rfl (fun h => absurd h hne) (hU.set (hF _ (Nat.le_refl _)) _) (hF'.set (hF'.lt b0) _)
    | false =>
      obtain rfl : er = 0 := by simpa using her
      simp (maxSteps := 1000000) only [sx, fx, icI, icS, icB, icN, icL, implies_true, evBuildSlice, fillE, fillA, here, plain, laid, evOp, avOf, avCell, strOf, evBin, evInt, evStr, evUn, evResults, evResultsL, AV.isUndef, AV.cells, Heap.store, wbool_off, after_scope, Nat.reduceMul, Nat.reducePow, Nat.reduceSub, Nat.reduceBEq, UInt8.reduceToNat, Nat.reduceEqDiff, Nat.reduceLT, reduceCtorEq, Nat.reduceAdd, Nat.reduceLeDiff, e2, e4, e5, b0', bb, cl, cc, cs24, hs33, her]
      refine hK _ _ _ cl cc (fun h => ?_) (hU.set (hF _ (Nat.le_refl _)) _) (hF'.set (hF'.lt b0) _)
      obtain ⟨p, e1, r1, hp, r2⟩ := cp h
      exact ⟨p, e1, r1, hp.up (sub_set (b := H.next) hUP pv0 (none_of (j := 0) hF hB) _), r2⟩
end Go.Proofs.T
