import Derived.Test.YtlllflmjpclobaaW7
set_option linter.unusedVariables false
set_option linter.unusedSimpArgs false
set_option linter.unusedVariables false
set_option linter.unusedSimpArgs false
set_option maxRecDepth 100000
namespace Go.Proofs.T
open Go.Ev

set_option maxHeartbeats 8000000 in
theorem f59_ok {H B : Heap} {N : Nat} {p : PS} {e : ES} (hB : Up B H) (hpB : PR B N p) (heB : ER B e) (hN : N ≤ 60) (hk2 : e.k ≠ 2) (hk7 : e.k ≠ 7) (hF : Free H) (K : AV → Heap → Prop) (hK : ∀ r H', PRes (hsub H' H B) (N + 1) (Post e) r → Up H H' → Free H' → K r H') : WF Try.prog 59 [.agg p.cells, .agg e.cells] H K := by
  have hp := hpB.up hB
  have he := heB.up hB
  have post : ∀ q, Post e q := fun q => ⟨fun h => absurd h hk2, fun h => absurd h hk7⟩
  have hpl := hp.len
  have hpc := hp.cells
  have hel := he.len
  have pt : p.cells.take 24 = p.cells := List.take_of_length_le (by omega)
  have pd := hp.dk
  have e1 : (e.cells.drop 1).take 1 = [.int .i64 e.k] := rfl
  have e3 : (e.cells.drop 3).take 1 = [.int .i64 e.sq] := rfl
  have e4 : (e.cells.drop 4).take 1 = [.int .i64 e.rf] := rfl
  have e8 : (e.cells.drop 8).take 1 = [.str e.ky] := rfl
  have hnl := hp.nk
  have hels : ∀ c ∈ p.kids, ElB 6 c := fun c hc => (hp.ck c hc).el
  refine WF_body Try.func59 (by kernel_rfl) rfl Try.ntmps59 (by rw [Try.results59]) (of_decide_eq_true (by kernel_rfl)) ?_
  simp (maxSteps := 1000000) only [sx, fx, icI, icS, icB, icN, icL, implies_true, evBuildSlice, fillE, fillA, here, plain, laid, evOp, avOf, avCell, strOf, evBin, evInt, evStr, evUn, evResults, evResultsL, AV.isUndef, AV.cells, Heap.store, wbool_off, after_scope, Nat.reduceMul, Nat.reducePow, Nat.reduceSub, Nat.reduceBEq, UInt8.reduceToNat, Nat.reduceEqDiff, Nat.reduceLT, reduceCtorEq, Nat.reduceAdd, Nat.reduceLeDiff, hF.at, hF.hp, hpl, hel, pt, e3]
  generalize hH1 : HP H [Blk.row 33 24 [p.cells] 0 0, Blk.row 63 24 [e.cells] 0 0, Blk.row 33 24 [z33] 0 0] = H1
  have hH1' := hH1
  unfold z33 at hH1'
  simp only [hH1']
  have hb0 : H1.blk H.next = some (.row 33 24 [p.cells] 0 0) := by rw [← hH1, hp_blk0]; rfl
  have hb1 : H1.blk (H.next + 1) = some (.row 63 24 [e.cells] 0 0) := by rw [← hH1, hp_blk]; rfl
  have hb2 : H1.blk (H.next + 2) = some (.row 33 24 [z33] 0 0) := by rw [← hH1, hp_blk]; rfl
  have hF1 : Free H1 := hH1 ▸ hF.hpF _
  have hU1 : Up H H1 := hH1 ▸ hF.hpU _
  refine callStep (f81_ok hF1 hpl pd (hp.hk.up hU1) (by omega) hels _ (fun c H2 hfind hU2 hF2 => ?_) fun H2 hfind hU2 hF2 => ?_)
  · have hcm := List.mem_of_find?_eq_some hfind
    obtain ⟨ca, cb, cs, ct, cd, cu, rfl⟩ := hp.ck c hcm
    generalize hG : HP H2 [Blk.row 109 6 [[.int .i64 ca, .int .i64 cb, .str cs, .str ct, .int .i64 cd, .str cu]] 0 0] = G
    have hGF : Free G := hG ▸ hF2.hpF _
    have hG2 : Up H2 G := hG ▸ hF2.hpU _
    have hUG : Up H G := hU1.trans (hU2.trans hG2)
    have g0 := hG2 _ _ (hU2 _ _ hb0)
    have g1 := hG2 _ _ (hU2 _ _ hb1)
    have g2 := hG2 _ _ (hU2 _ _ hb2)
    have g3 : G.blk H2.next = some (.row 109 6 [[.int .i64 ca, .int .i64 cb, .str cs, .str ct, .int .i64 cd, .str cu]] 0 0) := by rw [← hG, hp_blk0]; rfl
    have g2' := g2
    unfold z33 at g2'
    cases hx : (cb != e.rf) with
    | true =>
      simp (maxSteps := 1000000) only [sx, fx, icI, icS, icB, icN, icL, implies_true, evBuildSlice, fillE, fillA, here, plain, laid, evOp, avOf, avCell, strOf, evBin, evInt, evStr, evUn, evResults, evResultsL, AV.isUndef, AV.cells, Heap.store, wbool_off, after_scope, Nat.reduceMul, Nat.reducePow, Nat.reduceSub, Nat.reduceBEq, UInt8.reduceToNat, Nat.reduceEqDiff, Nat.reduceLT, reduceCtorEq, Nat.reduceAdd, Nat.reduceLeDiff, hF2.at, hF2.hp, hG, g0, g1, g3, e3, e4, hel, hx, g2']
      exact hK _ _ (PRes.err (by decide)) (hUG.set (hF _ (by omega)) _) (hGF.set (hGF.lt g2) _)
    | false =>
    cases k20 : (e.k == 20) with
    | true =>
      cases hr : (cu == []) with
      | false =>
        simp (maxSteps := 1000000) only [sx, fx, icI, icS, icB, icN, icL, implies_true, evBuildSlice, fillE, fillA, here, plain, laid, evOp, avOf, avCell, strOf, evBin, evInt, evStr, evUn, evResults, evResultsL, AV.isUndef, AV.cells, Heap.store, wbool_off, after_scope, Nat.reduceMul, Nat.reducePow, Nat.reduceSub, Nat.reduceBEq, UInt8.reduceToNat, Nat.reduceEqDiff, Nat.reduceLT, reduceCtorEq, Nat.reduceAdd, Nat.reduceLeDiff, hF2.at, hF2.hp, hG, g0, g1, g3, e1, e3, e4, hel, hx, k20, hr, g2']
        exact hK _ _ (PRes.err (by decide)) (hUG.set (hF _ (by omega)) _) (hGF.set (hGF.lt g2) _)
      | true =>
        simp (maxSteps := 1000000) only [sx, fx, icI, icS, icB, icN, icL, implies_true, evBuildSlice, fillE, fillA, here, plain, laid, evOp, avOf, avCell, strOf, evBin, evInt, evStr, evUn, evResults, evResultsL, AV.isUndef, AV.cells, Heap.store, wbool_off, after_scope, Nat.reduceMul, Nat.reducePow, Nat.reduceSub, Nat.reduceBEq, UInt8.reduceToNat, Nat.reduceEqDiff, Nat.reduceLT, reduceCtorEq, Nat.reduceAdd, Nat.reduceLeDiff, hF2.at, hF2.hp, hG, g0, g1, g3, e1, e3, e4, hel, hx, k20, hr]
        refine loopStep' (fun env H' => ∃ (i : Nat) (out : AV) (L : List (List AV)), i ≤ p.kids.length ∧ env.at (.tmp 9) = .int .i64 i ∧ env.at (.tmp 8) = out ∧ env.at (.tmp 2) = .ptr H.next 0 0 0 ∧ env.at (.tmp 3) = .ptr (H.next + 1) 0 0 0 ∧ env.at (.tmp 4) = .ptr (H.next + 2) 0 0 0 ∧
            L.length ≤ i ∧ (∀ c ∈ L, KidR c) ∧ Own G H' 109 6 out L ∧ Up G H' ∧ Free H')
          (fun env H' => match env.at (.tmp 9) with | .int _ i => ((p.kids.length : Int) - i).toNat | _ => 0) ?_ ?_
        · exact ⟨0, .nilslice, [], Nat.zero_le _, by simp only [sx, fx, icI, icS, icB, icN, icL, implies_true, evBuildSlice, fillE, fillA, here, plain, laid, evOp, avOf, avCell, strOf, evBin, evInt, evStr, evUn, evResults, evResultsL, AV.isUndef, AV.cells, Heap.store, wbool_off, after_scope, Nat.reduceMul, Nat.reducePow, Nat.reduceSub, Nat.reduceBEq, UInt8.reduceToNat, Nat.reduceEqDiff, Nat.reduceLT, reduceCtorEq, Nat.reduceAdd, Nat.reduceLeDiff]; rfl, by simp only [sx, fx, icI, icS, icB, icN, icL, implies_true, evBuildSlice, fillE, fillA, here, plain, laid, evOp, avOf, avCell, strOf, evBin, evInt, evStr, evUn, evResults, evResultsL, AV.isUndef, AV.cells, Heap.store, wbool_off, after_scope, Nat.reduceMul, Nat.reducePow, Nat.reduceSub, Nat.reduceBEq, UInt8.reduceToNat, Nat.reduceEqDiff, Nat.reduceLT, reduceCtorEq, Nat.reduceAdd, Nat.reduceLeDiff], by simp only [sx, fx, icI, icS, icB, icN, icL, implies_true, evBuildSlice, fillE, fillA, here, plain, laid, evOp, avOf, avCell, strOf, evBin, evInt, evStr, evUn, evResults, evResultsL, AV.isUndef, AV.cells, Heap.store, wbool_off, after_scope, Nat.reduceMul, Nat.reducePow, Nat.reduceSub, Nat.reduceBEq, UInt8.reduceToNat, Nat.reduceEqDiff, Nat.reduceLT, reduceCtorEq, Nat.reduceAdd, Nat.reduceLeDiff], by simp only [sx, fx, icI, icS, icB, icN, icL, implies_true, evBuildSlice, fillE, fillA, here, plain, laid, evOp, avOf, avCell, strOf, evBin, evInt, evStr, evUn, evResults, evResultsL, AV.isUndef, AV.cells, Heap.store, wbool_off, after_scope, Nat.reduceMul, Nat.reducePow, Nat.reduceSub, Nat.reduceBEq, UInt8.reduceToNat, Nat.reduceEqDiff, Nat.reduceLT, reduceCtorEq, Nat.reduceAdd, Nat.reduceLeDiff], by simp only [sx, fx, icI, icS, icB, icN, icL, implies_true, evBuildSlice, fillE, fillA, here, plain, laid, evOp, avOf, avCell, strOf, evBin, evInt, evStr, evUn, evResults, evResultsL, AV.isUndef, AV.cells, Heap.store, wbool_off, after_scope, Nat.reduceMul, Nat.reducePow, Nat.reduceSub, Nat.reduceBEq, UInt8.reduceToNat, Nat.reduceEqDiff, Nat.reduceLT, reduceCtorEq, Nat.reduceAdd, Nat.reduceLeDiff], Nat.le_refl _, by simp, Own.nil, Up.refl _, hGF⟩
        · rintro env H' ⟨i, out, L, hi, ei, eo, t2, t3, t4, hLl, hLa, hO, hU', hF'⟩
          have b0 := hU' _ _ g0
          have b1 := hU' _ _ g1
          have b2 := hU' _ _ g2
          have hv' := hp.hk.up (hUG.trans hU')
          by_cases hlt : i < p.kids.length
          · obtain ⟨x, hx⟩ : ∃ x, p.kids[i]? = some x := ⟨_, List.getElem?_eq_getElem hlt⟩
            obtain ⟨xa, xb, xs, xt, xd, xu, rfl⟩ := hp.ck x (List.mem_of_getElem? hx)
            have hw := wrap_succ (i := i) (by omega)
            have f0 : ∀ xs, (HP H' xs).blk H.next = some (.row 33 24 [p.cells] 0 0) := fun xs => hF'.hpU xs _ _ b0
            have f1 : ∀ xs, (HP H' xs).blk (H.next + 1) = some (.row 63 24 [e.cells] 0 0) := fun xs => hF'.hpU xs _ _ b1
            rcases index2 hv' und29 sz109 .i64 hx with hpx | ⟨b', j, g, ty, els, gen, wgen, hpx, hbk, hwg, hel'⟩
            · cases hs : (xa == e.sq) with
              | true =>
                have hs' : (xa != e.sq) = false := by simp only [bne, hs]; rfl
                simp (maxSteps := 1000000) only [sx, fx, icI, icS, icB, icN, icL, implies_true, evBuildSlice, fillE, fillA, here, plain, laid, evOp, avOf, avCell, strOf, evBin, evInt, evStr, evUn, evResults, evResultsL, AV.isUndef, AV.cells, Heap.store, wbool_off, after_scope, Nat.reduceMul, Nat.reducePow, Nat.reduceSub, Nat.reduceBEq, UInt8.reduceToNat, Nat.reduceEqDiff, Nat.reduceLT, reduceCtorEq, Nat.reduceAdd, Nat.reduceLeDiff, ei, eo, t2, t3, t4, b0, pd, hv'.lenAt und29, lt_true hlt, hpx, hF'.at, hF'.hp, f0, f1, e1, e3, e8, hel, hs, hs', k20]
                refine opStep_append app29 (hO.up (hF'.hpU _)) (hF'.hpF _) (hU'.trans (hF'.hpU _)) (holds_hp (k := 1) (L := [[.int .i64 xa, .int .i64 xb, .str xs, .str xt, .int .i64 xd, .str e.ky]]) rfl rfl (Nat.le_refl _) (by simp)) (fun cs hcs => by rw [List.mem_singleton] at hcs; rw [hcs]; rfl) (by simp only [maxBytes, List.length_cons, List.length_nil]; omega) (by simp only [maxBytes, List.length_cons, List.length_nil]; omega) (fun u K' hO4 hU4 hF4 => ?_)
                simp (maxSteps := 1000000) only [sx, fx, icI, icS, icB, icN, icL, implies_true, evBuildSlice, fillE, fillA, here, plain, laid, evOp, avOf, avCell, strOf, evBin, evInt, evStr, evUn, evResults, evResultsL, AV.isUndef, AV.cells, Heap.store, wbool_off, after_scope, Nat.reduceMul, Nat.reducePow, Nat.reduceSub, Nat.reduceBEq, UInt8.reduceToNat, Nat.reduceEqDiff, Nat.reduceLT, reduceCtorEq, Nat.reduceAdd, Nat.reduceLeDiff, ei, eo, t2, t3, t4, hw]
                refine ⟨⟨i + 1, u, L ++ [[.int .i64 xa, .int .i64 xb, .str xs, .str xt, .int .i64 xd, .str e.ky]], hlt, rfl, rfl, by simp; omega, fun c hc => ?_, hO4, hU4, hF4⟩, ?_⟩
                · rcases List.mem_append.1 hc with hc | hc
                  · exact hLa c hc
                  · simp at hc; subst hc; exact ⟨_, _, _, _, _, _, rfl⟩
                · omega
              | false =>
                have hs' : (xa != e.sq) = true := by simp only [bne, hs]; rfl
                simp (maxSteps := 1000000) only [sx, fx, icI, icS, icB, icN, icL, implies_true, evBuildSlice, fillE, fillA, here, plain, laid, evOp, avOf, avCell, strOf, evBin, evInt, evStr, evUn, evResults, evResultsL, AV.isUndef, AV.cells, Heap.store, wbool_off, after_scope, Nat.reduceMul, Nat.reducePow, Nat.reduceSub, Nat.reduceBEq, UInt8.reduceToNat, Nat.reduceEqDiff, Nat.reduceLT, reduceCtorEq, Nat.reduceAdd, Nat.reduceLeDiff, ei, eo, t2, t3, t4, b0, pd, hv'.lenAt und29, lt_true hlt, hpx, hF'.at, hF'.hp, f0, f1, e1, e3, e8, hel, hs, hs', k20]
                refine opStep_append app29 (hO.up (hF'.hpU _)) (hF'.hpF _) (hU'.trans (hF'.hpU _)) (holds_hp (k := 1) (L := [[.int .i64 xa, .int .i64 xb, .str xs, .str xt, .int .i64 xd, .str xu]]) rfl rfl (Nat.le_refl _) (by simp)) (fun cs hcs => by rw [List.mem_singleton] at hcs; rw [hcs]; rfl) (by simp only [maxBytes, List.length_cons, List.length_nil]; omega) (by simp only [maxBytes, List.length_cons, List.length_nil]; omega) (fun u K' hO4 hU4 hF4 => ?_)
                simp (maxSteps := 1000000) only [sx, fx, icI, icS, icB, icN, icL, implies_true, evBuildSlice, fillE, fillA, here, plain, laid, evOp, avOf, avCell, strOf, evBin, evInt, evStr, evUn, evResults, evResultsL, AV.isUndef, AV.cells, Heap.store, wbool_off, after_scope, Nat.reduceMul, Nat.reducePow, Nat.reduceSub, Nat.reduceBEq, UInt8.reduceToNat, Nat.reduceEqDiff, Nat.reduceLT, reduceCtorEq, Nat.reduceAdd, Nat.reduceLeDiff, ei, eo, t2, t3, t4, hw]
                refine ⟨⟨i + 1, u, L ++ [[.int .i64 xa, .int .i64 xb, .str xs, .str xt, .int .i64 xd, .str xu]], hlt, rfl, rfl, by simp; omega, fun c hc => ?_, hO4, hU4, hF4⟩, ?_⟩
                · rcases List.mem_append.1 hc with hc | hc
                  · exact hLa c hc
                  · simp at hc; subst hc; exact ⟨_, _, _, _, _, _, rfl⟩
                · omega
            · cases hs : (xa == e.sq) with
              | true =>
                have hs' : (xa != e.sq) = false := by simp only [bne, hs]; rfl
                simp (maxSteps := 1000000) only [sx, fx, icI, icS, icB, icN, icL, implies_true, evBuildSlice, fillE, fillA, here, plain, laid, evOp, avOf, avCell, strOf, evBin, evInt, evStr, evUn, evResults, evResultsL, AV.isUndef, AV.cells, Heap.store, wbool_off, after_scope, Nat.reduceMul, Nat.reducePow, Nat.reduceSub, Nat.reduceBEq, UInt8.reduceToNat, Nat.reduceEqDiff, Nat.reduceLT, reduceCtorEq, Nat.reduceAdd, Nat.reduceLeDiff, ei, eo, t2, t3, t4, b0, pd, hv'.lenAt und29, lt_true hlt, hpx, hbk, hwg, hel', hF'.at, hF'.hp, f0, f1, e1, e3, e8, hel, hs, hs', k20]
                refine opStep_append app29 (hO.up (hF'.hpU _)) (hF'.hpF _) (hU'.trans (hF'.hpU _)) (holds_hp (k := 1) (L := [[.int .i64 xa, .int .i64 xb, .str xs, .str xt, .int .i64 xd, .str e.ky]]) rfl rfl (Nat.le_refl _) (by simp)) (fun cs hcs => by rw [List.mem_singleton] at hcs; rw [hcs]; rfl) (by simp only [maxBytes, List.length_cons, List.length_nil]; omega) (by simp only [maxBytes, List.length_cons, List.length_nil]; omega) (fun u K' hO4 hU4 hF4 => ?_)
                simp (maxSteps := 1000000) only [sx, fx, icI, icS, icB, icN, icL, implies_true, evBuildSlice, fillE, fillA, here, plain, laid, evOp, avOf, avCell, strOf, evBin, evInt, evStr, evUn, evResults, evResultsL, AV.isUndef, AV.cells, Heap.store, wbool_off, after_scope, Nat.reduceMul, Nat.reducePow, Nat.reduceSub, Nat.reduceBEq, UInt8.reduceToNat, Nat.reduceEqDiff, Nat.reduceLT, reduceCtorEq, Nat.reduceAdd, Nat.reduceLeDiff, ei, eo, t2, t3, t4, hw]
                refine ⟨⟨i + 1, u, L ++ [[.int .i64 xa, .int .i64 xb, .str xs, .str xt, .int .i64 xd, .str e.ky]], hlt, rfl, rfl, by simp; omega, fun c hc => ?_, hO4, hU4, hF4⟩, ?_⟩
                · rcases List.mem_append.1 hc with hc | hc
                  · exact hLa c hc
                  · simp at hc; subst hc; exact ⟨_, _, _, _, _, _, rfl⟩
                · omega
              | false =>
                have hs' : (xa != e.sq) = true := by simp only [bne, hs]; rfl
                simp (maxSteps := 1000000) only [sx, fx, icI, icS, icB, icN, icL, implies_true, evBuildSlice, fillE, fillA, here, plain, laid, evOp, avOf, avCell, strOf, evBin, evInt, evStr, evUn, evResults, evResultsL, AV.isUndef, AV.cells, Heap.store, wbool_off, after_scope, Nat.reduceMul, Nat.reducePow, Nat.reduceSub, Nat.reduceBEq, UInt8.reduceToNat, Nat.reduceEqDiff, Nat.reduceLT, reduceCtorEq, Nat.reduceAdd, Nat.reduceLeDiff, ei, eo, t2, t3, t4, b0, pd, hv'.lenAt und29, lt_true hlt, hpx, hbk, hwg, hel', hF'.at, hF'.hp, f0, f1, e1, e3, e8, hel, hs, hs', k20]
                refine opStep_append app29 (hO.up (hF'.hpU _)) (hF'.hpF _) (hU'.trans (hF'.hpU _)) (holds_hp (k := 1) (L := [[.int .i64 xa, .int .i64 xb, .str xs, .str xt, .int .i64 xd, .str xu]]) rfl rfl (Nat.le_refl _) (by simp)) (fun cs hcs => by rw [List.mem_singleton] at hcs; rw [hcs]; rfl) (by simp only [maxBytes, List.length_cons, List.length_nil]; omega) (by simp only [maxBytes, List.length_cons, List.length_nil]; omega) (fun u K' hO4 hU4 hF4 => ?_)
                simp (maxSteps := 1000000) only [sx, fx, icI, icS, icB, icN, icL, implies_true, evBuildSlice, fillE, fillA, here, plain, laid, evOp, avOf, avCell, strOf, evBin, evInt, evStr, evUn, evResults, evResultsL, AV.isUndef, AV.cells, Heap.store, wbool_off, after_scope, Nat.reduceMul, Nat.reducePow, Nat.reduceSub, Nat.reduceBEq, UInt8.reduceToNat, Nat.reduceEqDiff, Nat.reduceLT, reduceCtorEq, Nat.reduceAdd, Nat.reduceLeDiff, ei, eo, t2, t3, t4, hw]
                refine ⟨⟨i + 1, u, L ++ [[.int .i64 xa, .int .i64 xb, .str xs, .str xt, .int .i64 xd, .str xu]], hlt, rfl, rfl, by simp; omega, fun c hc => ?_, hO4, hU4, hF4⟩, ?_⟩
                · rcases List.mem_append.1 hc with hc | hc
                  · exact hLa c hc
                  · simp at hc; subst hc; exact ⟨_, _, _, _, _, _, rfl⟩
                · omega
          · have hoc := holds_cell hO.holds
            have fin := fun x y => two_set hO hU' hUG hF hF' (a := H.next) (b := H.next + 2) (by rw [g0]; simp) (by rw [g2]; simp) (Nat.le_refl _) (by omega) x y
            have hset := hp.sk out L
            have hpr := hpB.wk (M := N + 1) (sub_up hB (fin (.row 33 24 [] 0 0) (.row 33 24 [] 0 0)).1) (sub_own (fin (.row 33 24 [] 0 0) (.row 33 24 [] 0 0)).2.2.2) (by omega) (by omega) hLa
            have wl := hpr.len
            have wc := hpr.cells
            have wt : (p.wk out L).cells.take 24 = (p.wk out L).cells := List.take_of_length_le (by omega)
            have hs33 : splice z33 0 (p.wk out L).cells = (p.wk out L).cells := by simp [splice, z33, wl]
            unfold z33 at b2 hs33
            rcases own_shape hO with rfl | rfl | ⟨sb, so, sl, sc, sx', sg, rfl⟩
            all_goals
              simp (maxSteps := 1000000) only [sx, fx, icI, icS, icB, icN, icL, implies_true, evBuildSlice, fillE, fillA, here, plain, laid, evOp, avOf, avCell, strOf, evBin, evInt, evStr, evUn, evResults, evResultsL, AV.isUndef, AV.cells, Heap.store, wbool_off, after_scope, Nat.reduceMul, Nat.reducePow, Nat.reduceSub, Nat.reduceBEq, UInt8.reduceToNat, Nat.reduceEqDiff, Nat.reduceLT, reduceCtorEq, Nat.reduceAdd, Nat.reduceLeDiff, ei, eo, t2, t3, t4, b0, b2, pd, hpl, set_02, hv'.lenAt und29, lt_false hlt, hoc, hset, wl, wc, wt, hs33]
              exact hK _ _ (PRes.ok (hpB.wk (M := N + 1) (sub_up hB (fin _ _).1) (sub_own (fin _ _).2.2.2) (by omega) (by omega) hLa) (post _)) (fin _ _).1 (fin _ _).2.1
    | false =>
      simp (maxSteps := 1000000) only [sx, fx, icI, icS, icB, icN, icL, implies_true, evBuildSlice, fillE, fillA, here, plain, laid, evOp, avOf, avCell, strOf, evBin, evInt, evStr, evUn, evResults, evResultsL, AV.isUndef, AV.cells, Heap.store, wbool_off, after_scope, Nat.reduceMul, Nat.reducePow, Nat.reduceSub, Nat.reduceBEq, UInt8.reduceToNat, Nat.reduceEqDiff, Nat.reduceLT, reduceCtorEq, Nat.reduceAdd, Nat.reduceLeDiff, hF2.at, hF2.hp, hG, g0, g1, g3, e1, e3, e4, hel, hx, k20]
      refine loopStep' (fun env H' => ∃ (i : Nat) (out : AV) (L : List (List AV)), i ≤ p.kids.length ∧ env.at (.tmp 9) = .int .i64 i ∧ env.at (.tmp 8) = out ∧ env.at (.tmp 2) = .ptr H.next 0 0 0 ∧ env.at (.tmp 3) = .ptr (H.next + 1) 0 0 0 ∧ env.at (.tmp 4) = .ptr (H.next + 2) 0 0 0 ∧
          L.length ≤ i ∧ (∀ c ∈ L, KidR c) ∧ Own G H' 109 6 out L ∧ Up G H' ∧ Free H')
        (fun env H' => match env.at (.tmp 9) with | .int _ i => ((p.kids.length : Int) - i).toNat | _ => 0) ?_ ?_
      · exact ⟨0, .nilslice, [], Nat.zero_le _, by simp only [sx, fx, icI, icS, icB, icN, icL, implies_true, evBuildSlice, fillE, fillA, here, plain, laid, evOp, avOf, avCell, strOf, evBin, evInt, evStr, evUn, evResults, evResultsL, AV.isUndef, AV.cells, Heap.store, wbool_off, after_scope, Nat.reduceMul, Nat.reducePow, Nat.reduceSub, Nat.reduceBEq, UInt8.reduceToNat, Nat.reduceEqDiff, Nat.reduceLT, reduceCtorEq, Nat.reduceAdd, Nat.reduceLeDiff]; rfl, by simp only [sx, fx, icI, icS, icB, icN, icL, implies_true, evBuildSlice, fillE, fillA, here, plain, laid, evOp, avOf, avCell, strOf, evBin, evInt, evStr, evUn, evResults, evResultsL, AV.isUndef, AV.cells, Heap.store, wbool_off, after_scope, Nat.reduceMul, Nat.reducePow, Nat.reduceSub, Nat.reduceBEq, UInt8.reduceToNat, Nat.reduceEqDiff, Nat.reduceLT, reduceCtorEq, Nat.reduceAdd, Nat.reduceLeDiff], by simp only [sx, fx, icI, icS, icB, icN, icL, implies_true, evBuildSlice, fillE, fillA, here, plain, laid, evOp, avOf, avCell, strOf, evBin, evInt, evStr, evUn, evResults, evResultsL, AV.isUndef, AV.cells, Heap.store, wbool_off, after_scope, Nat.reduceMul, Nat.reducePow, Nat.reduceSub, Nat.reduceBEq, UInt8.reduceToNat, Nat.reduceEqDiff, Nat.reduceLT, reduceCtorEq, Nat.reduceAdd, Nat.reduceLeDiff], by simp only [sx, fx, icI, icS, icB, icN, icL, implies_true, evBuildSlice, fillE, fillA, here, plain, laid, evOp, avOf, avCell, strOf, evBin, evInt, evStr, evUn, evResults, evResultsL, AV.isUndef, AV.cells, Heap.store, wbool_off, after_scope, Nat.reduceMul, Nat.reducePow, Nat.reduceSub, Nat.reduceBEq, UInt8.reduceToNat, Nat.reduceEqDiff, Nat.reduceLT, reduceCtorEq, Nat.reduceAdd, Nat.reduceLeDiff], by simp only [sx, fx, icI, icS, icB, icN, icL, implies_true, evBuildSlice, fillE, fillA, here, plain, laid, evOp, avOf, avCell, strOf, evBin, evInt, evStr, evUn, evResults, evResultsL, AV.isUndef, AV.cells, Heap.store, wbool_off, after_scope, Nat.reduceMul, Nat.reducePow, Nat.reduceSub, Nat.reduceBEq, UInt8.reduceToNat, Nat.reduceEqDiff, Nat.reduceLT, reduceCtorEq, Nat.reduceAdd, Nat.reduceLeDiff], Nat.le_refl _, by simp, Own.nil, Up.refl _, hGF⟩
      · rintro env H' ⟨i, out, L, hi, ei, eo, t2, t3, t4, hLl, hLa, hO, hU', hF'⟩
        have b0 := hU' _ _ g0
        have b1 := hU' _ _ g1
        have b2 := hU' _ _ g2
        have hv' := hp.hk.up (hUG.trans hU')
        by_cases hlt : i < p.kids.length
        · obtain ⟨x, hx⟩ : ∃ x, p.kids[i]? = some x := ⟨_, List.getElem?_eq_getElem hlt⟩
          obtain ⟨xa, xb, xs, xt, xd, xu, rfl⟩ := hp.ck x (List.mem_of_getElem? hx)
          have hw := wrap_succ (i := i) (by omega)
          have f0 : ∀ xs, (HP H' xs).blk H.next = some (.row 33 24 [p.cells] 0 0) := fun xs => hF'.hpU xs _ _ b0
          have f1 : ∀ xs, (HP H' xs).blk (H.next + 1) = some (.row 63 24 [e.cells] 0 0) := fun xs => hF'.hpU xs _ _ b1
          rcases index2 hv' und29 sz109 .i64 hx with hpx | ⟨b', j, g, ty, els, gen, wgen, hpx, hbk, hwg, hel'⟩
          · cases hs : (xa == e.sq) with
            | true =>
              have hs' : (xa != e.sq) = false := by simp only [bne, hs]; rfl
              simp (maxSteps := 1000000) only [sx, fx, icI, icS, icB, icN, icL, implies_true, evBuildSlice, fillE, fillA, here, plain, laid, evOp, avOf, avCell, strOf, evBin, evInt, evStr, evUn, evResults, evResultsL, AV.isUndef, AV.cells, Heap.store, wbool_off, after_scope, Nat.reduceMul, Nat.reducePow, Nat.reduceSub, Nat.reduceBEq, UInt8.reduceToNat, Nat.reduceEqDiff, Nat.reduceLT, reduceCtorEq, Nat.reduceAdd, Nat.reduceLeDiff, ei, eo, t2, t3, t4, b0, pd, hv'.lenAt und29, lt_true hlt, hpx, hF'.at, hF'.hp, f0, f1, e1, e3, e8, hel, hs, hs', k20]
              refine ⟨⟨i + 1, out, L, hlt, by rw [hw], rfl, by omega, hLa, hO.up (hF'.hpU _), hU'.trans (hF'.hpU _), hF'.hpF _⟩, ?_⟩
              rw [hw]; omega
            | false =>
              have hs' : (xa != e.sq) = true := by simp only [bne, hs]; rfl
              simp (maxSteps := 1000000) only [sx, fx, icI, icS, icB, icN, icL, implies_true, evBuildSlice, fillE, fillA, here, plain, laid, evOp, avOf, avCell, strOf, evBin, evInt, evStr, evUn, evResults, evResultsL, AV.isUndef, AV.cells, Heap.store, wbool_off, after_scope, Nat.reduceMul, Nat.reducePow, Nat.reduceSub, Nat.reduceBEq, UInt8.reduceToNat, Nat.reduceEqDiff, Nat.reduceLT, reduceCtorEq, Nat.reduceAdd, Nat.reduceLeDiff, ei, eo, t2, t3, t4, b0, pd, hv'.lenAt und29, lt_true hlt, hpx, hF'.at, hF'.hp, f0, f1, e1, e3, e8, hel, hs, hs', k20]
              refine opStep_append app29 (hO.up (hF'.hpU _)) (hF'.hpF _) (hU'.trans (hF'.hpU _)) (holds_hp (k := 1) (L := [[.int .i64 xa, .int .i64 xb, .str xs, .str xt, .int .i64 xd, .str xu]]) rfl rfl (Nat.le_refl _) (by simp)) (fun cs hcs => by rw [List.mem_singleton] at hcs; rw [hcs]; rfl) (by simp only [maxBytes, List.length_cons, List.length_nil]; omega) (by simp only [maxBytes, List.length_cons, List.length_nil]; omega) (fun u K' hO4 hU4 hF4 => ?_)
              simp (maxSteps := 1000000) only [sx, fx, icI, icS, icB, icN, icL, implies_true, evBuildSlice, fillE, fillA, here, plain, laid, evOp, avOf, avCell, strOf, evBin, evInt, evStr, evUn, evResults, evResultsL, AV.isUndef, AV.cells, Heap.store, wbool_off, after_scope, Nat.reduceMul, Nat.reducePow, Nat.reduceSub, Nat.reduceBEq, UInt8.reduceToNat, Nat.reduceEqDiff, Nat.reduceLT, reduceCtorEq, Nat.reduceAdd, Nat.reduceLeDiff, ei, eo, t2, t3, t4, hw]
              refine ⟨⟨i + 1, u, L ++ [[.int .i64 xa, .int .i64 xb, .str xs, .str xt, .int .i64 xd, .str xu]], hlt, rfl, rfl, by simp; omega, fun c hc => ?_, hO4, hU4, hF4⟩, ?_⟩
              · rcases List.mem_append.1 hc with hc | hc
                · exact hLa c hc
                · simp at hc; subst hc; exact ⟨_, _, _, _, _, _, rfl⟩
              · omega
          · cases hs : (xa == e.sq) with
            | true =>
              have hs' : (xa != e.sq) = false := by simp only [bne, hs]; rfl
              simp (maxSteps := 1000000) only [sx, fx, icI, icS, icB, icN, icL, implies_true, evBuildSlice, fillE, fillA, here, plain, laid, evOp, avOf, avCell, strOf, evBin, evInt, evStr, evUn, evResults, evResultsL, AV.isUndef, AV.cells, Heap.store, wbool_off, after_scope, Nat.reduceMul, Nat.reducePow, Nat.reduceSub, Nat.reduceBEq, UInt8.reduceToNat, Nat.reduceEqDiff, Nat.reduceLT, reduceCtorEq, Nat.reduceAdd, Nat.reduceLeDiff, ei, eo, t2, t3, t4, b0, pd, hv'.lenAt und29, lt_true hlt, hpx, hbk, hwg, hel', hF'.at, hF'.hp, f0, f1, e1, e3, e8, hel, hs, hs', k20]
              refine ⟨⟨i + 1, out, L, hlt, by rw [hw], rfl, by omega, hLa, hO.up (hF'.hpU _), hU'.trans (hF'.hpU _), hF'.hpF _⟩, ?_⟩
              rw [hw]; omega
            | false =>
              have hs' : (xa != e.sq) = true := by simp only [bne, hs]; rfl
              simp (maxSteps := 1000000) only [sx, fx, icI, icS, icB, icN, icL, implies_true, evBuildSlice, fillE, fillA, here, plain, laid, evOp, avOf, avCell, strOf, evBin, evInt, evStr, evUn, evResults, evResultsL, AV.isUndef, AV.cells, Heap.store, wbool_off, after_scope, Nat.reduceMul, Nat.reducePow, Nat.reduceSub, Nat.reduceBEq, UInt8.reduceToNat, Nat.reduceEqDiff, Nat.reduceLT, reduceCtorEq, Nat.reduceAdd, Nat.reduceLeDiff, ei, eo, t2, t3, t4, b0, pd, hv'.lenAt und29, lt_true hlt, hpx, hbk, hwg, hel', hF'.at, hF'.hp, f0, f1, e1, e3, e8, hel, hs, hs', k20]
              refine opStep_append app29 (hO.up (hF'.hpU _)) (hF'.hpF _) (hU'.trans (hF'.hpU _)) (holds_hp (k := 1) (L := [[.int .i64 xa, .int .i64 xb, .str xs, .str xt, .int .i64 xd, .str xu]]) rfl rfl (Nat.le_refl _) (by simp)) (fun cs hcs => by rw [List.mem_singleton] at hcs; rw [hcs]; rfl) (by simp only [maxBytes, List.length_cons, List.length_nil]; omega) (by simp only [maxBytes, List.length_cons, List.length_nil]; omega) (fun u K' hO4 hU4 hF4 => ?_)
              simp (maxSteps := 1000000) only [sx, fx, icI, icS, icB, icN, icL, implies_true, evBuildSlice, fillE, fillA, here, plain, laid, evOp, avOf, avCell, strOf, evBin, evInt, evStr, evUn, evResults, evResultsL, AV.isUndef, AV.cells, Heap.store, wbool_off, after_scope, Nat.reduceMul, Nat.reducePow, Nat.reduceSub, Nat.reduceBEq, UInt8.reduceToNat, Nat.reduceEqDiff, Nat.reduceLT, reduceCtorEq, Nat.reduceAdd, Nat.reduceLeDiff, ei, eo, t2, t3, t4, hw]
              refine ⟨⟨i + 1, u, L ++ [[.int .i64 xa, .int .i64 xb, .str xs, .str xt, .int .i64 xd, .str xu]], hlt, rfl, rfl, by simp; omega, fun c hc => ?_, hO4, hU4, hF4⟩, ?_⟩
              · rcases List.mem_append.1 hc with hc | hc
                · exact hLa c hc
                · simp at hc; subst hc; exact ⟨_, _, _, _, _, _, rfl⟩
              · omega
        · have hoc := holds_cell hO.holds
          have fin := fun x y => two_set hO hU' hUG hF hF' (a := H.next) (b := H.next + 2) (by rw [g0]; simp) (by rw [g2]; simp) (Nat.le_refl _) (by omega) x y
          have hset := hp.sk out L
          have hpr := hpB.wk (M := N + 1) (sub_up hB (fin (.row 33 24 [] 0 0) (.row 33 24 [] 0 0)).1) (sub_own (fin (.row 33 24 [] 0 0) (.row 33 24 [] 0 0)).2.2.2) (by omega) (by omega) hLa
          have wl := hpr.len
          have wc := hpr.cells
          have wt : (p.wk out L).cells.take 24 = (p.wk out L).cells := List.take_of_length_le (by omega)
          have hs33 : splice z33 0 (p.wk out L).cells = (p.wk out L).cells := by simp [splice, z33, wl]
          unfold z33 at b2 hs33
          rcases own_shape hO with rfl | rfl | ⟨sb, so, sl, sc, sx', sg, rfl⟩
          all_goals
            simp (maxSteps := 1000000) only [sx, fx, icI, icS, icB, icN, icL, implies_true, evBuildSlice, fillE, fillA, here, plain, laid, evOp, avOf, avCell, strOf, evBin, evInt, evStr, evUn, evResults, evResultsL, AV.isUndef, AV.cells, Heap.store, wbool_off, after_scope, Nat.reduceMul, Nat.reducePow, Nat.reduceSub, Nat.reduceBEq, UInt8.reduceToNat, Nat.reduceEqDiff, Nat.reduceLT, reduceCtorEq, Nat.reduceAdd, Nat.reduceLeDiff, ei, eo, t2, t3, t4, b0, b2, pd, hpl, set_02, hv'.lenAt und29, lt_false hlt, hoc, hset, wl, wc, wt, hs33]
            exact hK _ _ (PRes.ok (hpB.wk (M := N + 1) (sub_up hB (fin _ _).1) (sub_own (fin _ _).2.2.2) (by omega) (by omega) hLa) (post _)) (fin _ _).1 (fin _ _).2.1
  · have hb22 := hU2 _ _ hb2
    have hU12 := hU1.trans hU2
    have hb23 : ∀ xs, (HP H2 xs).blk (H.next + 2) = some (.row 33 24 [z33] 0 0) := fun xs => hF2.hpU xs _ _ hb22
    unfold z33 at hb23
    simp (maxSteps := 1000000) only [z109, sx, fx, icI, icS, icB, icN, icL, implies_true, evBuildSlice, fillE, fillA, here, plain, laid, evOp, avOf, avCell, strOf, evBin, evInt, evStr, evUn, evResults, evResultsL, AV.isUndef, AV.cells, Heap.store, wbool_off, after_scope, Nat.reduceMul, Nat.reducePow, Nat.reduceSub, Nat.reduceBEq, UInt8.reduceToNat, Nat.reduceEqDiff, Nat.reduceLT, reduceCtorEq, Nat.reduceAdd, Nat.reduceLeDiff, hF2.at, hF2.hp, hb23]
    exact hK _ _ (PRes.err (by decide)) ((hU12.trans (hF2.hpU _)).set (hF _ (by omega)) _) ((hF2.hpF _).set ((hF2.hpF _).lt (hb23 _)) _)
end Go.Proofs.T
