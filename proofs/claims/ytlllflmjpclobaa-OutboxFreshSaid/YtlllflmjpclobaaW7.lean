import Derived.Test.YtlllflmjpclobaaW6
set_option linter.unusedVariables false
set_option linter.unusedSimpArgs false
set_option linter.unusedVariables false
set_option linter.unusedSimpArgs false
set_option maxRecDepth 100000
namespace Go.Proofs.T
open Go.Ev

set_option maxHeartbeats 8000000 in
theorem f57_ok {H B : Heap} {N : Nat} {p : PS} {e : ES} (hB : Up B H) (hpB : PR B N p) (heB : ER B e) (hN : N ≤ 60) (hk2 : e.k ≠ 2) (hk7 : e.k ≠ 7) (hF : Free H) (K : AV → Heap → Prop) (hK : ∀ r H', PRes (hsub H' H B) (N + 1) (Post e) r → Up H H' → Free H' → K r H') : WF Try.prog 57 [.agg p.cells, .agg e.cells] H K := by
  have hp := hpB.up hB
  have he := heB.up hB
  have post : ∀ q, Post e q := fun q => ⟨fun h => absurd h hk2, fun h => absurd h hk7⟩
  have hpl := hp.len
  have hpc := hp.cells
  have hel := he.len
  have pt : p.cells.take 24 = p.cells := List.take_of_length_le (by omega)
  have pd := hp.da
  have e1 : (e.cells.drop 1).take 1 = [.int .i64 e.k] := rfl
  have e3 : (e.cells.drop 3).take 1 = [.int .i64 e.sq] := rfl
  have e4 : (e.cells.drop 4).take 1 = [.int .i64 e.rf] := rfl
  have hnl := hp.na
  have hels : ∀ c ∈ p.acts, ElB 32 c := fun c hc => (hp.ca c hc).el
  refine WF_body Try.func57 (by kernel_rfl) rfl Try.ntmps57 (by rw [Try.results57]) (of_decide_eq_true (by kernel_rfl)) ?_
  simp (maxSteps := 1000000) only [sx, fx, icI, icS, icB, icN, icL, implies_true, evBuildSlice, fillE, fillA, here, plain, laid, evOp, avOf, avCell, strOf, evBin, evInt, evStr, evUn, evResults, evResultsL, AV.isUndef, AV.cells, Heap.store, wbool_off, after_scope, Nat.reduceMul, Nat.reducePow, Nat.reduceSub, Nat.reduceBEq, UInt8.reduceToNat, Nat.reduceEqDiff, Nat.reduceLT, reduceCtorEq, Nat.reduceAdd, Nat.reduceLeDiff, hF.at, hF.hp, hpl, hel, pt, e3]
  generalize hH1 : HP H [Blk.row 33 24 [p.cells] 0 0, Blk.row 63 24 [e.cells] 0 0, Blk.row 33 24 [z33] 0 0] = H1
  have hH1' := hH1
  unfold z33 at hH1'
  simp only [hH1']
  have hb0 : H1.blk H.next = some (.row 33 24 [p.cells] 0 0) := by rw [← hH1, hp_blk0]; rfl
  have hb1 : H1.blk (H.next + 1) = some (.row 63 24 [e.cells] 0 0) := by rw [← hH1, hp_blk]; rfl
  have hb2 : H1.blk (H.next + 2) = some (.row 33 24 [z33] 0 0) := by rw [← hH1, hp_blk]; rfl
  have hF1 : Free H1 := hH1 ▸ hF.hpF _
  have hU1 : Up H H1 := hH1 ▸ hF.hpU _
  refine callStep (f35_ok hF1 hpl pd (hp.ha.up hU1) (by omega) hels _ (fun c H2 hfind hU2 hF2 => ?_) fun H2 hfind hU2 hF2 => ?_)
  · have hcm := List.mem_of_find?_eq_some hfind
    obtain ⟨cl, cc, c0⟩ := hels c hcm
    obtain ⟨cev, c1⟩ := (hp.ca c hcm).f1
    have ct : c.take 32 = c := List.take_of_length_le (by omega)
    have hsp : splice z60 0 c = c := by simp [splice, z60, cl]
    unfold z60 at hsp
    generalize hG : HP H2 [Blk.row 60 32 [c] 0 0] = G
    have hGF : Free G := hG ▸ hF2.hpF _
    have hG2 : Up H2 G := hG ▸ hF2.hpU _
    have hUG : Up H G := hU1.trans (hU2.trans hG2)
    have g0 := hG2 _ _ (hU2 _ _ hb0)
    have g1 := hG2 _ _ (hU2 _ _ hb1)
    have g2 := hG2 _ _ (hU2 _ _ hb2)
    have g3 : G.blk H2.next = some (.row 60 32 [c] 0 0) := by rw [← hG, hp_blk0]; rfl
    cases hx : (cev != e.rf) with
    | true =>
      have g2' := g2
      unfold z33 at g2'
      simp (maxSteps := 1000000) only [sx, fx, icI, icS, icB, icN, icL, implies_true, evBuildSlice, fillE, fillA, here, plain, laid, evOp, avOf, avCell, strOf, evBin, evInt, evStr, evUn, evResults, evResultsL, AV.isUndef, AV.cells, Heap.store, wbool_off, after_scope, Nat.reduceMul, Nat.reducePow, Nat.reduceSub, Nat.reduceBEq, UInt8.reduceToNat, Nat.reduceEqDiff, Nat.reduceLT, reduceCtorEq, Nat.reduceAdd, Nat.reduceLeDiff, hF2.at, hF2.hp, cl, cc, ct, c1, hsp, hG, g0, g1, g3, e3, e4, hel, hx, g2']
      exact hK _ _ (PRes.err (by decide)) (hUG.set (hF _ (by omega)) _) (hGF.set (hGF.lt g2) _)
    | false =>
    cases k8 : (e.k == 8) with
    | true =>
      have hs33 : splice z33 0 p.cells = p.cells := by simp [splice, z33, hpl]
      have g2' := g2
      unfold z33 at g2' hs33
      simp (maxSteps := 1000000) only [sx, fx, icI, icS, icB, icN, icL, implies_true, evBuildSlice, fillE, fillA, here, plain, laid, evOp, avOf, avCell, strOf, evBin, evInt, evStr, evUn, evResults, evResultsL, AV.isUndef, AV.cells, Heap.store, wbool_off, after_scope, Nat.reduceMul, Nat.reducePow, Nat.reduceSub, Nat.reduceBEq, UInt8.reduceToNat, Nat.reduceEqDiff, Nat.reduceLT, reduceCtorEq, Nat.reduceAdd, Nat.reduceLeDiff, hF2.at, hF2.hp, cl, cc, ct, c1, hsp, hG, g0, g1, g3, e1, e3, e4, hel, hx, k8, g2', pt, hpl, hpc, hs33]
      exact hK _ _ (PRes.ok ((hpB.up (sub_up hB (hUG.set (hF (H.next + 2) (by omega)) _))).mono (by omega)) (post _)) (hUG.set (hF _ (by omega)) _) (hGF.set (hGF.lt g2) _)
    | false =>
    cases k12 : (e.k == 12) with
    | true =>
      have c25 : c.set 25 (.bool true) = c.set 25 (.bool true) := rfl
      have cR := (hpB.ca c hcm).cancel
      obtain ⟨ccl, ccc, _⟩ := cR.el
      have cct : (c.set 25 (.bool true)).take 32 = c.set 25 (.bool true) := List.take_of_length_le (by omega)
      simp (maxSteps := 1000000) only [sx, fx, icI, icS, icB, icN, icL, implies_true, evBuildSlice, fillE, fillA, here, plain, laid, evOp, avOf, avCell, strOf, evBin, evInt, evStr, evUn, evResults, evResultsL, AV.isUndef, AV.cells, Heap.store, wbool_off, after_scope, Nat.reduceMul, Nat.reducePow, Nat.reduceSub, Nat.reduceBEq, UInt8.reduceToNat, Nat.reduceEqDiff, Nat.reduceLT, reduceCtorEq, Nat.reduceAdd, Nat.reduceLeDiff, hF2.at, hF2.hp, cl, cc, ct, c1, hsp, hG, g0, g1, g3, e1, e3, e4, hel, hx, k8, k12, pt, hpl]
      have hlt0 := hF2.lt (hU2 _ _ hb0)
      have hlt2 := hF2.lt (hU2 _ _ hb2)
      generalize hG3 : G.set H2.next (Blk.row 60 32 [c.set 25 (.bool true)] 0 0) = G3
      have k0 : G3.blk H.next = some (.row 33 24 [p.cells] 0 0) := by rw [← hG3, Heap.set_other _ _ _ (by omega)]; exact g0
      have k2 : G3.blk (H.next + 2) = some (.row 33 24 [z33] 0 0) := by rw [← hG3, Heap.set_other _ _ _ (by omega)]; exact g2
      have k3 : G3.blk H2.next = some (.row 60 32 [c.set 25 (.bool true)] 0 0) := by rw [← hG3]; exact set_same
      have kF : Free G3 := hG3 ▸ hGF.set (hGF.lt g3) _
      have kU : Up H G3 := hG3 ▸ hUG.set (hF _ (by omega)) _
      simp (maxSteps := 1000000) only [sx, fx, icI, icS, icB, icN, icL, implies_true, evBuildSlice, fillE, fillA, here, plain, laid, evOp, avOf, avCell, strOf, evBin, evInt, evStr, evUn, evResults, evResultsL, AV.isUndef, AV.cells, Heap.store, wbool_off, after_scope, Nat.reduceMul, Nat.reducePow, Nat.reduceSub, Nat.reduceBEq, UInt8.reduceToNat, Nat.reduceEqDiff, Nat.reduceLT, reduceCtorEq, Nat.reduceAdd, Nat.reduceLeDiff, k0, k3, pt, hpl, cct, ccl]
      refine callStep (f24_ok (hp.up kU) ((cR.up hB).up kU) (by omega) kF _ (fun v L H4 hU4 hF4 hO4 hl4 hA4 _ => ?_) fun H4 hU4 hF4 => ?_)
      · have j2 : ∀ xs, (HP H4 xs).blk (H.next + 2) = some (.row 33 24 [z33] 0 0) := fun xs => hF4.hpU xs _ _ (hU4 _ _ k2)
        have hA : ∀ c ∈ L, ActR B p.sq c := fun x hx => by
          rcases hA4 x hx with rfl | hx
          · exact cR
          · exact hpB.ca x hx
        have fU := fun y => ((kU.trans hU4).trans (hF4.hpU [Blk.row 33 24 [(p.wa v L).cells] 0 0])).set (hF (H.next + 2) (by omega)) y
        have fF := fun y => (hF4.hpF [Blk.row 33 24 [(p.wa v L).cells] 0 0]).set ((hF4.hpF [Blk.row 33 24 [(p.wa v L).cells] 0 0]).lt (j2 _)) y
        have fO := fun y => (own_set (hO4.up (hF4.hpU [Blk.row 33 24 [(p.wa v L).cells] 0 0])) (c := H.next + 2) (by rw [k2]; simp) y).base kU
        have hpr := fun y => hpB.acts (M := N + 1) (sub_up hB (fU y)) (sub_own (fO y)) (by omega) (by omega) hA
        have wl := (hpr (.row 33 24 [] 0 0)).len
        have wc := (hpr (.row 33 24 [] 0 0)).cells
        have wt : (p.wa v L).cells.take 24 = (p.wa v L).cells := List.take_of_length_le (by omega)
        have hs33 : splice z33 0 (p.wa v L).cells = (p.wa v L).cells := by simp [splice, z33, wl]
        unfold z33 at j2 hs33
        simp (maxSteps := 1000000) only [sx, fx, icI, icS, icB, icN, icL, implies_true, evBuildSlice, fillE, fillA, here, plain, laid, evOp, avOf, avCell, strOf, evBin, evInt, evStr, evUn, evResults, evResultsL, AV.isUndef, AV.cells, Heap.store, wbool_off, after_scope, Nat.reduceMul, Nat.reducePow, Nat.reduceSub, Nat.reduceBEq, UInt8.reduceToNat, Nat.reduceEqDiff, Nat.reduceLT, reduceCtorEq, Nat.reduceAdd, Nat.reduceLeDiff, hF4.at, hF4.hp, j2, wl, wc, wt, hs33]
        exact hK _ _ (PRes.ok (hpr _) (post _)) (fU _) (fF _)
      · have j2 : ∀ xs, (HP H4 xs).blk (H.next + 2) = some (.row 33 24 [z33] 0 0) := fun xs => hF4.hpU xs _ _ (hU4 _ _ k2)
        have fU := ((kU.trans hU4).trans (hF4.hpU [Blk.row 33 24 [z33] 0 0])).set (hF (H.next + 2) (by omega))
        have fF := (hF4.hpF [Blk.row 33 24 [z33] 0 0]).set ((hF4.hpF [Blk.row 33 24 [z33] 0 0]).lt (j2 _))
        unfold z33 at j2
        simp (maxSteps := 1000000) only [z33, sx, fx, icI, icS, icB, icN, icL, implies_true, evBuildSlice, fillE, fillA, here, plain, laid, evOp, avOf, avCell, strOf, evBin, evInt, evStr, evUn, evResults, evResultsL, AV.isUndef, AV.cells, Heap.store, wbool_off, after_scope, Nat.reduceMul, Nat.reducePow, Nat.reduceSub, Nat.reduceBEq, UInt8.reduceToNat, Nat.reduceEqDiff, Nat.reduceLT, reduceCtorEq, Nat.reduceAdd, Nat.reduceLeDiff, hF4.at, hF4.hp, j2]
        exact hK _ _ (PRes.ok (p := zPS) (pr_zero _ _) (post _)) (fU _) (fF _)
    | false =>
    simp (maxSteps := 1000000) only [sx, fx, icI, icS, icB, icN, icL, implies_true, evBuildSlice, fillE, fillA, here, plain, laid, evOp, avOf, avCell, strOf, evBin, evInt, evStr, evUn, evResults, evResultsL, AV.isUndef, AV.cells, Heap.store, wbool_off, after_scope, Nat.reduceMul, Nat.reducePow, Nat.reduceSub, Nat.reduceBEq, UInt8.reduceToNat, Nat.reduceEqDiff, Nat.reduceLT, reduceCtorEq, Nat.reduceAdd, Nat.reduceLeDiff, hF2.at, hF2.hp, cl, cc, ct, c1, hsp, hG, g0, g1, g3, e1, e3, e4, hel, hx, k8, k12]
    refine loopStep' (fun env H' => ∃ (i : Nat) (out : AV) (L : List (List AV)), i ≤ p.acts.length ∧ env.at (.tmp 11) = .int .i64 i ∧ env.at (.tmp 10) = out ∧ env.at (.tmp 2) = .ptr H.next 0 0 0 ∧ env.at (.tmp 3) = .ptr (H.next + 1) 0 0 0 ∧ env.at (.tmp 4) = .ptr (H.next + 2) 0 0 0 ∧
        L.length ≤ i ∧ (∀ c ∈ L, c ∈ p.acts) ∧ Own G H' 60 32 out L ∧ Up G H' ∧ Free H')
      (fun env H' => match env.at (.tmp 11) with | .int _ i => ((p.acts.length : Int) - i).toNat | _ => 0) ?_ ?_
    · exact ⟨0, .nilslice, [], Nat.zero_le _, by simp only [sx, fx, icI, icS, icB, icN, icL, implies_true, evBuildSlice, fillE, fillA, here, plain, laid, evOp, avOf, avCell, strOf, evBin, evInt, evStr, evUn, evResults, evResultsL, AV.isUndef, AV.cells, Heap.store, wbool_off, after_scope, Nat.reduceMul, Nat.reducePow, Nat.reduceSub, Nat.reduceBEq, UInt8.reduceToNat, Nat.reduceEqDiff, Nat.reduceLT, reduceCtorEq, Nat.reduceAdd, Nat.reduceLeDiff]; rfl, by simp only [sx, fx, icI, icS, icB, icN, icL, implies_true, evBuildSlice, fillE, fillA, here, plain, laid, evOp, avOf, avCell, strOf, evBin, evInt, evStr, evUn, evResults, evResultsL, AV.isUndef, AV.cells, Heap.store, wbool_off, after_scope, Nat.reduceMul, Nat.reducePow, Nat.reduceSub, Nat.reduceBEq, UInt8.reduceToNat, Nat.reduceEqDiff, Nat.reduceLT, reduceCtorEq, Nat.reduceAdd, Nat.reduceLeDiff], by simp only [sx, fx, icI, icS, icB, icN, icL, implies_true, evBuildSlice, fillE, fillA, here, plain, laid, evOp, avOf, avCell, strOf, evBin, evInt, evStr, evUn, evResults, evResultsL, AV.isUndef, AV.cells, Heap.store, wbool_off, after_scope, Nat.reduceMul, Nat.reducePow, Nat.reduceSub, Nat.reduceBEq, UInt8.reduceToNat, Nat.reduceEqDiff, Nat.reduceLT, reduceCtorEq, Nat.reduceAdd, Nat.reduceLeDiff], by simp only [sx, fx, icI, icS, icB, icN, icL, implies_true, evBuildSlice, fillE, fillA, here, plain, laid, evOp, avOf, avCell, strOf, evBin, evInt, evStr, evUn, evResults, evResultsL, AV.isUndef, AV.cells, Heap.store, wbool_off, after_scope, Nat.reduceMul, Nat.reducePow, Nat.reduceSub, Nat.reduceBEq, UInt8.reduceToNat, Nat.reduceEqDiff, Nat.reduceLT, reduceCtorEq, Nat.reduceAdd, Nat.reduceLeDiff], by simp only [sx, fx, icI, icS, icB, icN, icL, implies_true, evBuildSlice, fillE, fillA, here, plain, laid, evOp, avOf, avCell, strOf, evBin, evInt, evStr, evUn, evResults, evResultsL, AV.isUndef, AV.cells, Heap.store, wbool_off, after_scope, Nat.reduceMul, Nat.reducePow, Nat.reduceSub, Nat.reduceBEq, UInt8.reduceToNat, Nat.reduceEqDiff, Nat.reduceLT, reduceCtorEq, Nat.reduceAdd, Nat.reduceLeDiff], Nat.le_refl _, by simp, Own.nil, Up.refl _, hGF⟩
    · rintro env H' ⟨i, out, L, hi, ei, eo, t2, t3, t4, hLl, hLa, hO, hU', hF'⟩
      have b0 := hU' _ _ g0
      have b1 := hU' _ _ g1
      have b2 := hU' _ _ g2
      have hv' := hp.ha.up (hUG.trans hU')
      by_cases hlt : i < p.acts.length
      · obtain ⟨x, hx⟩ : ∃ x, p.acts[i]? = some x := ⟨_, List.getElem?_eq_getElem hlt⟩
        have hxm := List.mem_of_getElem? hx
        obtain ⟨xl, xc, x0⟩ := hels x hxm
        have xt : x.take 32 = x := List.take_of_length_le (by omega)
        have hw := wrap_succ (i := i) (by omega)
        simp (maxSteps := 1000000) only [sx, fx, icI, icS, icB, icN, icL, implies_true, evBuildSlice, fillE, fillA, here, plain, laid, evOp, avOf, avCell, strOf, evBin, evInt, evStr, evUn, evResults, evResultsL, AV.isUndef, AV.cells, Heap.store, wbool_off, after_scope, Nat.reduceMul, Nat.reducePow, Nat.reduceSub, Nat.reduceBEq, UInt8.reduceToNat, Nat.reduceEqDiff, Nat.reduceLT, reduceCtorEq, Nat.reduceAdd, Nat.reduceLeDiff, ei, eo, t2, t3, t4, b0, b1, pd, hv'.lenAt und27, lt_true hlt]
        refine drawStep [] [0, 1, 2, 3, 4, 5, 6, 7, 8] _ rfl (by kernel_rfl) ?_
        rcases index2 hv' und27 sz60 .i64 hx with hpx | ⟨b', j, g, ty, els, gen, wgen, hpx, hbk, hwg, hel'⟩
        · cases hs : (seqOf x != e.sq) with
          | true =>
            simp (maxSteps := 1000000) only [sx, fx, icI, icS, icB, icN, icL, implies_true, evBuildSlice, fillE, fillA, here, plain, laid, evOp, avOf, avCell, strOf, evBin, evInt, evStr, evUn, evResults, evResultsL, AV.isUndef, AV.cells, Heap.store, wbool_off, after_scope, Nat.reduceMul, Nat.reducePow, Nat.reduceSub, Nat.reduceBEq, UInt8.reduceToNat, Nat.reduceEqDiff, Nat.reduceLT, reduceCtorEq, Nat.reduceAdd, Nat.reduceLeDiff, ei, eo, t2, t3, t4, b0, b1, pd, hpx, x0, xl, e3, hel, hs, hF'.at, hF'.hp, xt, xc]
            refine opStep_append app27 (hO.up (hF'.hpU _)) (hF'.hpF _) (hU'.trans (hF'.hpU _)) (holds_hp (k := 0) (L := [x]) rfl rfl (Nat.le_refl _) (by simp [xl])) (fun cs hcs => by rw [List.mem_singleton] at hcs; rw [hcs]; exact xc) (by simp only [maxBytes, List.length_cons, List.length_nil]; omega) (by simp only [maxBytes, List.length_cons, List.length_nil]; omega) (fun u K' hO4 hU4 hF4 => ?_)
            simp (maxSteps := 1000000) only [sx, fx, icI, icS, icB, icN, icL, implies_true, evBuildSlice, fillE, fillA, here, plain, laid, evOp, avOf, avCell, strOf, evBin, evInt, evStr, evUn, evResults, evResultsL, AV.isUndef, AV.cells, Heap.store, wbool_off, after_scope, Nat.reduceMul, Nat.reducePow, Nat.reduceSub, Nat.reduceBEq, UInt8.reduceToNat, Nat.reduceEqDiff, Nat.reduceLT, reduceCtorEq, Nat.reduceAdd, Nat.reduceLeDiff, ei, eo, t2, t3, t4, hw]
            refine ⟨⟨i + 1, u, L ++ [x], hlt, rfl, rfl, by simp; omega, fun c hc => ?_, hO4, hU4, hF4⟩, ?_⟩
            · rcases List.mem_append.1 hc with hc | hc
              · exact hLa c hc
              · simp at hc; subst hc; exact hxm
            · omega
          | false =>
            simp (maxSteps := 1000000) only [sx, fx, icI, icS, icB, icN, icL, implies_true, evBuildSlice, fillE, fillA, here, plain, laid, evOp, avOf, avCell, strOf, evBin, evInt, evStr, evUn, evResults, evResultsL, AV.isUndef, AV.cells, Heap.store, wbool_off, after_scope, Nat.reduceMul, Nat.reducePow, Nat.reduceSub, Nat.reduceBEq, UInt8.reduceToNat, Nat.reduceEqDiff, Nat.reduceLT, reduceCtorEq, Nat.reduceAdd, Nat.reduceLeDiff, ei, eo, t2, t3, t4, b0, b1, pd, hpx, x0, xl, e3, hel, hs, hw]
            refine ⟨⟨i + 1, out, L, hlt, rfl, rfl, by omega, hLa, hO, hU', hF'⟩, ?_⟩
            omega
        · cases hs : (seqOf x != e.sq) with
          | true =>
            simp (maxSteps := 1000000) only [sx, fx, icI, icS, icB, icN, icL, implies_true, evBuildSlice, fillE, fillA, here, plain, laid, evOp, avOf, avCell, strOf, evBin, evInt, evStr, evUn, evResults, evResultsL, AV.isUndef, AV.cells, Heap.store, wbool_off, after_scope, Nat.reduceMul, Nat.reducePow, Nat.reduceSub, Nat.reduceBEq, UInt8.reduceToNat, Nat.reduceEqDiff, Nat.reduceLT, reduceCtorEq, Nat.reduceAdd, Nat.reduceLeDiff, ei, eo, t2, t3, t4, b0, b1, pd, hpx, hbk, hwg, hel', x0, xl, e3, hel, hs, hF'.at, hF'.hp, xt, xc]
            refine opStep_append app27 (hO.up (hF'.hpU _)) (hF'.hpF _) (hU'.trans (hF'.hpU _)) (holds_hp (k := 0) (L := [x]) rfl rfl (Nat.le_refl _) (by simp [xl])) (fun cs hcs => by rw [List.mem_singleton] at hcs; rw [hcs]; exact xc) (by simp only [maxBytes, List.length_cons, List.length_nil]; omega) (by simp only [maxBytes, List.length_cons, List.length_nil]; omega) (fun u K' hO4 hU4 hF4 => ?_)
            simp (maxSteps := 1000000) only [sx, fx, icI, icS, icB, icN, icL, implies_true, evBuildSlice, fillE, fillA, here, plain, laid, evOp, avOf, avCell, strOf, evBin, evInt, evStr, evUn, evResults, evResultsL, AV.isUndef, AV.cells, Heap.store, wbool_off, after_scope, Nat.reduceMul, Nat.reducePow, Nat.reduceSub, Nat.reduceBEq, UInt8.reduceToNat, Nat.reduceEqDiff, Nat.reduceLT, reduceCtorEq, Nat.reduceAdd, Nat.reduceLeDiff, ei, eo, t2, t3, t4, hw]
            refine ⟨⟨i + 1, u, L ++ [x], hlt, rfl, rfl, by simp; omega, fun c hc => ?_, hO4, hU4, hF4⟩, ?_⟩
            · rcases List.mem_append.1 hc with hc | hc
              · exact hLa c hc
              · simp at hc; subst hc; exact hxm
            · omega
          | false =>
            simp (maxSteps := 1000000) only [sx, fx, icI, icS, icB, icN, icL, implies_true, evBuildSlice, fillE, fillA, here, plain, laid, evOp, avOf, avCell, strOf, evBin, evInt, evStr, evUn, evResults, evResultsL, AV.isUndef, AV.cells, Heap.store, wbool_off, after_scope, Nat.reduceMul, Nat.reducePow, Nat.reduceSub, Nat.reduceBEq, UInt8.reduceToNat, Nat.reduceEqDiff, Nat.reduceLT, reduceCtorEq, Nat.reduceAdd, Nat.reduceLeDiff, ei, eo, t2, t3, t4, b0, b1, pd, hpx, hbk, hwg, hel', x0, xl, e3, hel, hs, hw]
            refine ⟨⟨i + 1, out, L, hlt, rfl, rfl, by omega, hLa, hO, hU', hF'⟩, ?_⟩
            omega
      · have hoc := holds_cell hO.holds
        have fin := fun x y => two_set hO hU' hUG hF hF' (a := H.next) (b := H.next + 2) (by rw [g0]; simp) (by rw [g2]; simp) (Nat.le_refl _) (by omega) x y
        have hset := hp.sa out L
        have hpr := hpB.acts (M := N + 1) (sub_up hB (fin (.row 33 24 [] 0 0) (.row 33 24 [] 0 0)).1) (sub_own (fin (.row 33 24 [] 0 0) (.row 33 24 [] 0 0)).2.2.2) (by omega) (by omega) (fun c hc => hpB.ca c (hLa c hc))
        have wl := hpr.len
        have wc := hpr.cells
        have wt : (p.wa out L).cells.take 24 = (p.wa out L).cells := List.take_of_length_le (by omega)
        have hs33 : splice z33 0 (p.wa out L).cells = (p.wa out L).cells := by simp [splice, z33, wl]
        unfold z33 at b2 hs33
        rcases own_shape hO with rfl | rfl | ⟨sb, so, sl, sc, sx', sg, rfl⟩
        all_goals
          simp (maxSteps := 1000000) only [sx, fx, icI, icS, icB, icN, icL, implies_true, evBuildSlice, fillE, fillA, here, plain, laid, evOp, avOf, avCell, strOf, evBin, evInt, evStr, evUn, evResults, evResultsL, AV.isUndef, AV.cells, Heap.store, wbool_off, after_scope, Nat.reduceMul, Nat.reducePow, Nat.reduceSub, Nat.reduceBEq, UInt8.reduceToNat, Nat.reduceEqDiff, Nat.reduceLT, reduceCtorEq, Nat.reduceAdd, Nat.reduceLeDiff, ei, eo, t2, t3, t4, b0, b2, pd, hpl, set_02, hv'.lenAt und27, lt_false hlt, hoc, hset, wl, wc, wt, hs33]
          exact hK _ _ (PRes.ok (hpB.acts (M := N + 1) (sub_up hB (fin _ _).1) (sub_own (fin _ _).2.2.2) (by omega) (by omega) (fun c hc => hpB.ca c (hLa c hc))) (post _)) (fin _ _).1 (fin _ _).2.1
  · have hb22 := hU2 _ _ hb2
    have hU12 := hU1.trans hU2
    have hb23 : ∀ xs, (HP H2 xs).blk (H.next + 2) = some (.row 33 24 [z33] 0 0) := fun xs => hF2.hpU xs _ _ hb22
    unfold z33 at hb23
    simp (maxSteps := 1000000) only [z60, sx, fx, icI, icS, icB, icN, icL, implies_true, evBuildSlice, fillE, fillA, here, plain, laid, evOp, avOf, avCell, strOf, evBin, evInt, evStr, evUn, evResults, evResultsL, AV.isUndef, AV.cells, Heap.store, wbool_off, after_scope, Nat.reduceMul, Nat.reducePow, Nat.reduceSub, Nat.reduceBEq, UInt8.reduceToNat, Nat.reduceEqDiff, Nat.reduceLT, reduceCtorEq, Nat.reduceAdd, Nat.reduceLeDiff, hF2.at, hF2.hp, hb23]
    exact hK _ _ (PRes.err (by decide)) ((hU12.trans (hF2.hpU _)).set (hF _ (by omega)) _) ((hF2.hpF _).set ((hF2.hpF _).lt (hb23 _)) _)
end Go.Proofs.T
