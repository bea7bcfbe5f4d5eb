import Derived.Test.YtlllflmjpclobaaW9
set_option linter.unusedVariables false
set_option linter.unusedSimpArgs false
set_option linter.unusedVariables false
set_option linter.unusedSimpArgs false
set_option maxRecDepth 100000
namespace Go.Proofs.T
open Go.Ev

set_option maxHeartbeats 8000000 in
theorem f61_ok {H B : Heap} {N : Nat} {p : PS} {e : ES} (hB : Up B H) (hpB : PR B N p) (heB : ER B e) (hN : N ≤ 60) (hk2 : e.k ≠ 2) (hk7 : e.k ≠ 7) (hF : Free H) (K : AV → Heap → Prop) (hK : ∀ r H', PRes (hsub H' H B) (N + 1) (Post e) r → Up H H' → Free H' → K r H') : WF Try.prog 61 [.agg p.cells, .agg e.cells] H K := by
  have hp := hpB.up hB
  have he := heB.up hB
  have post : ∀ q, Post e q := fun q => ⟨fun h => absurd h hk2, fun h => absurd h hk7⟩
  have hpl := hp.len
  have hpc := hp.cells
  have hel := he.len
  have pt : p.cells.take 24 = p.cells := List.take_of_length_le (by omega)
  have pd := hp.du
  have e1 : (e.cells.drop 1).take 1 = [.int .i64 e.k] := rfl
  have e3 : (e.cells.drop 3).take 1 = [.int .i64 e.sq] := rfl
  have e4 : (e.cells.drop 4).take 1 = [.int .i64 e.rf] := rfl
  have e8 : (e.cells.drop 8).take 1 = [.str e.ky] := rfl
  have hnl := hp.nu
  refine WF_body Try.func61 (by kernel_rfl) rfl Try.ntmps61 (by rw [Try.results61]) (of_decide_eq_true (by kernel_rfl)) ?_
  simp (maxSteps := 1000000) only [sx, fx, icI, icS, icB, icN, icL, implies_true, evBuildSlice, fillE, fillA, here, plain, laid, evOp, avOf, avCell, strOf, evBin, evInt, evStr, evUn, evResults, evResultsL, AV.isUndef, AV.cells, Heap.store, wbool_off, after_scope, Nat.reduceMul, Nat.reducePow, Nat.reduceSub, Nat.reduceBEq, UInt8.reduceToNat, Nat.reduceEqDiff, Nat.reduceLT, reduceCtorEq, Nat.reduceAdd, Nat.reduceLeDiff, hF.at, hF.hp, hpl, hel, pt, e1, e3, e8]
  generalize hH1 : HP H [Blk.row 33 24 [p.cells] 0 0, Blk.row 63 24 [e.cells] 0 0, Blk.row 33 24 [z33] 0 0] = H1
  have hH1' := hH1
  unfold z33 at hH1'
  simp only [hH1']
  have hb0 : H1.blk H.next = some (.row 33 24 [p.cells] 0 0) := by rw [← hH1, hp_blk0]; rfl
  have hb1 : H1.blk (H.next + 1) = some (.row 63 24 [e.cells] 0 0) := by rw [← hH1, hp_blk]; rfl
  have hb2 : H1.blk (H.next + 2) = some (.row 33 24 [z33] 0 0) := by rw [← hH1, hp_blk]; rfl
  have hF1 : Free H1 := hH1 ▸ hF.hpF _
  have hU1 : Up H H1 := hH1 ▸ hF.hpU _
  refine callStep (f83_ok hF1 hpl pd (hp.hu.up hU1) (by omega) hp.cu _ (fun i H2 hi hU2 hF2 => ?_) fun H2 hU2 hF2 => ?_)
  · have i1 : ((i : Int) ≥ 0) = True := by simp
    have i2 : ((i : Int) < 0) = False := by simp
    have g0 := hU2 _ _ hb0
    have g1 := hU2 _ _ hb1
    have g2 := hU2 _ _ hb2
    have hUG := hU1.trans hU2
    have g2' := g2
    unfold z33 at g2'
    have f0 : ∀ xs, (HP H2 xs).blk H.next = some (.row 33 24 [p.cells] 0 0) := fun xs => hF2.hpU xs _ _ g0
    simp (maxSteps := 1000000) only [sx, fx, icI, icS, icB, icN, icL, implies_true, evBuildSlice, fillE, fillA, here, plain, laid, evOp, avOf, avCell, strOf, evBin, evInt, evStr, evUn, evResults, evResultsL, AV.isUndef, AV.cells, Heap.store, wbool_off, after_scope, Nat.reduceMul, Nat.reducePow, Nat.reduceSub, Nat.reduceBEq, UInt8.reduceToNat, Nat.reduceEqDiff, Nat.reduceLT, reduceCtorEq, Nat.reduceAdd, Nat.reduceLeDiff, hF2.at, hF2.hp, f0, pd]
    refine opStep_append app31 (own_hp (G := H2) (k := 0) (n := 0) (L := []) hF2 (Up.refl _) rfl rfl (by simp)) (hF2.hpF _) (hF2.hpU _) (hp.hu.up (hUG.trans (hF2.hpU _))) (UpdL.cells hp.cu) (by simp only [maxBytes, List.length_cons, List.length_nil, List.nil_append, List.length_append]; omega) (by simp only [maxBytes, List.length_cons, List.length_nil, List.nil_append, List.length_append]; omega) (fun u H3 oO oU oF => ?_)
    simp only [List.nil_append] at oO
    have b0 := oU _ _ g0
    have b1 := oU _ _ g1
    have b2 := oU _ _ g2
    have b2' := b2
    unfold z33 at b2'
    have j1 : ((-1 : Int) ≥ 0) = False := by simp
    have j2 : ((-1 : Int) < 0) = True := by simp
    cases k27 : (e.k == 27) with
    | true =>
      simp (maxSteps := 1000000) only [sx, fx, icI, icS, icB, icN, icL, implies_true, evBuildSlice, fillE, fillA, here, plain, laid, evOp, avOf, avCell, strOf, evBin, evInt, evStr, evUn, evResults, evResultsL, AV.isUndef, AV.cells, Heap.store, wbool_off, after_scope, Nat.reduceMul, Nat.reducePow, Nat.reduceSub, Nat.reduceBEq, UInt8.reduceToNat, Nat.reduceEqDiff, Nat.reduceLT, reduceCtorEq, Nat.reduceAdd, Nat.reduceLeDiff, b0, b1, e1, hel, k27, i1, b2']
      exact hK _ _ (PRes.err (by decide)) ((hUG.trans oU).set (hF _ (by omega)) _) (oF.set (oF.lt b2) _)
    | false =>
      obtain ⟨c, hc⟩ : ∃ c, p.upds[i]? = some c := ⟨_, List.getElem?_eq_getElem hi⟩
      obtain ⟨us, ub, rfl⟩ := hp.cu c (List.mem_of_getElem? hc)
      rcases index2 (hp.hu.up (hUG.trans oU)) und31 sz120 .i64 hc with hpx | ⟨b', j, g, ty, els, gen, wgen, hpx, hbk, hwg, hel'⟩
      · cases ub with
        | true =>
          simp (maxSteps := 1000000) only [sx, fx, icI, icS, icB, icN, icL, implies_true, evBuildSlice, fillE, fillA, here, plain, laid, evOp, avOf, avCell, strOf, evBin, evInt, evStr, evUn, evResults, evResultsL, AV.isUndef, AV.cells, Heap.store, wbool_off, after_scope, Nat.reduceMul, Nat.reducePow, Nat.reduceSub, Nat.reduceBEq, UInt8.reduceToNat, Nat.reduceEqDiff, Nat.reduceLT, reduceCtorEq, Nat.reduceAdd, Nat.reduceLeDiff, b0, b1, e1, hel, k27, i2, b2', pd, hpx, ]
          exact hK _ _ (PRes.err (by decide)) ((hUG.trans oU).set (hF _ (by omega)) _) (oF.set (oF.lt b2) _)
        | false =>
          obtain ⟨ob, oex, og, oty, owg, rfl, orow, ole, onew, oix, oown⟩ := own_at (P := Try.prog) oO und31 sz120 hi
          have qO := oown [.str e.ky, .bool true] rfl rfl
          have qU : Up H2 (H3.set ob (.row oty 2 (p.upds.set i [.str e.ky, .bool true]) og og)) := oU.set onew _
          have qF : Free (H3.set ob (.row oty 2 (p.upds.set i [.str e.ky, .bool true]) og og)) := oF.set (oF.lt orow) _
          have r0 := qU _ _ g0
          have r2 := qU _ _ g2
          unfold z33 at r2
          have hws : splice [.str us, .bool false] 0 [.str e.ky, .bool true] = [.str e.ky, .bool true] := rfl
          have hoc := holds_cell qO.holds
          have fin := fun x y => two_set qO qU hUG hF qF (a := H.next) (b := H.next + 2) (by rw [g0]; simp) (by rw [g2]; simp) (Nat.le_refl _) (by omega) x y
          have hset := hp.su (.slice ob 0 p.upds.length p.upds.length oex og) (p.upds.set i [.str e.ky, .bool true])
          have hLs : ∀ c ∈ (p.upds.set i [.str e.ky, .bool true]), UpdR c := fun c hc => by
            rcases List.mem_or_eq_of_mem_set hc with hc | rfl
            · exact hp.cu c hc
            · exact ⟨_, _, rfl⟩
          have hpr := fun x y => hpB.wu (M := N + 1) (sub_up hB (fin x y).1) (sub_own (fin x y).2.2.2) (by simp; omega) (by omega) hLs
          have wl := (hpr (.row 33 24 [] 0 0) (.row 33 24 [] 0 0)).len
          have wc := (hpr (.row 33 24 [] 0 0) (.row 33 24 [] 0 0)).cells
          have wt : (p.wu (.slice ob 0 p.upds.length p.upds.length oex og) (p.upds.set i [.str e.ky, .bool true])).cells.take 24 = (p.wu (.slice ob 0 p.upds.length p.upds.length oex og) (p.upds.set i [.str e.ky, .bool true])).cells := List.take_of_length_le (by omega)
          have hs33 : splice z33 0 (p.wu (.slice ob 0 p.upds.length p.upds.length oex og) (p.upds.set i [.str e.ky, .bool true])).cells = (p.wu (.slice ob 0 p.upds.length p.upds.length oex og) (p.upds.set i [.str e.ky, .bool true])).cells := by simp [splice, z33, wl]
          unfold z33 at hs33
          simp (maxSteps := 1000000) only [sx, fx, icI, icS, icB, icN, icL, implies_true, evBuildSlice, fillE, fillA, here, plain, laid, evOp, avOf, avCell, strOf, evBin, evInt, evStr, evUn, evResults, evResultsL, AV.isUndef, AV.cells, Heap.store, wbool_off, after_scope, Nat.reduceMul, Nat.reducePow, Nat.reduceSub, Nat.reduceBEq, UInt8.reduceToNat, Nat.reduceEqDiff, Nat.reduceLT, reduceCtorEq, Nat.reduceAdd, Nat.reduceLeDiff, b0, b1, e1, e8, hel, k27, i2, b2', pd, hpx, oix, orow, ole, hc, hws]
          generalize hQ : H3.set ob (.row oty 2 (p.upds.set i [.str e.ky, .bool true]) og og) = Q at *
          simp (maxSteps := 1000000) only [sx, fx, icI, icS, icB, icN, icL, implies_true, evBuildSlice, fillE, fillA, here, plain, laid, evOp, avOf, avCell, strOf, evBin, evInt, evStr, evUn, evResults, evResultsL, AV.isUndef, AV.cells, Heap.store, wbool_off, after_scope, Nat.reduceMul, Nat.reducePow, Nat.reduceSub, Nat.reduceBEq, UInt8.reduceToNat, Nat.reduceEqDiff, Nat.reduceLT, reduceCtorEq, Nat.reduceAdd, Nat.reduceLeDiff, r0, r2, hpl, set_02, hoc, hset, wl, wc, wt, hs33]
          exact hK _ _ (PRes.ok (hpr _ _) (post _)) (fin _ _).1 (fin _ _).2.1
      · cases ub with
        | true =>
          simp (maxSteps := 1000000) only [sx, fx, icI, icS, icB, icN, icL, implies_true, evBuildSlice, fillE, fillA, here, plain, laid, evOp, avOf, avCell, strOf, evBin, evInt, evStr, evUn, evResults, evResultsL, AV.isUndef, AV.cells, Heap.store, wbool_off, after_scope, Nat.reduceMul, Nat.reducePow, Nat.reduceSub, Nat.reduceBEq, UInt8.reduceToNat, Nat.reduceEqDiff, Nat.reduceLT, reduceCtorEq, Nat.reduceAdd, Nat.reduceLeDiff, b0, b1, e1, hel, k27, i2, b2', pd, hpx, hbk, hwg, hel', ]
          exact hK _ _ (PRes.err (by decide)) ((hUG.trans oU).set (hF _ (by omega)) _) (oF.set (oF.lt b2) _)
        | false =>
          obtain ⟨ob, oex, og, oty, owg, rfl, orow, ole, onew, oix, oown⟩ := own_at (P := Try.prog) oO und31 sz120 hi
          have qO := oown [.str e.ky, .bool true] rfl rfl
          have qU : Up H2 (H3.set ob (.row oty 2 (p.upds.set i [.str e.ky, .bool true]) og og)) := oU.set onew _
          have qF : Free (H3.set ob (.row oty 2 (p.upds.set i [.str e.ky, .bool true]) og og)) := oF.set (oF.lt orow) _
          have r0 := qU _ _ g0
          have r2 := qU _ _ g2
          unfold z33 at r2
          have hws : splice [.str us, .bool false] 0 [.str e.ky, .bool true] = [.str e.ky, .bool true] := rfl
          have hoc := holds_cell qO.holds
          have fin := fun x y => two_set qO qU hUG hF qF (a := H.next) (b := H.next + 2) (by rw [g0]; simp) (by rw [g2]; simp) (Nat.le_refl _) (by omega) x y
          have hset := hp.su (.slice ob 0 p.upds.length p.upds.length oex og) (p.upds.set i [.str e.ky, .bool true])
          have hLs : ∀ c ∈ (p.upds.set i [.str e.ky, .bool true]), UpdR c := fun c hc => by
            rcases List.mem_or_eq_of_mem_set hc with hc | rfl
            · exact hp.cu c hc
            · exact ⟨_, _, rfl⟩
          have hpr := fun x y => hpB.wu (M := N + 1) (sub_up hB (fin x y).1) (sub_own (fin x y).2.2.2) (by simp; omega) (by omega) hLs
          have wl := (hpr (.row 33 24 [] 0 0) (.row 33 24 [] 0 0)).len
          have wc := (hpr (.row 33 24 [] 0 0) (.row 33 24 [] 0 0)).cells
          have wt : (p.wu (.slice ob 0 p.upds.length p.upds.length oex og) (p.upds.set i [.str e.ky, .bool true])).cells.take 24 = (p.wu (.slice ob 0 p.upds.length p.upds.length oex og) (p.upds.set i [.str e.ky, .bool true])).cells := List.take_of_length_le (by omega)
          have hs33 : splice z33 0 (p.wu (.slice ob 0 p.upds.length p.upds.length oex og) (p.upds.set i [.str e.ky, .bool true])).cells = (p.wu (.slice ob 0 p.upds.length p.upds.length oex og) (p.upds.set i [.str e.ky, .bool true])).cells := by simp [splice, z33, wl]
          unfold z33 at hs33
          simp (maxSteps := 1000000) only [sx, fx, icI, icS, icB, icN, icL, implies_true, evBuildSlice, fillE, fillA, here, plain, laid, evOp, avOf, avCell, strOf, evBin, evInt, evStr, evUn, evResults, evResultsL, AV.isUndef, AV.cells, Heap.store, wbool_off, after_scope, Nat.reduceMul, Nat.reducePow, Nat.reduceSub, Nat.reduceBEq, UInt8.reduceToNat, Nat.reduceEqDiff, Nat.reduceLT, reduceCtorEq, Nat.reduceAdd, Nat.reduceLeDiff, b0, b1, e1, e8, hel, k27, i2, b2', pd, hpx, hbk, hwg, hel', oix, orow, ole, hc, hws]
          generalize hQ : H3.set ob (.row oty 2 (p.upds.set i [.str e.ky, .bool true]) og og) = Q at *
          simp (maxSteps := 1000000) only [sx, fx, icI, icS, icB, icN, icL, implies_true, evBuildSlice, fillE, fillA, here, plain, laid, evOp, avOf, avCell, strOf, evBin, evInt, evStr, evUn, evResults, evResultsL, AV.isUndef, AV.cells, Heap.store, wbool_off, after_scope, Nat.reduceMul, Nat.reducePow, Nat.reduceSub, Nat.reduceBEq, UInt8.reduceToNat, Nat.reduceEqDiff, Nat.reduceLT, reduceCtorEq, Nat.reduceAdd, Nat.reduceLeDiff, r0, r2, hpl, set_02, hoc, hset, wl, wc, wt, hs33]
          exact hK _ _ (PRes.ok (hpr _ _) (post _)) (fin _ _).1 (fin _ _).2.1
  · have i1 : ((-1 : Int) ≥ 0) = False := by simp
    have g0 := hU2 _ _ hb0
    have g1 := hU2 _ _ hb1
    have g2 := hU2 _ _ hb2
    have hUG := hU1.trans hU2
    have g2' := g2
    unfold z33 at g2'
    have f0 : ∀ xs, (HP H2 xs).blk H.next = some (.row 33 24 [p.cells] 0 0) := fun xs => hF2.hpU xs _ _ g0
    simp (maxSteps := 1000000) only [sx, fx, icI, icS, icB, icN, icL, implies_true, evBuildSlice, fillE, fillA, here, plain, laid, evOp, avOf, avCell, strOf, evBin, evInt, evStr, evUn, evResults, evResultsL, AV.isUndef, AV.cells, Heap.store, wbool_off, after_scope, Nat.reduceMul, Nat.reducePow, Nat.reduceSub, Nat.reduceBEq, UInt8.reduceToNat, Nat.reduceEqDiff, Nat.reduceLT, reduceCtorEq, Nat.reduceAdd, Nat.reduceLeDiff, hF2.at, hF2.hp, f0, pd]
    refine opStep_append app31 (own_hp (G := H2) (k := 0) (n := 0) (L := []) hF2 (Up.refl _) rfl rfl (by simp)) (hF2.hpF _) (hF2.hpU _) (hp.hu.up (hUG.trans (hF2.hpU _))) (UpdL.cells hp.cu) (by simp only [maxBytes, List.length_cons, List.length_nil, List.nil_append, List.length_append]; omega) (by simp only [maxBytes, List.length_cons, List.length_nil, List.nil_append, List.length_append]; omega) (fun u H3 oO oU oF => ?_)
    simp only [List.nil_append] at oO
    have b0 := oU _ _ g0
    have b1 := oU _ _ g1
    have b2 := oU _ _ g2
    have b2' := b2
    unfold z33 at b2'
    have j1 : ((-1 : Int) ≥ 0) = False := by simp
    have j2 : ((-1 : Int) < 0) = True := by simp
    cases k27 : (e.k == 27) with
    | true =>
      simp (maxSteps := 1000000) only [sx, fx, icI, icS, icB, icN, icL, implies_true, evBuildSlice, fillE, fillA, here, plain, laid, evOp, avOf, avCell, strOf, evBin, evInt, evStr, evUn, evResults, evResultsL, AV.isUndef, AV.cells, Heap.store, wbool_off, after_scope, Nat.reduceMul, Nat.reducePow, Nat.reduceSub, Nat.reduceBEq, UInt8.reduceToNat, Nat.reduceEqDiff, Nat.reduceLT, reduceCtorEq, Nat.reduceAdd, Nat.reduceLeDiff, b0, b1, e1, e8, hel, k27, j1, oF.at, oF.hp]
      refine opStep_append app31 (oO.up (oF.hpU _)) (oF.hpF _) (oU.trans (oF.hpU _)) (holds_hp (k := 0) (L := [[.str e.ky, .bool false]]) rfl rfl (Nat.le_refl _) (by simp)) (fun cs hcs => by rw [List.mem_singleton] at hcs; rw [hcs]; rfl) (by simp only [maxBytes, List.length_cons, List.length_nil, List.nil_append, List.length_append]; omega) (by simp only [maxBytes, List.length_cons, List.length_nil, List.nil_append, List.length_append]; omega) (fun out H4 qO qU qF => ?_)
      have r0 := qU _ _ g0
      have r2 := qU _ _ g2
      unfold z33 at r2
      have hoc := holds_cell qO.holds
      have fin := fun x y => two_set qO qU hUG hF qF (a := H.next) (b := H.next + 2) (by rw [g0]; simp) (by rw [g2]; simp) (Nat.le_refl _) (by omega) x y
      have hset := hp.su out (p.upds ++ [[.str e.ky, .bool false]])
      have hLs : ∀ c ∈ (p.upds ++ [[.str e.ky, .bool false]]), UpdR c := fun c hc => by
        rcases List.mem_append.1 hc with hc | hc
        · exact hp.cu c hc
        · simp at hc; subst hc; exact ⟨_, _, rfl⟩
      have hpr := fun x y => hpB.wu (M := N + 1) (sub_up hB (fin x y).1) (sub_own (fin x y).2.2.2) (by simp; omega) (by omega) hLs
      have wl := (hpr (.row 33 24 [] 0 0) (.row 33 24 [] 0 0)).len
      have wc := (hpr (.row 33 24 [] 0 0) (.row 33 24 [] 0 0)).cells
      have wt : (p.wu out (p.upds ++ [[.str e.ky, .bool false]])).cells.take 24 = (p.wu out (p.upds ++ [[.str e.ky, .bool false]])).cells := List.take_of_length_le (by omega)
      have hs33 : splice z33 0 (p.wu out (p.upds ++ [[.str e.ky, .bool false]])).cells = (p.wu out (p.upds ++ [[.str e.ky, .bool false]])).cells := by simp [splice, z33, wl]
      unfold z33 at hs33
      rcases own_shape qO with rfl | rfl | ⟨sb, so, sl, sc, sx', sg, rfl⟩
      all_goals
        simp (maxSteps := 1000000) only [sx, fx, icI, icS, icB, icN, icL, implies_true, evBuildSlice, fillE, fillA, here, plain, laid, evOp, avOf, avCell, strOf, evBin, evInt, evStr, evUn, evResults, evResultsL, AV.isUndef, AV.cells, Heap.store, wbool_off, after_scope, Nat.reduceMul, Nat.reducePow, Nat.reduceSub, Nat.reduceBEq, UInt8.reduceToNat, Nat.reduceEqDiff, Nat.reduceLT, reduceCtorEq, Nat.reduceAdd, Nat.reduceLeDiff, r0, r2, hpl, set_02, hoc, hset, wl, wc, wt, hs33]
        exact hK _ _ (PRes.ok (hpr _ _) (post _)) (fin _ _).1 (fin _ _).2.1
    | false =>
      simp (maxSteps := 1000000) only [sx, fx, icI, icS, icB, icN, icL, implies_true, evBuildSlice, fillE, fillA, here, plain, laid, evOp, avOf, avCell, strOf, evBin, evInt, evStr, evUn, evResults, evResultsL, AV.isUndef, AV.cells, Heap.store, wbool_off, after_scope, Nat.reduceMul, Nat.reducePow, Nat.reduceSub, Nat.reduceBEq, UInt8.reduceToNat, Nat.reduceEqDiff, Nat.reduceLT, reduceCtorEq, Nat.reduceAdd, Nat.reduceLeDiff, b0, b1, e1, hel, k27, j2, b2']
      exact hK _ _ (PRes.err (by decide)) ((hUG.trans oU).set (hF _ (by omega)) _) (oF.set (oF.lt b2) _)
end Go.Proofs.T
