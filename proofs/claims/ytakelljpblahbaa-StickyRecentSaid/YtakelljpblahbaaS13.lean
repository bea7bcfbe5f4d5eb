import Derived.Test.YtakelljpblahbaaS12
set_option linter.unusedVariables false
set_option linter.unusedSimpArgs false
set_option maxRecDepth 100000
namespace Go.Proofs.T
open Go.Ev

theorem f27_ok {a b : AV} {K : List (List Nat)} (H : Heap) (ha : Holds H 1 a (K.map kcell)) (hb : Holds H 1 b (K.map kcell)) (hn : K.length ≤ 100000) (Q : AV → Heap → Prop) (hQ : Q (.bool true) H) : WF Try.prog 27 [a, b] H Q := by
  refine WF_body Try.func27 (by kernel_rfl) rfl Try.ntmps27 (by rw [Try.results27]) (of_decide_eq_true (by kernel_rfl)) ?_
  have hla := ha.lenAt und51
  have hlb := hb.lenAt und51
  rw [List.length_map] at hla hlb
  simp (maxSteps := 1000000) only [sx, fx, implies_true, evBuildSlice, fillE, fillA, Nat.reduceMul, Nat.reducePow, AV.isCell, Nat.reduceSub, here, plain, laid, Nat.reduceBEq, evOp, avOf, avCell, strOf, UInt8.reduceToNat, evBin, evInt, evStr, evUn, Nat.reduceEqDiff, Nat.reduceLT, evResults, evResultsL, reduceCtorEq, AV.isUndef, AV.cells, Nat.reduceAdd, Heap.store, Nat.reduceLeDiff, hla, hlb, bne_self_eq_false]
  refine loopStep' (fun env H' => H' = H ∧ ∃ (i : Nat), i ≤ K.length ∧ env.at (.tmp 13) = .int .i64 i ∧ env.at (.tmp 12) = .int .i64 K.length ∧ env.at (.tmp 0) = a ∧ env.at (.tmp 1) = b)
    (fun env H' => match env.at (.tmp 13) with | .int _ i => ((K.length : Int) - i).toNat | _ => 0) ?_ ?_
  · refine ⟨rfl, 0, Nat.zero_le _, ?_, ?_, ?_, ?_⟩
    · simp only [sx, fx, implies_true, evBuildSlice, fillE, fillA, splice, Nat.reduceMul, Nat.reducePow, AV.isCell, Nat.reduceSub, here, plain, laid, Nat.reduceBEq, evOp, avOf, avCell, strOf, UInt8.reduceToNat, evBin, evInt, evStr, evUn, Nat.reduceEqDiff, Nat.reduceLT, evResults, evResultsL, reduceCtorEq, AV.isUndef, AV.cells, Nat.reduceAdd, Heap.store, Nat.reduceLeDiff]; rfl
    · simp only [sx, fx, implies_true, evBuildSlice, fillE, fillA, splice, Nat.reduceMul, Nat.reducePow, AV.isCell, Nat.reduceSub, here, plain, laid, Nat.reduceBEq, evOp, avOf, avCell, strOf, UInt8.reduceToNat, evBin, evInt, evStr, evUn, Nat.reduceEqDiff, Nat.reduceLT, evResults, evResultsL, reduceCtorEq, AV.isUndef, AV.cells, Nat.reduceAdd, Heap.store, Nat.reduceLeDiff]
    · simp only [sx, fx, implies_true, evBuildSlice, fillE, fillA, splice, Nat.reduceMul, Nat.reducePow, AV.isCell, Nat.reduceSub, here, plain, laid, Nat.reduceBEq, evOp, avOf, avCell, strOf, UInt8.reduceToNat, evBin, evInt, evStr, evUn, Nat.reduceEqDiff, Nat.reduceLT, evResults, evResultsL, reduceCtorEq, AV.isUndef, AV.cells, Nat.reduceAdd, Heap.store, Nat.reduceLeDiff]
    · simp only [sx, fx, implies_true, evBuildSlice, fillE, fillA, splice, Nat.reduceMul, Nat.reducePow, AV.isCell, Nat.reduceSub, here, plain, laid, Nat.reduceBEq, evOp, avOf, avCell, strOf, UInt8.reduceToNat, evBin, evInt, evStr, evUn, Nat.reduceEqDiff, Nat.reduceLT, evResults, evResultsL, reduceCtorEq, AV.isUndef, AV.cells, Nat.reduceAdd, Heap.store, Nat.reduceLeDiff]
  · rintro env H' ⟨rfl, i, hi, e13, e12, e0, e1⟩
    by_cases hlt : i < K.length
    · obtain ⟨k, hk⟩ : ∃ k, K[i]? = some k := ⟨_, List.getElem?_eq_getElem hlt⟩
      have hk' : (K.map kcell)[i]? = some [.str k] := by simp [hk, kcell]
      obtain ⟨p, hp, hload, _⟩ := ha.index und51 sz9 .i64 hk'
      obtain ⟨q, hq, hload', _⟩ := hb.index und51 sz9 .i64 hk'
      simp (maxSteps := 1000000) only [sx, fx, implies_true, evBuildSlice, fillE, fillA, Nat.reduceMul, Nat.reducePow, AV.isCell, Nat.reduceSub, here, plain, laid, Nat.reduceBEq, evOp, avOf, avCell, strOf, UInt8.reduceToNat, evBin, evInt, evStr, evUn, Nat.reduceEqDiff, Nat.reduceLT, evResults, evResultsL, reduceCtorEq, AV.isUndef, AV.cells, Nat.reduceAdd, Heap.store, Nat.reduceLeDiff, e13, e12, e0, e1, lt_true hlt]
      refine drawStep [] [0, 1, 2, 3, 4, 5, 6, 7, 8] _ rfl (by kernel_rfl) ?_
      simp (maxSteps := 1000000) only [sx, fx, implies_true, evBuildSlice, fillE, fillA, Nat.reduceMul, Nat.reducePow, AV.isCell, Nat.reduceSub, here, plain, laid, Nat.reduceBEq, evOp, avOf, avCell, strOf, UInt8.reduceToNat, evBin, evInt, evStr, evUn, Nat.reduceEqDiff, Nat.reduceLT, evResults, evResultsL, reduceCtorEq, AV.isUndef, AV.cells, Nat.reduceAdd, Heap.store, Nat.reduceLeDiff, e13, e12, e0, e1, hp, hq, hload _ (Up.refl _), hload' _ (Up.refl _), BEq.rfl, bne_self_eq_false, wrap_succ (i := i) (by omega)]
      refine ⟨⟨i + 1, hlt, rfl⟩, ?_⟩
      omega
    · obtain rfl : i = K.length := by omega
      simp (maxSteps := 1000000) only [sx, fx, implies_true, evBuildSlice, fillE, fillA, Nat.reduceMul, Nat.reducePow, AV.isCell, Nat.reduceSub, here, plain, laid, Nat.reduceBEq, evOp, avOf, avCell, strOf, UInt8.reduceToNat, evBin, evInt, evStr, evUn, Nat.reduceEqDiff, Nat.reduceLT, evResults, evResultsL, reduceCtorEq, AV.isUndef, AV.cells, Nat.reduceAdd, Heap.store, Nat.reduceLeDiff, e13, e12, e0, e1, lt_false hlt]
      exact hQ

theorem FC.post {H H1 H2 : Heap} {F : Nat → Prop} {cx : Nat} {sz h m : Int} {L : Stored} (hU : Up H H1) (hf : ∀ b, F b → H.blk b = none) (hP : CPost H1 F cx sz h m L H2) :
    ∃ F', Cache H2 F' cx sz h m L ∧ (∀ b, F' b → H.blk b = none) ∧ Up H H2 ∧ Free H2 ∧ (∀ b x, H1.blk b = some x → ¬ F b → H2.blk b = some x ∧ ¬ F' b) := by
  obtain ⟨F', p0, p1, p2, p3⟩ := hP
  refine ⟨F', p0, fun b hb => ?_, fun b x hx => p2 b x (fun e => by rw [hf b e] at hx; cases hx) (hU b x hx), p3, fun b x hx hn => ⟨p2 b x hn hx, fun e => ?_⟩⟩
  · rcases p1 b hb with q | q
    · exact hf b q
    · cases hz : H.blk b with
      | none => rfl
      | some y => rw [hU b y hz] at q; cases q
  · rcases p1 b e with q | q
    · exact hn q
    · rw [hx] at q; cases q

theorem CPostX.toPost {X : Nat → Prop} {H : Heap} {F : Nat → Prop} {cx : Nat} {sz h m : Int} {L : Stored} {H' : Heap} (hP : CPostX X H F cx sz h m L H') : CPost H F cx sz h m L H' := by
  obtain ⟨F', p0, p1, p2, p3, _⟩ := hP
  exact ⟨F', p0, p1, p2, p3⟩

theorem FC.postX {X : Nat → Prop} {H H1 H2 : Heap} {F : Nat → Prop} {cx : Nat} {sz h m : Int} {L : Stored} (hU : Up H H1) (hf : ∀ b, F b → H.blk b = none) (hP : CPostX X H1 F cx sz h m L H2) :
    ∃ F', Cache H2 F' cx sz h m L ∧ (∀ b, F' b → H.blk b = none) ∧ Up H H2 ∧ Free H2 ∧ (∀ b x, H1.blk b = some x → ¬ F b → H2.blk b = some x ∧ ¬ F' b) ∧ ∀ b, X b → ¬ F' b := by
  obtain ⟨F', p0, p1, p2, p3, p4⟩ := hP
  refine ⟨F', p0, fun b hb => ?_, fun b x hx => p2 b x (fun e => by rw [hf b e] at hx; cases hx) (hU b x hx), p3, fun b x hx hn => ⟨p2 b x hn hx, fun e => ?_⟩, p4⟩
  · rcases p1 b hb with q | q
    · exact hf b q
    · cases hz : H.blk b with
      | none => rfl
      | some y => rw [hU b y hz] at q; cases q
  · rcases p1 b e with q | q
    · exact hn q
    · rw [hx] at q; cases q

theorem Holds.keep {H H' : Heap} {F F' : Nat → Prop} {esz : Nat} {v : AV} {L : List (List AV)} (h : Holds H esz v L) (hk : ∀ b x, H.blk b = some x → ¬ F b → H'.blk b = some x ∧ ¬ F' b) (hn : ∀ b, blkOf v = some b → ¬ F b) :
    Holds H' esz v L ∧ ((∀ b, blkOf v = some b → H.blk b ≠ none) → ∀ b, blkOf v = some b → ¬ F' b) := by
  refine ⟨h.off (B := F) (fun b x hb hx => (hk b x hx hb).1) hn, fun hl b hb => ?_⟩
  cases hx : H.blk b with
  | none => exact absurd hx (hl b hb)
  | some x => exact (hk b x hx (hn b hb)).2

theorem own_live {G H : Heap} {ty esz : Nat} {v : AV} {L : List (List AV)} (h : Own G H ty esz v L) : ∀ b, blkOf v = some b → H.blk b ≠ none ∧ G.blk b = none := by
  intro b hb
  obtain ⟨_, ⟨_, q | q⟩ | ⟨b', g', w', q, q2, q3, q4⟩ | ⟨b', g', t', gen, w', q, q2, q3, q4⟩⟩ := h
  · rw [q] at hb; cases hb
  · rw [q] at hb; cases hb
  · rw [q] at hb; cases hb; exact ⟨by rw [q2]; simp, q4⟩
  · rw [q] at hb; cases hb; exact ⟨by rw [q2]; simp, q4⟩

theorem f16_ok (H : Heap) (hFr : Free H) (Q : AV → Heap → Prop) (hQ : ∀ H', Up H H' → Free H' → Q (.bool true) H') : WF Try.prog 16 [] H Q := by
  refine WF_body Try.func16 (by kernel_rfl) rfl Try.ntmps16 (by rw [Try.results16]) (of_decide_eq_true (by kernel_rfl)) ?_
  simp (maxSteps := 1000000) only [sx, fx, implies_true, evBuildSlice, fillE, fillA, Nat.reduceMul, Nat.reducePow, AV.isCell, Nat.reduceSub, here, plain, laid, Nat.reduceBEq, evOp, avOf, avCell, strOf, UInt8.reduceToNat, evBin, evInt, evStr, evUn, Nat.reduceEqDiff, Nat.reduceLT, evResults, evResultsL, reduceCtorEq, AV.isUndef, AV.cells, Nat.reduceAdd, Heap.store, Nat.reduceLeDiff]
  refine callStep (f7_ok (n := 2) (by omega) _ hFr _ fun cx F1 H1 hC1 hf1 hU1 hF1 => ?_)
  simp (maxSteps := 1000000) only [sx, fx, implies_true, evBuildSlice, fillE, fillA, Nat.reduceMul, Nat.reducePow, AV.isCell, Nat.reduceSub, here, plain, laid, Nat.reduceBEq, evOp, avOf, avCell, strOf, UInt8.reduceToNat, evBin, evInt, evStr, evUn, Nat.reduceEqDiff, Nat.reduceLT, evResults, evResultsL, reduceCtorEq, AV.isUndef, AV.cells, Nat.reduceAdd, Heap.store, Nat.reduceLeDiff, eqOk, eqp22_p, bne_self_eq_false]
  refine callStep (f9_ok 1 _ hF1 _ fun g1 H2 hU2 hF2 hO2 => ?_)
  simp (maxSteps := 1000000) only [sx, fx, implies_true, evBuildSlice, fillE, fillA, Nat.reduceMul, Nat.reducePow, AV.isCell, Nat.reduceSub, here, plain, laid, Nat.reduceBEq, evOp, avOf, avCell, strOf, UInt8.reduceToNat, evBin, evInt, evStr, evUn, Nat.reduceEqDiff, Nat.reduceLT, evResults, evResultsL, reduceCtorEq, AV.isUndef, AV.cells, Nat.reduceAdd, Heap.store, Nat.reduceLeDiff]
  have hUU2 := hU1.trans hU2
  refine callStep (f8_ok [97] 1 (by simp) hF2 (hC1.up hU2) (by simp) hO2.holds _ fun H3 hP3 => ?_)
  obtain ⟨F3, hC3, hf3, hU3, hF3, _⟩ := FC.post hUU2 hf1 hP3
  rw [show putL 2 [97] 1 [] = [([97], 1)] from rfl] at hC3
  simp (maxSteps := 1000000) only [sx, fx, implies_true, evBuildSlice, fillE, fillA, Nat.reduceMul, Nat.reducePow, AV.isCell, Nat.reduceSub, here, plain, laid, Nat.reduceBEq, evOp, avOf, avCell, strOf, UInt8.reduceToNat, evBin, evInt, evStr, evUn, Nat.reduceEqDiff, Nat.reduceLT, evResults, evResultsL, reduceCtorEq, AV.isUndef, AV.cells, Nat.reduceAdd, Heap.store, Nat.reduceLeDiff]
  refine callStep (f9_ok 2 _ hF3 _ fun g2 H4 hU4 hF4 hO4 => ?_)
  simp (maxSteps := 1000000) only [sx, fx, implies_true, evBuildSlice, fillE, fillA, Nat.reduceMul, Nat.reducePow, AV.isCell, Nat.reduceSub, here, plain, laid, Nat.reduceBEq, evOp, avOf, avCell, strOf, UInt8.reduceToNat, evBin, evInt, evStr, evUn, Nat.reduceEqDiff, Nat.reduceLT, evResults, evResultsL, reduceCtorEq, AV.isUndef, AV.cells, Nat.reduceAdd, Heap.store, Nat.reduceLeDiff]
  refine callStep (f8_ok [98] 2 (by simp) hF4 (hC3.up hU4) (by simp) hO4.holds _ fun H5 hP5 => ?_)
  obtain ⟨F5, hC5, hf5, hU5, hF5, _⟩ := FC.post (hU3.trans hU4) hf3 hP5
  rw [show putL 2 [98] 2 [([97], 1)] = [([97], 1), ([98], 2)] from rfl] at hC5
  simp (maxSteps := 1000000) only [sx, fx, implies_true, evBuildSlice, fillE, fillA, Nat.reduceMul, Nat.reducePow, AV.isCell, Nat.reduceSub, here, plain, laid, Nat.reduceBEq, evOp, avOf, avCell, strOf, UInt8.reduceToNat, evBin, evInt, evStr, evUn, Nat.reduceEqDiff, Nat.reduceLT, evResults, evResultsL, reduceCtorEq, AV.isUndef, AV.cells, Nat.reduceAdd, Heap.store, Nat.reduceLeDiff]
  refine callStep (f17_ok [97] hF5 hC5 (by simp) _ (fun hl => by simp [lk] at hl) (fun n hl u H6 hP6 hO6 => ?_))
  obtain rfl : n = 1 := by simp [lk] at hl; exact hl.symm
  obtain ⟨F6, hC6, hf6, hU6, hF6, _, hX6⟩ := FC.postX hU5 hf5 hP6
  rw [show without [97] [([97], 1), ([98], 2)] ++ [([97], (1 : Int))] = [([98], 2), ([97], 1)] from rfl] at hC6
  have hln : (ptN u 1).length = 17 := rfl
  have htk : (ptN u 1).take 17 = ptN u 1 := rfl
  have hcl : (ptN u 1).all AV.isCell = true := pt_cells (own_isCell hO6)
  simp (maxSteps := 1000000) only [sx, fx, implies_true, evBuildSlice, fillE, fillA, Nat.reduceMul, Nat.reducePow, AV.isCell, Nat.reduceSub, here, plain, laid, Nat.reduceBEq, evOp, avOf, avCell, strOf, UInt8.reduceToNat, evBin, evInt, evStr, evUn, Nat.reduceEqDiff, Nat.reduceLT, evResults, evResultsL, reduceCtorEq, AV.isUndef, AV.cells, Nat.reduceAdd, Heap.store, Nat.reduceLeDiff, hF6.at, hF6.hp, hln, htk, hcl]
  have hF7 := hF6.hpF [Blk.row 37 17 [ptN u 1] 0 0]
  have hC7 := hC6.up (hF6.hpU [Blk.row 37 17 [ptN u 1] 0 0])
  have hU7 := hU6.trans (hF6.hpU [Blk.row 37 17 [ptN u 1] 0 0])
  have hH7 := hO6.holds.up (hF6.hpU [Blk.row 37 17 [ptN u 1] 0 0])
  have hlive : ∀ b, blkOf u = some b → (HP H6 [Blk.row 37 17 [ptN u 1] 0 0]).blk b ≠ none := fun b hb => (own_live (hO6.up (hF6.hpU [Blk.row 37 17 [ptN u 1] 0 0])) b hb).1
  have pr7 : (HP H6 [Blk.row 37 17 [ptN u 1] 0 0]).blk H6.next = some (.row 37 17 [ptN u 1] 0 0) := by rw [hp_blk0]; rfl
  have hn7 : ¬ F6 H6.next := fun e => hC6.dom _ e hF6.at
  generalize hG7 : HP H6 [Blk.row 37 17 [ptN u 1] 0 0] = H7 at *
  refine callStep (f9_ok 3 _ hF7 _ fun g3 H8 hU8 hF8 hO8 => ?_)
  simp (maxSteps := 1000000) only [sx, fx, implies_true, evBuildSlice, fillE, fillA, Nat.reduceMul, Nat.reducePow, AV.isCell, Nat.reduceSub, here, plain, laid, Nat.reduceBEq, evOp, avOf, avCell, strOf, UInt8.reduceToNat, evBin, evInt, evStr, evUn, Nat.reduceEqDiff, Nat.reduceLT, evResults, evResultsL, reduceCtorEq, AV.isUndef, AV.cells, Nat.reduceAdd, Heap.store, Nat.reduceLeDiff]
  refine callStep (f8_ok [99] 3 (by simp) hF8 (hC7.up hU8) (by simp) hO8.holds _ fun H9 hP9 => ?_)
  obtain ⟨F9, hC9, hf9, hU9, hF9, keep9⟩ := FC.post (hU7.trans hU8) hf6 hP9
  rw [show putL 2 [99] 3 [([98], 2), ([97], 1)] = [([97], 1), ([99], 3)] from rfl] at hC9
  have hl8 : ∀ b, blkOf u = some b → H8.blk b ≠ none := fun b hb => by
    cases hz : H7.blk b with
    | none => exact absurd hz (hlive b hb)
    | some y => rw [hU8 _ _ hz]; simp
  obtain ⟨hH9, hX9⟩ := Holds.keep (hH7.up hU8) keep9 hX6
  have hX9 := hX9 hl8
  obtain ⟨pr9, hn9⟩ := keep9 _ _ (hU8 _ _ pr7) hn7
  simp (maxSteps := 1000000) only [sx, fx, implies_true, evBuildSlice, fillE, fillA, Nat.reduceMul, Nat.reducePow, AV.isCell, Nat.reduceSub, here, plain, laid, Nat.reduceBEq, evOp, avOf, avCell, strOf, UInt8.reduceToNat, evBin, evInt, evStr, evUn, Nat.reduceEqDiff, Nat.reduceLT, evResults, evResultsL, reduceCtorEq, AV.isUndef, AV.cells, Nat.reduceAdd, Heap.store, Nat.reduceLeDiff]
  refine callStep (f17_ok [98] hF9 hC9 (by simp) _ (fun _ u2 H10 hP10 hO10 => ?_) (fun n hl => by simp [lk] at hl))
  obtain ⟨F10, hC10, hf10, hU10, hF10, keep10⟩ := FC.post hU9 hf9 hP10
  obtain ⟨hH10, _⟩ := Holds.keep hH9 keep10 hX9
  obtain ⟨pr10, hn10⟩ := keep10 _ _ pr9 hn9
  have hln2 : (pt u2 0 0 0 false).length = 17 := rfl
  have htk2 : (pt u2 0 0 0 false).take 17 = pt u2 0 0 0 false := rfl
  have hcl2 : (pt u2 0 0 0 false).all AV.isCell = true := pt_cells (own_isCell hO10)
  simp (maxSteps := 1000000) only [sx, fx, implies_true, evBuildSlice, fillE, fillA, Nat.reduceMul, Nat.reducePow, AV.isCell, Nat.reduceSub, here, plain, laid, Nat.reduceBEq, evOp, avOf, avCell, strOf, UInt8.reduceToNat, evBin, evInt, evStr, evUn, Nat.reduceEqDiff, Nat.reduceLT, evResults, evResultsL, reduceCtorEq, AV.isUndef, AV.cells, Nat.reduceAdd, Heap.store, Nat.reduceLeDiff, hF10.at, hF10.hp, hln2, htk2, hcl2]
  have hF11 := hF10.hpF [Blk.row 37 17 [pt u2 0 0 0 false] 0 0]
  have hC11 := hC10.up (hF10.hpU [Blk.row 37 17 [pt u2 0 0 0 false] 0 0])
  have hU11 := hU10.trans (hF10.hpU [Blk.row 37 17 [pt u2 0 0 0 false] 0 0])
  have hH11 := hH10.up (hF10.hpU [Blk.row 37 17 [pt u2 0 0 0 false] 0 0])
  have pr11 := hF10.hpU [Blk.row 37 17 [pt u2 0 0 0 false] 0 0] _ _ pr10
  generalize hG11 : HP H10 [Blk.row 37 17 [pt u2 0 0 0 false] 0 0] = H11 at *
  refine callStep (f7_bad (n := 0) (by omega) _ _ ?_)
  simp (maxSteps := 1000000) only [sx, fx, implies_true, evBuildSlice, fillE, fillA, Nat.reduceMul, Nat.reducePow, AV.isCell, Nat.reduceSub, here, plain, laid, Nat.reduceBEq, evOp, avOf, avCell, strOf, UInt8.reduceToNat, evBin, evInt, evStr, evUn, Nat.reduceEqDiff, Nat.reduceLT, evResults, evResultsL, reduceCtorEq, AV.isUndef, AV.cells, Nat.reduceAdd, Heap.store, Nat.reduceLeDiff]
  refine drawStep [3, 4] [0, 1, 2, 3, 4, 5, 6, 7, 8, 9, 10, 11, 12, 13, 14, 15, 16, 17, 18, 19, 20, 21, 22, 23, 24, 25, 26, 27, 28, 29, 30, 31] _ rfl (by kernel_rfl) ?_
  simp (maxSteps := 1000000) only [sx, fx, implies_true, evBuildSlice, fillE, fillA, Nat.reduceMul, Nat.reducePow, AV.isCell, Nat.reduceSub, here, plain, laid, Nat.reduceBEq, evOp, avOf, avCell, strOf, UInt8.reduceToNat, evBin, evInt, evStr, evUn, Nat.reduceEqDiff, Nat.reduceLT, evResults, evResultsL, reduceCtorEq, AV.isUndef, AV.cells, Nat.reduceAdd, Heap.store, Nat.reduceLeDiff, pr11, hln, htk]
  refine callStep_flag (f9_ok 1 _ hF11 _ fun g4 H12 hU12 hF12 hO12 => ⟨hU12, ?_⟩)
  simp (maxSteps := 1000000) only [sx, fx, implies_true, evBuildSlice, fillE, fillA, Nat.reduceMul, Nat.reducePow, AV.isCell, Nat.reduceSub, here, plain, laid, Nat.reduceBEq, evOp, avOf, avCell, strOf, UInt8.reduceToNat, evBin, evInt, evStr, evUn, Nat.reduceEqDiff, Nat.reduceLT, evResults, evResultsL, reduceCtorEq, AV.isUndef, AV.cells, Nat.reduceAdd, Heap.store, Nat.reduceLeDiff]
  refine callStep_flag (f13_ok g4 (holds_shape hO12.holds) 1 (IntKind.i64.wrap ((1 : Int).tdiv 2)) 1 ((1 : Int).tmod 2 == 1) _ hF12 _ fun H13 hU13 hF13 => ⟨hU13, ?_⟩)
  simp (maxSteps := 1000000) only [sx, fx, implies_true, evBuildSlice, fillE, fillA, Nat.reduceMul, Nat.reducePow, AV.isCell, Nat.reduceSub, here, plain, laid, Nat.reduceBEq, evOp, avOf, avCell, strOf, UInt8.reduceToNat, evBin, evInt, evStr, evUn, Nat.reduceEqDiff, Nat.reduceLT, evResults, evResultsL, reduceCtorEq, AV.isUndef, AV.cells, Nat.reduceAdd, Heap.store, Nat.reduceLeDiff]
  refine callStep (f12_ok (L := [vi 2 1]) 1 (IntKind.i64.wrap ((1 : Int).tdiv 2)) 1 ((1 : Int).tmod 2 == 1) _ hF13 (hH11.up (hU12.trans hU13)) (hO12.holds.up hU13) (ViL.one 1) (by simp) _ fun H14 hU14 hF14 => ?_)
  have hU11' := (hU12.trans hU13).trans hU14
  simp (maxSteps := 1000000) only [sx, fx, implies_true, evBuildSlice, fillE, fillA, Nat.reduceMul, Nat.reducePow, AV.isCell, Nat.reduceSub, here, plain, laid, Nat.reduceBEq, evOp, avOf, avCell, strOf, UInt8.reduceToNat, evBin, evInt, evStr, evUn, Nat.reduceEqDiff, Nat.reduceLT, evResults, evResultsL, reduceCtorEq, AV.isUndef, AV.cells, Nat.reduceAdd, Heap.store, Nat.reduceLeDiff]
  refine callStep (f19_ok hF14 (hC11.up hU11') _ fun ks H15 hU15 hF15 hO15 => ?_)
  simp (maxSteps := 1000000) only [sx, fx, implies_true, evBuildSlice, fillE, fillA, Nat.reduceMul, Nat.reducePow, AV.isCell, Nat.reduceSub, here, plain, laid, Nat.reduceBEq, evOp, avOf, avCell, strOf, UInt8.reduceToNat, evBin, evInt, evStr, evUn, Nat.reduceEqDiff, Nat.reduceLT, evResults, evResultsL, reduceCtorEq, AV.isUndef, AV.cells, Nat.reduceAdd, Heap.store, Nat.reduceLeDiff, hF15.at, hF15.hp]
  refine callStep (f27_ok (K := [[97], [99]]) _ (hO15.holds.up (hF15.hpU _)) (holds_hp (k := 0) rfl rfl (Nat.le_refl _) (by simp [kcell])) (by simp) _ ?_)
  have hC15 := (hC11.up hU11').up (hU15.trans (hF15.hpU [Blk.row 9 1 [[.str [97]], [.str [99]]] 0 0]))
  simp (maxSteps := 1000000) only [sx, fx, implies_true, evBuildSlice, fillE, fillA, Nat.reduceMul, Nat.reducePow, AV.isCell, Nat.reduceSub, here, plain, laid, Nat.reduceBEq, evOp, avOf, avCell, strOf, UInt8.reduceToNat, evBin, evInt, evStr, evUn, Nat.reduceEqDiff, Nat.reduceLT, evResults, evResultsL, reduceCtorEq, AV.isUndef, AV.cells, Nat.reduceAdd, Heap.store, Nat.reduceLeDiff]
  refine callStep (f14_ok hC15 _ ?_)
  have w1 : (IntKind.i64.wrap (0 + 1) == 1) = true := by decide
  simp (maxSteps := 1000000) only [sx, fx, implies_true, evBuildSlice, fillE, fillA, Nat.reduceMul, Nat.reducePow, AV.isCell, Nat.reduceSub, here, plain, laid, Nat.reduceBEq, evOp, avOf, avCell, strOf, UInt8.reduceToNat, evBin, evInt, evStr, evUn, Nat.reduceEqDiff, Nat.reduceLT, evResults, evResultsL, reduceCtorEq, AV.isUndef, AV.cells, Nat.reduceAdd, Heap.store, Nat.reduceLeDiff, w1]
  refine callStep (f15_ok hC15 _ ?_)
  simp (maxSteps := 1000000) only [sx, fx, implies_true, evBuildSlice, fillE, fillA, Nat.reduceMul, Nat.reducePow, AV.isCell, Nat.reduceSub, here, plain, laid, Nat.reduceBEq, evOp, avOf, avCell, strOf, UInt8.reduceToNat, evBin, evInt, evStr, evUn, Nat.reduceEqDiff, Nat.reduceLT, evResults, evResultsL, reduceCtorEq, AV.isUndef, AV.cells, Nat.reduceAdd, Heap.store, Nat.reduceLeDiff, w1, BEq.rfl]
  exact hQ _ ((hU11.trans hU11').trans (hU15.trans (hF15.hpU _))) (hF15.hpF _)
end Go.Proofs.T
