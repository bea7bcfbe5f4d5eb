import Derived.Test.YtakelljpblahbaaS17
set_option linter.unusedVariables false
set_option linter.unusedSimpArgs false
set_option maxRecDepth 100000
namespace Go.Proofs.T
open Go.Ev

theorem own_one {G H : Heap} {ty esz : Nat} {v : AV} {x : List AV} (h : Own G H ty esz v [x]) : ∃ b g t gw ex, v = .slice b 0 1 1 ex g ∧ H.blk b = some (.row t esz [x] g gw) ∧ gw ≤ g ∧ G.blk b = none := by
  obtain ⟨_, ⟨q, _⟩ | ⟨b', g', w', q, q2, q3, q4⟩ | ⟨b', g', t', gen, w', q, q2, q3, q4⟩⟩ := h
  · cases q
  · exact ⟨b', g', _, w', _, q, q2, q3, q4⟩
  · obtain ⟨q3, rfl⟩ := q3
    exact ⟨b', gen, _, w', _, q, q2, q3, q4⟩

set_option maxHeartbeats 4000000 in
theorem f6_ok (key : List Nat) (n : Int) (H : Heap) (hFr : Free H) (Q : AV → Heap → Prop) (hQ : ∀ H', Q (.bool true) H') : WF Try.prog 6 [.str key, .int .i64 n] H Q := by
  refine WF_body Try.func6 (by kernel_rfl) rfl Try.ntmps6 (by rw [Try.results6]) (of_decide_eq_true (by kernel_rfl)) ?_
  by_cases hbig : (key.length : Int) > 100
  · simp (maxSteps := 1000000) only [sx, fx, implies_true, evBuildSlice, fillE, fillA, Nat.reduceMul, Nat.reducePow, AV.isCell, Nat.reduceSub, here, plain, laid, Nat.reduceBEq, evOp, avOf, avCell, strOf, UInt8.reduceToNat, evBin, evInt, evStr, evUn, Nat.reduceEqDiff, Nat.reduceLT, evResults, evResultsL, reduceCtorEq, AV.isUndef, AV.cells, Nat.reduceAdd, Heap.store, Nat.reduceLeDiff, ln9, hbig]
    refine callStep (f16_ok _ hFr _ fun H2 hU2 hF2 => ?_)
    simp (maxSteps := 1000000) only [sx, fx, implies_true, evBuildSlice, fillE, fillA, Nat.reduceMul, Nat.reducePow, AV.isCell, Nat.reduceSub, here, plain, laid, Nat.reduceBEq, evOp, avOf, avCell, strOf, UInt8.reduceToNat, evBin, evInt, evStr, evUn, Nat.reduceEqDiff, Nat.reduceLT, evResults, evResultsL, reduceCtorEq, AV.isUndef, AV.cells, Nat.reduceAdd, Heap.store, Nat.reduceLeDiff]
    exact hQ _
  by_cases hkey : key = []
  · subst hkey
    have z : (((0 : Nat) : Int) > 100) = False := by simp
    simp (maxSteps := 1000000) only [sx, fx, implies_true, evBuildSlice, fillE, fillA, Nat.reduceMul, Nat.reducePow, AV.isCell, Nat.reduceSub, here, plain, laid, Nat.reduceBEq, evOp, avOf, avCell, strOf, UInt8.reduceToNat, evBin, evInt, evStr, evUn, Nat.reduceEqDiff, Nat.reduceLT, evResults, evResultsL, reduceCtorEq, AV.isUndef, AV.cells, Nat.reduceAdd, Heap.store, Nat.reduceLeDiff, ln9, z, BEq.rfl]
    refine callStep (f16_ok _ hFr _ fun H2 hU2 hF2 => ?_)
    simp (maxSteps := 1000000) only [sx, fx, implies_true, evBuildSlice, fillE, fillA, Nat.reduceMul, Nat.reducePow, AV.isCell, Nat.reduceSub, here, plain, laid, Nat.reduceBEq, evOp, avOf, avCell, strOf, UInt8.reduceToNat, evBin, evInt, evStr, evUn, Nat.reduceEqDiff, Nat.reduceLT, evResults, evResultsL, reduceCtorEq, AV.isUndef, AV.cells, Nat.reduceAdd, Heap.store, Nat.reduceLeDiff]
    exact hQ _
  have hkb : (key == []) = false := by cases key with
    | nil => exact absurd rfl hkey
    | cons a l => rfl
  have h2 : ((2 : Int) = 0) = False := by simp
  simp (maxSteps := 1000000) only [sx, fx, implies_true, evBuildSlice, fillE, fillA, Nat.reduceMul, Nat.reducePow, AV.isCell, Nat.reduceSub, here, plain, laid, Nat.reduceBEq, evOp, avOf, avCell, strOf, UInt8.reduceToNat, evBin, evInt, evStr, evUn, Nat.reduceEqDiff, Nat.reduceLT, evResults, evResultsL, reduceCtorEq, AV.isUndef, AV.cells, Nat.reduceAdd, Heap.store, Nat.reduceLeDiff, ln9, hbig, hkb]
  refine callStep (f7_ok (n := 3) (by omega) _ hFr _ fun cx F1 H1 hC1 hf1 hU1 hF1 => ?_)
  simp (maxSteps := 1000000) only [sx, fx, implies_true, evBuildSlice, fillE, fillA, Nat.reduceMul, Nat.reducePow, AV.isCell, Nat.reduceSub, here, plain, laid, Nat.reduceBEq, evOp, avOf, avCell, strOf, UInt8.reduceToNat, evBin, evInt, evStr, evUn, Nat.reduceEqDiff, Nat.reduceLT, evResults, evResultsL, reduceCtorEq, AV.isUndef, AV.cells, Nat.reduceAdd, Heap.store, Nat.reduceLeDiff, eqOk, eqp22_p]
  refine callStep (f9_ok n _ hF1 _ fun g H2 hU2 hF2 hO2 => ?_)
  have hlnN : ∀ x, (ptN x n).length = 17 := fun _ => rfl
  have htkN : ∀ x, (ptN x n).take 17 = ptN x n := fun _ => rfl
  have hclg : (ptN g n).all AV.isCell = true := pt_cells (own_isCell hO2)
  have p7 : ∀ xs, (HP H2 (Blk.row 37 17 [ptN g n] 0 0 :: xs)).blk H2.next = some (.row 37 17 [ptN g n] 0 0) := fun xs => by rw [hp_blk0]; rfl
  simp (maxSteps := 1000000) only [sx, fx, implies_true, evBuildSlice, fillE, fillA, Nat.reduceMul, Nat.reducePow, AV.isCell, Nat.reduceSub, here, plain, laid, Nat.reduceBEq, evOp, avOf, avCell, strOf, UInt8.reduceToNat, evBin, evInt, evStr, evUn, Nat.reduceEqDiff, Nat.reduceLT, evResults, evResultsL, reduceCtorEq, AV.isUndef, AV.cells, Nat.reduceAdd, Heap.store, Nat.reduceLeDiff, hF2.at, hF2.hp, hlnN, hclg, p7, htkN]
  obtain ⟨gb, gg, gt, gw, gex, rfl, hgrow, hgw, hgf⟩ := own_one hO2
  have hUp3 := hF2.hpU [Blk.row 37 17 [ptN (.slice gb 0 1 1 gex gg) n] 0 0]
  have hC3 := (hC1.up hU2).up hUp3
  have g3 := hUp3 _ _ hgrow
  have hF3 := hF2.hpF [Blk.row 37 17 [ptN (.slice gb 0 1 1 gex gg) n] 0 0]
  have hH3 := hO2.holds.up hUp3
  have hn7 : ¬ F1 H2.next := fun e => (hC1.up hU2).dom _ e hF2.at
  have hng : ¬ F1 gb := fun e => hC1.dom _ e hgf
  have hne7 : H2.next ≠ gb := fun e => by rw [← e, hF2.at] at hgrow; cases hgrow
  have p7' := p7 []
  have hU3 := (hU1.trans hU2).trans hUp3
  generalize hG3 : HP H2 [Blk.row 37 17 [ptN (.slice gb 0 1 1 gex gg) n] 0 0] = H3 at *
  refine callStep (f8_ok key n hkey hF3 hC3 (by simp) hH3 _ fun H4 hP4 => ?_)
  obtain ⟨F4, hC4, hf4, hU4, hF4, keep4⟩ := FC.post hU3 hf1 hP4
  rw [show putL 3 key n [] = [(key, n)] from rfl] at hC4
  obtain ⟨p74, hn74⟩ := keep4 _ _ p7' hn7
  obtain ⟨g4, hng4⟩ := keep4 _ _ g3 hng
  simp (maxSteps := 1000000) only [sx, fx, implies_true, evBuildSlice, fillE, fillA, Nat.reduceMul, Nat.reducePow, AV.isCell, Nat.reduceSub, here, plain, laid, Nat.reduceBEq, evOp, avOf, avCell, strOf, UInt8.reduceToNat, evBin, evInt, evStr, evUn, Nat.reduceEqDiff, Nat.reduceLT, evResults, evResultsL, reduceCtorEq, AV.isUndef, AV.cells, Nat.reduceAdd, Heap.store, Nat.reduceLeDiff]
  refine drawStep [] [0, 1, 2, 3, 4, 5, 6, 7, 8, 9, 10, 11, 12] _ rfl (by kernel_rfl) ?_
  have hidx : evIndexAddr Try.prog H4 28 (.slice gb 0 1 1 gex gg) (.int .i64 0) = some (.ptr gb 0 0 gg) := by simp [evIndexAddr, und28, sz60, Heap.eszOf, g4, hgw]
  simp only [ptN, pt] at p74
  simp only [vi] at g4
  simp (maxSteps := 1000000) only [sx, fx, implies_true, evBuildSlice, fillE, fillA, Nat.reduceMul, Nat.reducePow, AV.isCell, Nat.reduceSub, here, plain, laid, Nat.reduceBEq, evOp, avOf, avCell, strOf, UInt8.reduceToNat, evBin, evInt, evStr, evUn, Nat.reduceEqDiff, Nat.reduceLT, evResults, evResultsL, reduceCtorEq, AV.isUndef, AV.cells, Nat.reduceAdd, Heap.store, Nat.reduceLeDiff, p74, hidx, g4, hgw, h2]
  generalize hG5 : H4.set gb (Blk.row gt 5 [[.int .i64 2, .int .i64 (IntKind.i64.wrap (n.tdiv 2)), .str [], .nilslice, .nilslice]] gg gg) = H5 at *
  have hF5 : Free H5 := hG5 ▸ hF4.set (hF4.lt g4) _
  have hoff5 : Off (fun b => b = gb) H4 H5 := hG5 ▸ Off.set (B := fun b => b = gb) rfl _
  have hC5 := hC4.off hoff5 (fun b hb e => hng4 (e ▸ hb))
  have p75 := hoff5 _ _ hne7 p74
  have hU5 : Up H H5 := fun b x hb => hoff5 _ _ (fun e => by rw [e] at hb; have := (hU1.trans hU2) _ _ hb; rw [hU1 _ _ hb] at hgf; cases hgf) (hU4 _ _ hb)
  refine callStep (f17_ok key hF5 hC5 (by simp) _ (fun hl => by simp [lk] at hl) (fun n' hl u H6 hP6 hO6 => ?_))
  obtain rfl : n' = n := by simp [lk] at hl; exact hl.symm
  obtain ⟨F6, hC6, hf6, hU6, hF6, keep6, hX6⟩ := FC.postX hU5 hf4 hP6
  rw [show without key [(key, n')] ++ [(key, n')] = [(key, n')] by simp [without, keep]] at hC6
  obtain ⟨p76, hn76⟩ := keep6 _ _ p75 hn74
  obtain ⟨ub, ug, ut, uw, uex, rfl, hurow, huw, huf⟩ := own_one hO6
  have hub6 : ¬ F6 ub := hX6 ub rfl
  have hne7u : H2.next ≠ ub := fun e => by rw [← e, p75] at huf; cases huf
  have hclu : (ptN (.slice ub 0 1 1 uex ug) n').all AV.isCell = true := pt_cells rfl
  have p8 : ∀ xs, (HP H6 (Blk.row 37 17 [ptN (.slice ub 0 1 1 uex ug) n'] 0 0 :: xs)).blk H6.next = some (.row 37 17 [ptN (.slice ub 0 1 1 uex ug) n'] 0 0) := fun xs => by rw [hp_blk0]; rfl
  simp (maxSteps := 1000000) only [sx, fx, implies_true, evBuildSlice, fillE, fillA, Nat.reduceMul, Nat.reducePow, AV.isCell, Nat.reduceSub, here, plain, laid, Nat.reduceBEq, evOp, avOf, avCell, strOf, UInt8.reduceToNat, evBin, evInt, evStr, evUn, Nat.reduceEqDiff, Nat.reduceLT, evResults, evResultsL, reduceCtorEq, AV.isUndef, AV.cells, Nat.reduceAdd, Heap.store, Nat.reduceLeDiff, hF6.at, hF6.hp, hlnN, hclu]
  have p8' := p8 []
  have hUp7 := hF6.hpU [Blk.row 37 17 [ptN (.slice ub 0 1 1 uex ug) n'] 0 0]
  have hF7 := hF6.hpF [Blk.row 37 17 [ptN (.slice ub 0 1 1 uex ug) n'] 0 0]
  have hne8u : H6.next ≠ ub := fun e => by rw [← e, hF6.at] at hurow; cases hurow
  generalize hG7 : HP H6 [Blk.row 37 17 [ptN (.slice ub 0 1 1 uex ug) n'] 0 0] = H7 at *
  refine drawStep [12, 13] [0, 1, 2, 3, 4, 5, 6, 7, 8, 9, 10, 11, 12, 13, 14, 15, 16] _ rfl (by kernel_rfl) ?_
  have hl1 : ∀ G, evBuiltin Try.prog G .len #[28] [.slice ub 0 1 1 uex ug] = some (.int .i64 1, G) := fun G => len_slice und28 G ub 0 1 1 uex ug
  have p8v := p8'
  simp only [ptN, pt] at p8v
  simp (maxSteps := 1000000) only [sx, fx, implies_true, evBuildSlice, fillE, fillA, Nat.reduceMul, Nat.reducePow, AV.isCell, Nat.reduceSub, here, plain, laid, Nat.reduceBEq, evOp, avOf, avCell, strOf, UInt8.reduceToNat, evBin, evInt, evStr, evUn, Nat.reduceEqDiff, Nat.reduceLT, evResults, evResultsL, reduceCtorEq, AV.isUndef, AV.cells, Nat.reduceAdd, Heap.store, Nat.reduceLeDiff, p8v, hl1, bne_self_eq_false]
  refine callStep_flag (f9_ok n' _ hF7 _ fun g2 H8 hU8 hF8 hO8 => ⟨hU8, ?_⟩)
  simp (maxSteps := 1000000) only [sx, fx, implies_true, evBuildSlice, fillE, fillA, Nat.reduceMul, Nat.reducePow, AV.isCell, Nat.reduceSub, here, plain, laid, Nat.reduceBEq, evOp, avOf, avCell, strOf, UInt8.reduceToNat, evBin, evInt, evStr, evUn, Nat.reduceEqDiff, Nat.reduceLT, evResults, evResultsL, reduceCtorEq, AV.isUndef, AV.cells, Nat.reduceAdd, Heap.store, Nat.reduceLeDiff]
  refine callStep_flag (f13_ok g2 (holds_shape hO8.holds) n' (IntKind.i64.wrap (n'.tdiv 2)) n' (n'.tmod 2 == 1) _ hF8 _ fun H9 hU9 hF9 => ⟨hU9, ?_⟩)
  simp (maxSteps := 1000000) only [sx, fx, implies_true, evBuildSlice, fillE, fillA, Nat.reduceMul, Nat.reducePow, AV.isCell, Nat.reduceSub, here, plain, laid, Nat.reduceBEq, evOp, avOf, avCell, strOf, UInt8.reduceToNat, evBin, evInt, evStr, evUn, Nat.reduceEqDiff, Nat.reduceLT, evResults, evResultsL, reduceCtorEq, AV.isUndef, AV.cells, Nat.reduceAdd, Heap.store, Nat.reduceLeDiff]
  have huH7 : Holds H7 5 (.slice ub 0 1 1 uex ug) [vi 2 n'] := hO6.holds.up hUp7
  refine callStep (f12_ok (L := [vi 2 n']) n' (IntKind.i64.wrap (n'.tdiv 2)) n' (n'.tmod 2 == 1) _ hF9 (huH7.up (hU8.trans hU9)) (hO8.holds.up hU9) (ViL.one n') (by simp) _ fun H10 hU10 hF10 => ?_)
  have hU710 := (hU8.trans hU9).trans hU10
  have p8x := hU710 _ _ p8v
  have u10 := hU710 _ _ (hUp7 _ _ hurow)
  simp only [vi] at u10
  have hidxu : evIndexAddr Try.prog H10 28 (.slice ub 0 1 1 uex ug) (.int .i64 0) = some (.ptr ub 0 0 ug) := by simp [evIndexAddr, und28, sz60, Heap.eszOf, u10, huw]
  simp (maxSteps := 1000000) only [sx, fx, implies_true, evBuildSlice, fillE, fillA, Nat.reduceMul, Nat.reducePow, AV.isCell, Nat.reduceSub, here, plain, laid, Nat.reduceBEq, evOp, avOf, avCell, strOf, UInt8.reduceToNat, evBin, evInt, evStr, evUn, Nat.reduceEqDiff, Nat.reduceLT, evResults, evResultsL, reduceCtorEq, AV.isUndef, AV.cells, Nat.reduceAdd, Heap.store, Nat.reduceLeDiff, p8x, hidxu, u10, huw]
  generalize hG11 : H10.set ub (Blk.row ut 5 [[.int .i64 77, .int .i64 n', .str [], .nilslice, .nilslice]] ug ug) = H11 at *
  have hF11 : Free H11 := hG11 ▸ hF10.set (hF10.lt u10) _
  have hoff11 : Off (fun b => b = ub) H10 H11 := hG11 ▸ Off.set (B := fun b => b = ub) rfl _
  have hC11 := ((hC6.up hUp7).up hU710).off hoff11 (fun b hb e => hub6 (e ▸ hb))
  have p7B := hoff11 _ _ hne7u (hU710 _ _ (hUp7 _ _ p76))
  refine callStep (f11_ok key hF11 hC11 _ (fun hl => by simp [lk] at hl) (fun m hlm w H12 hU12 hF12 hO12 => ?_))
  obtain rfl : m = n' := by simp [lk] at hlm; exact hlm.symm
  have hclw : (ptN w m).all AV.isCell = true := pt_cells (own_isCell hO12)
  have hlz : (([.int .i64 0, .nilMap, .nilslice, .int .i64 0, .int .i64 0] : List AV)).length = 5 := rfl
  simp (maxSteps := 1000000) only [sx, fx, implies_true, evBuildSlice, fillE, fillA, Nat.reduceMul, Nat.reducePow, AV.isCell, Nat.reduceSub, here, plain, laid, Nat.reduceBEq, evOp, avOf, avCell, strOf, UInt8.reduceToNat, evBin, evInt, evStr, evUn, Nat.reduceEqDiff, Nat.reduceLT, evResults, evResultsL, reduceCtorEq, AV.isUndef, AV.cells, Nat.reduceAdd, Heap.store, Nat.reduceLeDiff, hF12.at, hF12.hp, hlnN, hclw]
  have hUpD := hF12.hpU [Blk.row 37 17 [ptN w m] 0 0, zrow]
  have hFD := hF12.hpF [Blk.row 37 17 [ptN w m] 0 0, zrow]
  have p10 : (HP H12 [Blk.row 37 17 [ptN w m] 0 0, zrow]).blk H12.next = some (.row 37 17 [ptN w m] 0 0) := by rw [hp_blk0]; rfl
  have pz : (HP H12 [Blk.row 37 17 [ptN w m] 0 0, zrow]).blk (H12.next + 1) = some zrow := by rw [hp_blk]; rfl
  have p7D := hUpD _ _ (hU12 _ _ p7B)
  have hwD := hO12.holds.up hUpD
  have hzz : Blk.row 63 5 [[.int .i64 0, .nilMap, .nilslice, .int .i64 0, .int .i64 0]] 0 0 = zrow := rfl
  rw [hzz]
  generalize hGD : HP H12 [Blk.row 37 17 [ptN w m] 0 0, zrow] = HD at *
  have nN : ∀ G, Noth G .nilptr := fun _ => .inl rfl
  have nZ : Noth HD (.ptr (H12.next + 1) 0 0 0) := .inr ⟨_, rfl, pz⟩
  have hln0 : (pt .nilslice 0 0 0 false).length = 17 := rfl
  have hcl0 : (pt .nilslice 0 0 0 false).all AV.isCell = true := rfl
  have htk0 : (pt .nilslice 0 0 0 false).take 17 = pt .nilslice 0 0 0 false := rfl
  refine callStep (f22_noth _ (nN _) _ fun a => ?_)
  simp (maxSteps := 1000000) only [sx, fx, implies_true, evBuildSlice, fillE, fillA, Nat.reduceMul, Nat.reducePow, AV.isCell, Nat.reduceSub, here, plain, laid, Nat.reduceBEq, evOp, avOf, avCell, strOf, UInt8.reduceToNat, evBin, evInt, evStr, evUn, Nat.reduceEqDiff, Nat.reduceLT, evResults, evResultsL, reduceCtorEq, AV.isUndef, AV.cells, Nat.reduceAdd, Heap.store, Nat.reduceLeDiff]
  refine callStep (f22_noth _ nZ _ fun a => ?_)
  simp (maxSteps := 1000000) only [sx, fx, implies_true, evBuildSlice, fillE, fillA, Nat.reduceMul, Nat.reducePow, AV.isCell, Nat.reduceSub, here, plain, laid, Nat.reduceBEq, evOp, avOf, avCell, strOf, UInt8.reduceToNat, evBin, evInt, evStr, evUn, Nat.reduceEqDiff, Nat.reduceLT, evResults, evResultsL, reduceCtorEq, AV.isUndef, AV.cells, Nat.reduceAdd, Heap.store, Nat.reduceLeDiff]
  refine callStep (f17_noth key _ hFD (nN _) _ fun HE hUE hFE => ?_)
  simp (maxSteps := 1000000) only [sx, fx, implies_true, evBuildSlice, fillE, fillA, Nat.reduceMul, Nat.reducePow, AV.isCell, Nat.reduceSub, here, plain, laid, Nat.reduceBEq, evOp, avOf, avCell, strOf, UInt8.reduceToNat, evBin, evInt, evStr, evUn, Nat.reduceEqDiff, Nat.reduceLT, evResults, evResultsL, reduceCtorEq, AV.isUndef, AV.cells, Nat.reduceAdd, Heap.store, Nat.reduceLeDiff, hFE.at, hFE.hp, hln0, hcl0]
  have hUE' := hUE.trans (hFE.hpU [Blk.row 37 17 [pt .nilslice 0 0 0 false] 0 0])
  have hFE' := hFE.hpF [Blk.row 37 17 [pt .nilslice 0 0 0 false] 0 0]
  generalize hGE : HP HE [Blk.row 37 17 [pt .nilslice 0 0 0 false] 0 0] = HE' at *
  refine callStep (f11_noth key _ hFE' (nZ.up hUE') _ fun HI hUI hFI => ?_)
  simp (maxSteps := 1000000) only [sx, fx, implies_true, evBuildSlice, fillE, fillA, Nat.reduceMul, Nat.reducePow, AV.isCell, Nat.reduceSub, here, plain, laid, Nat.reduceBEq, evOp, avOf, avCell, strOf, UInt8.reduceToNat, evBin, evInt, evStr, evUn, Nat.reduceEqDiff, Nat.reduceLT, evResults, evResultsL, reduceCtorEq, AV.isUndef, AV.cells, Nat.reduceAdd, Heap.store, Nat.reduceLeDiff, hFI.at, hFI.hp, hln0, hcl0]
  have hUI' := (hUE'.trans hUI).trans (hFI.hpU [Blk.row 37 17 [pt .nilslice 0 0 0 false] 0 0])
  have hFI' := hFI.hpF [Blk.row 37 17 [pt .nilslice 0 0 0 false] 0 0]
  generalize hGI : HP HI [Blk.row 37 17 [pt .nilslice 0 0 0 false] 0 0] = HI' at *
  have p7I := hUI' _ _ p7D
  simp (maxSteps := 1000000) only [sx, fx, implies_true, evBuildSlice, fillE, fillA, Nat.reduceMul, Nat.reducePow, AV.isCell, Nat.reduceSub, here, plain, laid, Nat.reduceBEq, evOp, avOf, avCell, strOf, UInt8.reduceToNat, evBin, evInt, evStr, evUn, Nat.reduceEqDiff, Nat.reduceLT, evResults, evResultsL, reduceCtorEq, AV.isUndef, AV.cells, Nat.reduceAdd, Heap.store, Nat.reduceLeDiff, p7I]
  refine callStep (f8_noth (g := .slice gb 0 1 1 gex gg) key m _ hFI' (nN _) _ fun HJ hUJ hFJ => ?_)
  have p7J := hUJ _ _ p7I
  simp (maxSteps := 1000000) only [sx, fx, implies_true, evBuildSlice, fillE, fillA, Nat.reduceMul, Nat.reducePow, AV.isCell, Nat.reduceSub, here, plain, laid, Nat.reduceBEq, evOp, avOf, avCell, strOf, UInt8.reduceToNat, evBin, evInt, evStr, evUn, Nat.reduceEqDiff, Nat.reduceLT, evResults, evResultsL, reduceCtorEq, AV.isUndef, AV.cells, Nat.reduceAdd, Heap.store, Nat.reduceLeDiff, p7J, bne_self_eq_false]
  refine callStep (f8_noth (g := .slice gb 0 1 1 gex gg) key m _ hFJ (nZ.up (hUI'.trans hUJ)) _ fun HK hUK hFK => ?_)
  simp (maxSteps := 1000000) only [sx, fx, implies_true, evBuildSlice, fillE, fillA, Nat.reduceMul, Nat.reducePow, AV.isCell, Nat.reduceSub, here, plain, laid, Nat.reduceBEq, evOp, avOf, avCell, strOf, UInt8.reduceToNat, evBin, evInt, evStr, evUn, Nat.reduceEqDiff, Nat.reduceLT, evResults, evResultsL, reduceCtorEq, AV.isUndef, AV.cells, Nat.reduceAdd, Heap.store, Nat.reduceLeDiff, bne_self_eq_false]
  refine callStep (f18_noth key _ hFK (nN _) _ fun HL hUL hFL => ?_)
  simp (maxSteps := 1000000) only [sx, fx, implies_true, evBuildSlice, fillE, fillA, Nat.reduceMul, Nat.reducePow, AV.isCell, Nat.reduceSub, here, plain, laid, Nat.reduceBEq, evOp, avOf, avCell, strOf, UInt8.reduceToNat, evBin, evInt, evStr, evUn, Nat.reduceEqDiff, Nat.reduceLT, evResults, evResultsL, reduceCtorEq, AV.isUndef, AV.cells, Nat.reduceAdd, Heap.store, Nat.reduceLeDiff, bne_self_eq_false]
  have nZL := nZ.up (((hUI'.trans hUJ).trans hUK).trans hUL)
  refine callStep (f18_noth key _ hFL nZL _ fun HM hUM hFM => ?_)
  have nZM := nZL.up hUM
  simp (maxSteps := 1000000) only [sx, fx, implies_true, evBuildSlice, fillE, fillA, Nat.reduceMul, Nat.reducePow, AV.isCell, Nat.reduceSub, here, plain, laid, Nat.reduceBEq, evOp, avOf, avCell, strOf, UInt8.reduceToNat, evBin, evInt, evStr, evUn, Nat.reduceEqDiff, Nat.reduceLT, evResults, evResultsL, reduceCtorEq, AV.isUndef, AV.cells, Nat.reduceAdd, Heap.store, Nat.reduceLeDiff, bne_self_eq_false]
  refine callStep (f10_noth _ (nN _) _ ?_)
  simp (maxSteps := 1000000) only [sx, fx, implies_true, evBuildSlice, fillE, fillA, Nat.reduceMul, Nat.reducePow, AV.isCell, Nat.reduceSub, here, plain, laid, Nat.reduceBEq, evOp, avOf, avCell, strOf, UInt8.reduceToNat, evBin, evInt, evStr, evUn, Nat.reduceEqDiff, Nat.reduceLT, evResults, evResultsL, reduceCtorEq, AV.isUndef, AV.cells, Nat.reduceAdd, Heap.store, Nat.reduceLeDiff]
  refine callStep (f10_noth _ nZM _ ?_)
  simp (maxSteps := 1000000) only [sx, fx, implies_true, evBuildSlice, fillE, fillA, Nat.reduceMul, Nat.reducePow, AV.isCell, Nat.reduceSub, here, plain, laid, Nat.reduceBEq, evOp, avOf, avCell, strOf, UInt8.reduceToNat, evBin, evInt, evStr, evUn, Nat.reduceEqDiff, Nat.reduceLT, evResults, evResultsL, reduceCtorEq, AV.isUndef, AV.cells, Nat.reduceAdd, Heap.store, Nat.reduceLeDiff]
  refine callStep (f14_noth _ (nN _) _ ?_)
  simp (maxSteps := 1000000) only [sx, fx, implies_true, evBuildSlice, fillE, fillA, Nat.reduceMul, Nat.reducePow, AV.isCell, Nat.reduceSub, here, plain, laid, Nat.reduceBEq, evOp, avOf, avCell, strOf, UInt8.reduceToNat, evBin, evInt, evStr, evUn, Nat.reduceEqDiff, Nat.reduceLT, evResults, evResultsL, reduceCtorEq, AV.isUndef, AV.cells, Nat.reduceAdd, Heap.store, Nat.reduceLeDiff]
  refine callStep (f15_noth _ nZM _ ?_)
  have w0 : IntKind.i64.wrap (0 + 0) = 0 := by decide
  simp (maxSteps := 1000000) only [sx, fx, implies_true, evBuildSlice, fillE, fillA, Nat.reduceMul, Nat.reducePow, AV.isCell, Nat.reduceSub, here, plain, laid, Nat.reduceBEq, evOp, avOf, avCell, strOf, UInt8.reduceToNat, evBin, evInt, evStr, evUn, Nat.reduceEqDiff, Nat.reduceLT, evResults, evResultsL, reduceCtorEq, AV.isUndef, AV.cells, Nat.reduceAdd, Heap.store, Nat.reduceLeDiff, w0, bne_self_eq_false]
  refine callStep (f19_noth _ (nN _) _ ?_)
  simp (maxSteps := 1000000) only [sx, fx, implies_true, evBuildSlice, fillE, fillA, Nat.reduceMul, Nat.reducePow, AV.isCell, Nat.reduceSub, here, plain, laid, Nat.reduceBEq, evOp, avOf, avCell, strOf, UInt8.reduceToNat, evBin, evInt, evStr, evUn, Nat.reduceEqDiff, Nat.reduceLT, evResults, evResultsL, reduceCtorEq, AV.isUndef, AV.cells, Nat.reduceAdd, Heap.store, Nat.reduceLeDiff, len_nil' und51, bne_self_eq_false]
  have hUM' := (((hUI'.trans hUJ).trans hUK).trans hUL).trans hUM
  have p10M := hUM' _ _ p10
  refine drawStep [2, 3] [0, 1, 2, 3, 4, 5, 6, 7, 8] _ rfl (by kernel_rfl) ?_
  simp (maxSteps := 1000000) only [sx, fx, implies_true, evBuildSlice, fillE, fillA, Nat.reduceMul, Nat.reducePow, AV.isCell, Nat.reduceSub, here, plain, laid, Nat.reduceBEq, evOp, avOf, avCell, strOf, UInt8.reduceToNat, evBin, evInt, evStr, evUn, Nat.reduceEqDiff, Nat.reduceLT, evResults, evResultsL, reduceCtorEq, AV.isUndef, AV.cells, Nat.reduceAdd, Heap.store, Nat.reduceLeDiff, p10M, hlnN, htkN]
  refine callStep_flag (f9_ok m _ hFM _ fun g5 HN hUN hFN hON => ⟨hUN, ?_⟩)
  simp (maxSteps := 1000000) only [sx, fx, implies_true, evBuildSlice, fillE, fillA, Nat.reduceMul, Nat.reducePow, AV.isCell, Nat.reduceSub, here, plain, laid, Nat.reduceBEq, evOp, avOf, avCell, strOf, UInt8.reduceToNat, evBin, evInt, evStr, evUn, Nat.reduceEqDiff, Nat.reduceLT, evResults, evResultsL, reduceCtorEq, AV.isUndef, AV.cells, Nat.reduceAdd, Heap.store, Nat.reduceLeDiff]
  refine callStep_flag (f13_ok g5 (holds_shape hON.holds) m (IntKind.i64.wrap (m.tdiv 2)) m (m.tmod 2 == 1) _ hFN _ fun HO hUO hFO => ⟨hUO, ?_⟩)
  simp (maxSteps := 1000000) only [sx, fx, implies_true, evBuildSlice, fillE, fillA, Nat.reduceMul, Nat.reducePow, AV.isCell, Nat.reduceSub, here, plain, laid, Nat.reduceBEq, evOp, avOf, avCell, strOf, UInt8.reduceToNat, evBin, evInt, evStr, evUn, Nat.reduceEqDiff, Nat.reduceLT, evResults, evResultsL, reduceCtorEq, AV.isUndef, AV.cells, Nat.reduceAdd, Heap.store, Nat.reduceLeDiff]
  refine callStep (f12_ok (L := [vi 2 m]) m (IntKind.i64.wrap (m.tdiv 2)) m (m.tmod 2 == 1) _ hFO (hwD.up ((hUM'.trans hUN).trans hUO)) (hON.holds.up hUO) (ViL.one m) (by simp) _ fun HS hUS hFS => ?_)
  simp (maxSteps := 1000000) only [sx, fx, implies_true, evBuildSlice, fillE, fillA, Nat.reduceMul, Nat.reducePow, AV.isCell, Nat.reduceSub, here, plain, laid, Nat.reduceBEq, evOp, avOf, avCell, strOf, UInt8.reduceToNat, evBin, evInt, evStr, evUn, Nat.reduceEqDiff, Nat.reduceLT, evResults, evResultsL, reduceCtorEq, AV.isUndef, AV.cells, Nat.reduceAdd, Heap.store, Nat.reduceLeDiff]
  refine callStep (f16_ok _ hFS _ fun HT hUT hFT => ?_)
  simp (maxSteps := 1000000) only [sx, fx, implies_true, evBuildSlice, fillE, fillA, Nat.reduceMul, Nat.reducePow, AV.isCell, Nat.reduceSub, here, plain, laid, Nat.reduceBEq, evOp, avOf, avCell, strOf, UInt8.reduceToNat, evBin, evInt, evStr, evUn, Nat.reduceEqDiff, Nat.reduceLT, evResults, evResultsL, reduceCtorEq, AV.isUndef, AV.cells, Nat.reduceAdd, Heap.store, Nat.reduceLeDiff]
  exact hQ _
end Go.Proofs.T
