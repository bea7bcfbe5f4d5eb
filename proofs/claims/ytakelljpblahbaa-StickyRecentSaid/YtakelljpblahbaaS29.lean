import Derived.Test.YtakelljpblahbaaS28
set_option linter.unusedVariables false
set_option linter.unusedSimpArgs false
set_option maxRecDepth 100000
namespace Go.Proofs.T
open Go.Ev

set_option maxHeartbeats 4000000 in
theorem f3_ok (a b : Int) (ha : 0 ≤ a ∧ a < 256) (hb : 0 ≤ b ∧ b < 256) (H : Heap) (hFr : Free H) (Q : AV → Heap → Prop) (hQ : ∀ H', Q (.bool true) H') : WF Try.prog 3 [.int .u8 a, .int .u8 b] H Q := by
  refine WF_body Try.func3 (by kernel_rfl) rfl Try.ntmps3 (by rw [Try.results3]) (of_decide_eq_true (by kernel_rfl)) ?_
  have h64 : ((64 : Int) = 0) = False := by simp
  have h80 : ((80 : Int) = 0) = False := by simp
  obtain ⟨k, hk, hk1, hk2⟩ : ∃ k : Nat, IntKind.i64.wrap (1 + (IntKind.i64.wrap a).tmod 64) = (k : Int) ∧ 1 ≤ k ∧ k ≤ 64 := by
    have h1 : IntKind.i64.wrap a = a := IntWalk.i64_in _ (by omega)
    have h2 : a.tmod 64 = a % 64 := Int.tmod_eq_emod_of_nonneg ha.1
    refine ⟨(1 + a % 64).toNat, ?_, by omega, by omega⟩
    rw [h1, h2, IntWalk.i64_in _ (by omega)]; omega
  obtain ⟨m, hm, hm2⟩ : ∃ m : Nat, (IntKind.i64.wrap b).tmod 80 = (m : Int) ∧ m < 80 := by
    have h1 : IntKind.i64.wrap b = b := IntWalk.i64_in _ (by omega)
    have h2 : b.tmod 80 = b % 80 := Int.tmod_eq_emod_of_nonneg hb.1
    exact ⟨(b % 80).toNat, by rw [h1, h2]; omega, by omega⟩
  simp (maxSteps := 1000000) only [sx, fx, implies_true, evBuildSlice, fillE, fillA, Nat.reduceMul, Nat.reducePow, AV.isCell, Nat.reduceSub, here, plain, laid, Nat.reduceBEq, evOp, avOf, avCell, strOf, UInt8.reduceToNat, evBin, evInt, evStr, evUn, Nat.reduceEqDiff, Nat.reduceLT, evResults, evResultsL, reduceCtorEq, AV.isUndef, AV.cells, Nat.reduceAdd, Heap.store, Nat.reduceLeDiff, cv53, h64, h80, hk, hm]
  refine callStep (f7_ok (n := k) (by omega) _ hFr _ fun cx F1 H1 hC1 hf1 hU1 hF1 => ?_)
  simp (maxSteps := 1000000) only [sx, fx, implies_true, evBuildSlice, fillE, fillA, Nat.reduceMul, Nat.reducePow, AV.isCell, Nat.reduceSub, here, plain, laid, Nat.reduceBEq, evOp, avOf, avCell, strOf, UInt8.reduceToNat, evBin, evInt, evStr, evUn, Nat.reduceEqDiff, Nat.reduceLT, evResults, evResultsL, reduceCtorEq, AV.isUndef, AV.cells, Nat.reduceAdd, Heap.store, Nat.reduceLeDiff, eqOk, eqp22_p, bne_self_eq_false]
  refine loopStepR (fun env H' => Free H' ∧ ∃ (i : Nat) (F : Nat → Prop), i ≤ m + 1 ∧ env.at (.tmp 9) = .int .i64 i ∧ env.at (.tmp 6) = .int .i64 m ∧ env.at (.tmp 5) = .int .i64 k ∧ env.at (.tmp 7) = .ptr cx 0 0 0 ∧ Cache H' F cx k 0 0 (recL k i))
    (fun env H' => match env.at (.tmp 9) with | .int _ i => ((m : Int) + 1 - i).toNat | _ => 0)
    (fun ex env H' => ex = .exit 0 ∧ Free H' ∧ ∃ (F : Nat → Prop), env.at (.tmp 6) = .int .i64 m ∧ env.at (.tmp 5) = .int .i64 k ∧ env.at (.tmp 7) = .ptr cx 0 0 0 ∧ Cache H' F cx k 0 0 (recL k (m + 1))) ?_ ?_ ?_
  · refine ⟨hF1, 0, F1, by omega, ?_, ?_, ?_, ?_, by simpa [recL] using hC1⟩
    · simp only [sx, fx, implies_true, evBuildSlice, fillE, fillA, splice, Nat.reduceMul, Nat.reducePow, AV.isCell, Nat.reduceSub, here, plain, laid, Nat.reduceBEq, evOp, avOf, avCell, strOf, UInt8.reduceToNat, evBin, evInt, evStr, evUn, Nat.reduceEqDiff, Nat.reduceLT, evResults, evResultsL, reduceCtorEq, AV.isUndef, AV.cells, Nat.reduceAdd, Heap.store, Nat.reduceLeDiff]; rfl
    · simp only [sx, fx, implies_true, evBuildSlice, fillE, fillA, splice, Nat.reduceMul, Nat.reducePow, AV.isCell, Nat.reduceSub, here, plain, laid, Nat.reduceBEq, evOp, avOf, avCell, strOf, UInt8.reduceToNat, evBin, evInt, evStr, evUn, Nat.reduceEqDiff, Nat.reduceLT, evResults, evResultsL, reduceCtorEq, AV.isUndef, AV.cells, Nat.reduceAdd, Heap.store, Nat.reduceLeDiff]
    · simp only [sx, fx, implies_true, evBuildSlice, fillE, fillA, splice, Nat.reduceMul, Nat.reducePow, AV.isCell, Nat.reduceSub, here, plain, laid, Nat.reduceBEq, evOp, avOf, avCell, strOf, UInt8.reduceToNat, evBin, evInt, evStr, evUn, Nat.reduceEqDiff, Nat.reduceLT, evResults, evResultsL, reduceCtorEq, AV.isUndef, AV.cells, Nat.reduceAdd, Heap.store, Nat.reduceLeDiff]
    · simp only [sx, fx, implies_true, evBuildSlice, fillE, fillA, splice, Nat.reduceMul, Nat.reducePow, AV.isCell, Nat.reduceSub, here, plain, laid, Nat.reduceBEq, evOp, avOf, avCell, strOf, UInt8.reduceToNat, evBin, evInt, evStr, evUn, Nat.reduceEqDiff, Nat.reduceLT, evResults, evResultsL, reduceCtorEq, AV.isUndef, AV.cells, Nat.reduceAdd, Heap.store, Nat.reduceLeDiff]
  · rintro env H' ⟨hF', i, F, hi, e9, e6, e5, e7, hC⟩
    by_cases hle : i ≤ m
    · have hle' : ((i : Int) ≤ (m : Int)) = True := by simp; exact hle
      have hlen : (recL k i).length ≤ 80 := by rw [recL_len]; omega
      have w8 : IntKind.u8.wrap (i : Int) = (i : Int) := by simp [IntKind.wrap, IntKind.signed, IntKind.bits]; omega
      simp (maxSteps := 1000000) only [sx, fx, implies_true, evBuildSlice, fillE, fillA, Nat.reduceMul, Nat.reducePow, AV.isCell, Nat.reduceSub, here, plain, laid, Nat.reduceBEq, evOp, avOf, avCell, strOf, UInt8.reduceToNat, evBin, evInt, evStr, evUn, Nat.reduceEqDiff, Nat.reduceLT, evResults, evResultsL, reduceCtorEq, AV.isUndef, AV.cells, Nat.reduceAdd, Heap.store, Nat.reduceLeDiff, e9, e6, e5, e7, hle']
      have hw : WF Try.prog 9 [.int .i64 i] H' (fun r H2 => ∃ g, r = .agg (ptN g i) ∧ Up H' H2 ∧ Free H2 ∧ Own H' H2 60 5 g [vi 2 i]) := f9_ok i H' hF' _ (fun g H2 h1 h2 h3 => ⟨g, rfl, h1, h2, h3⟩)
      obtain ⟨r, H2, hrun, g, rfl, hU2, hF2, hO2⟩ := hw
      refine drawStepE (fun x => x = H2.next) [2, 6, 4] [0, 1, 2, 5, 6, 3, 4, 7, 8, 9, 10, 12, 11, 13, 14] _ rfl (by kernel_rfl) ?_
      simp (maxSteps := 1000000) only [sx, fx, implies_true, evBuildSlice, fillE, fillA, Nat.reduceMul, Nat.reducePow, AV.isCell, Nat.reduceSub, here, plain, laid, Nat.reduceBEq, evOp, avOf, avCell, strOf, UInt8.reduceToNat, evBin, evInt, evStr, evUn, Nat.reduceEqDiff, Nat.reduceLT, evResults, evResultsL, reduceCtorEq, AV.isUndef, AV.cells, Nat.reduceAdd, Heap.store, Nat.reduceLeDiff, hereStep_K, e9, e7]
      refine opStepK_read (.int .u8 i) (fun Z z hZ => ?_) ?_
      · simp (maxSteps := 1000000) only [sx, fx, implies_true, evBuildSlice, fillE, fillA, Nat.reduceMul, Nat.reducePow, AV.isCell, Nat.reduceSub, here, plain, laid, Nat.reduceBEq, evOp, avOf, avCell, strOf, UInt8.reduceToNat, evBin, evInt, evStr, evUn, Nat.reduceEqDiff, Nat.reduceLT, evResults, evResultsL, reduceCtorEq, AV.isUndef, AV.cells, Nat.reduceAdd, Heap.store, Nat.reduceLeDiff, e9, cv35, w8]
      simp (maxSteps := 1000000) only [sx, fx, implies_true, evBuildSlice, fillE, fillA, Nat.reduceMul, Nat.reducePow, AV.isCell, Nat.reduceSub, here, plain, laid, Nat.reduceBEq, evOp, avOf, avCell, strOf, UInt8.reduceToNat, evBin, evInt, evStr, evUn, Nat.reduceEqDiff, Nat.reduceLT, evResults, evResultsL, reduceCtorEq, AV.isUndef, AV.cells, Nat.reduceAdd, Heap.store, Nat.reduceLeDiff, hereStep_K, e9, e7]
      refine callStep_flag ⟨_, H2, hrun, fun x hx => ?_, ?_⟩
      · rw [hx, hF2.at]
        cases hz : H'.blk H2.next with
        | none => rfl
        | some y => have := hU2 _ _ hz; rw [hF2.at] at this; cases this
      simp (maxSteps := 1000000) only [sx, fx, implies_true, evBuildSlice, fillE, fillA, Nat.reduceMul, Nat.reducePow, AV.isCell, Nat.reduceSub, here, plain, laid, Nat.reduceBEq, evOp, avOf, avCell, strOf, UInt8.reduceToNat, evBin, evInt, evStr, evUn, Nat.reduceEqDiff, Nat.reduceLT, evResults, evResultsL, reduceCtorEq, AV.isUndef, AV.cells, Nat.reduceAdd, Heap.store, Nat.reduceLeDiff, hereStep_K, hF2.at, hF2.hp]
      have rB : (HP H2 [Blk.row 5 1 [[.int .u8 107], [.int .u8 i]] 0 0]).blk H2.next = some (.row 5 1 [[.int .u8 107], [.int .u8 i]] 0 0) := by rw [hp_blk0]; rfl
      refine opStepK_read (.str [107, i]) (fun Z z hZ => ?_) ?_
      · have hz' : (⟨Z, z⟩ : Heap).blk H2.next = some (.row 5 1 [[.int .u8 107], [.int .u8 i]] 0 0) := by rw [← rB]; exact (hZ _ rfl).symm
        simp (maxSteps := 1000000) only [sx, fx, implies_true, evBuildSlice, fillE, fillA, Nat.reduceMul, Nat.reducePow, AV.isCell, Nat.reduceSub, here, plain, laid, Nat.reduceBEq, evOp, avOf, avCell, strOf, UInt8.reduceToNat, evBin, evInt, evStr, evUn, Nat.reduceEqDiff, Nat.reduceLT, evResults, evResultsL, reduceCtorEq, AV.isUndef, AV.cells, Nat.reduceAdd, Heap.store, Nat.reduceLeDiff, cvB, bytesB hz' (by omega)]
      simp (maxSteps := 1000000) only [sx, fx, implies_true, evBuildSlice, fillE, fillA, Nat.reduceMul, Nat.reducePow, AV.isCell, Nat.reduceSub, here, plain, laid, Nat.reduceBEq, evOp, avOf, avCell, strOf, UInt8.reduceToNat, evBin, evInt, evStr, evUn, Nat.reduceEqDiff, Nat.reduceLT, evResults, evResultsL, reduceCtorEq, AV.isUndef, AV.cells, Nat.reduceAdd, Heap.store, Nat.reduceLeDiff]
      refine callStep (f8_ok [107, i] i (by simp) (hF2.hpF _) ((hC.up hU2).up (hF2.hpU _)) (by omega) (hO2.holds.up (hF2.hpU _)) _ fun H3 hP3 => ?_)
      obtain ⟨F3, hC3, _, _, hF3⟩ := hP3
      rw [recL_put k i hk1] at hC3
      simp (maxSteps := 1000000) only [sx, fx, implies_true, evBuildSlice, fillE, fillA, Nat.reduceMul, Nat.reducePow, AV.isCell, Nat.reduceSub, here, plain, laid, Nat.reduceBEq, evOp, avOf, avCell, strOf, UInt8.reduceToNat, evBin, evInt, evStr, evUn, Nat.reduceEqDiff, Nat.reduceLT, evResults, evResultsL, reduceCtorEq, AV.isUndef, AV.cells, Nat.reduceAdd, Heap.store, Nat.reduceLeDiff, e5, e7, bne_self_eq_false]
      refine callStep (f10_ok hF3 hC3 _ fun H4 hU4 hF4 => ?_)
      have hgt : (((recL k (i + 1)).length : Int) > (k : Int)) = False := by rw [recL_len]; simp; omega
      simp (maxSteps := 1000000) only [sx, fx, implies_true, evBuildSlice, fillE, fillA, Nat.reduceMul, Nat.reducePow, AV.isCell, Nat.reduceSub, here, plain, laid, Nat.reduceBEq, evOp, avOf, avCell, strOf, UInt8.reduceToNat, evBin, evInt, evStr, evUn, Nat.reduceEqDiff, Nat.reduceLT, evResults, evResultsL, reduceCtorEq, AV.isUndef, AV.cells, Nat.reduceAdd, Heap.store, Nat.reduceLeDiff, e9, e6, e5, e7, hgt, wrap_succ (i := i) (by omega)]
      refine ⟨⟨hF4, i + 1, F3, by omega, rfl, hC3.up hU4⟩, ?_⟩
      omega
    · obtain rfl : i = m + 1 := by omega
      have hle' : (((m + 1 : Nat) : Int) ≤ (m : Int)) = False := by simp; omega
      simp (maxSteps := 1000000) only [sx, fx, implies_true, evBuildSlice, fillE, fillA, Nat.reduceMul, Nat.reducePow, AV.isCell, Nat.reduceSub, here, plain, laid, Nat.reduceBEq, evOp, avOf, avCell, strOf, UInt8.reduceToNat, evBin, evInt, evStr, evUn, Nat.reduceEqDiff, Nat.reduceLT, evResults, evResultsL, reduceCtorEq, AV.isUndef, AV.cells, Nat.reduceAdd, Heap.store, Nat.reduceLeDiff, e9, e6, e5, e7, hle']
      exact ⟨hF', F, hC⟩
  · rintro ex env H' ⟨rfl, hF', F, e6, e5, e7, hC⟩
    simp (maxSteps := 1000000) only [sx, fx, implies_true, evBuildSlice, fillE, fillA, Nat.reduceMul, Nat.reducePow, AV.isCell, Nat.reduceSub, here, plain, laid, Nat.reduceBEq, evOp, avOf, avCell, strOf, UInt8.reduceToNat, evBin, evInt, evStr, evUn, Nat.reduceEqDiff, Nat.reduceLT, evResults, evResultsL, reduceCtorEq, AV.isUndef, AV.cells, Nat.reduceAdd, Heap.store, Nat.reduceLeDiff]
    refine loopStep' (fun env H' => Free H' ∧ ∃ (i : Nat), i ≤ m + 1 ∧ env.at (.tmp 10) = .int .i64 i ∧ env.at (.tmp 6) = .int .i64 m ∧ env.at (.tmp 5) = .int .i64 k ∧ env.at (.tmp 7) = .ptr cx 0 0 0 ∧ Cache H' F cx k 0 0 (recL k (m + 1)))
      (fun env H' => match env.at (.tmp 10) with | .int _ i => ((m : Int) + 1 - i).toNat | _ => 0) ?_ ?_
    · refine ⟨hF', 0, by omega, ?_, ?_, ?_, ?_, hC⟩
      · simp only [sx, fx, implies_true, evBuildSlice, fillE, fillA, splice, Nat.reduceMul, Nat.reducePow, AV.isCell, Nat.reduceSub, here, plain, laid, Nat.reduceBEq, evOp, avOf, avCell, strOf, UInt8.reduceToNat, evBin, evInt, evStr, evUn, Nat.reduceEqDiff, Nat.reduceLT, evResults, evResultsL, reduceCtorEq, AV.isUndef, AV.cells, Nat.reduceAdd, Heap.store, Nat.reduceLeDiff]; rfl
      · simp only [sx, fx, implies_true, evBuildSlice, fillE, fillA, splice, Nat.reduceMul, Nat.reducePow, AV.isCell, Nat.reduceSub, here, plain, laid, Nat.reduceBEq, evOp, avOf, avCell, strOf, UInt8.reduceToNat, evBin, evInt, evStr, evUn, Nat.reduceEqDiff, Nat.reduceLT, evResults, evResultsL, reduceCtorEq, AV.isUndef, AV.cells, Nat.reduceAdd, Heap.store, Nat.reduceLeDiff]; exact e6
      · simp only [sx, fx, implies_true, evBuildSlice, fillE, fillA, splice, Nat.reduceMul, Nat.reducePow, AV.isCell, Nat.reduceSub, here, plain, laid, Nat.reduceBEq, evOp, avOf, avCell, strOf, UInt8.reduceToNat, evBin, evInt, evStr, evUn, Nat.reduceEqDiff, Nat.reduceLT, evResults, evResultsL, reduceCtorEq, AV.isUndef, AV.cells, Nat.reduceAdd, Heap.store, Nat.reduceLeDiff]; exact e5
      · simp only [sx, fx, implies_true, evBuildSlice, fillE, fillA, splice, Nat.reduceMul, Nat.reducePow, AV.isCell, Nat.reduceSub, here, plain, laid, Nat.reduceBEq, evOp, avOf, avCell, strOf, UInt8.reduceToNat, evBin, evInt, evStr, evUn, Nat.reduceEqDiff, Nat.reduceLT, evResults, evResultsL, reduceCtorEq, AV.isUndef, AV.cells, Nat.reduceAdd, Heap.store, Nat.reduceLeDiff]; exact e7
    · clear e6 e5 e7
      rintro env H' ⟨hF', i, hi, e10, e6, e5, e7, hC⟩
      by_cases hle : i ≤ m
      · have hle' : ((i : Int) ≤ (m : Int)) = True := by simp; exact hle
        have w8 : IntKind.u8.wrap (i : Int) = (i : Int) := by simp [IntKind.wrap, IntKind.signed, IntKind.bits]; omega
        have wsub : IntKind.i64.wrap ((m : Int) - (i : Int)) = ((m - i : Nat) : Int) := by rw [IntWalk.i64_in _ (by omega)]; omega
        have rB : (HP H' [Blk.row 5 1 [[.int .u8 107], [.int .u8 i]] 0 0]).blk H'.next = some (.row 5 1 [[.int .u8 107], [.int .u8 i]] 0 0) := by rw [hp_blk0]; rfl
        have hlk := recL_lk k m i hle
        simp (maxSteps := 1000000) only [sx, fx, implies_true, evBuildSlice, fillE, fillA, Nat.reduceMul, Nat.reducePow, AV.isCell, Nat.reduceSub, here, plain, laid, Nat.reduceBEq, evOp, avOf, avCell, strOf, UInt8.reduceToNat, evBin, evInt, evStr, evUn, Nat.reduceEqDiff, Nat.reduceLT, evResults, evResultsL, reduceCtorEq, AV.isUndef, AV.cells, Nat.reduceAdd, Heap.store, Nat.reduceLeDiff, e10, e6, e5, e7, hle', cv35, w8, hF'.at, hF'.hp, cvB, bytesB rB (show i < 256 by omega)]
        refine callStep (f11_ok [107, i] (hF'.hpF _) (hC.up (hF'.hpU _)) _ (fun hl u H2 hU2 hF2 hO2 => ?_) (fun n hl u H2 hU2 hF2 hO2 => ?_))
        · have hnk : (((m - i : Nat) : Int) < (k : Int)) = False := by
            by_cases h : m - i < k
            · rw [if_pos h, hl] at hlk; cases hlk
            · simp; omega
          have hcl : (pt u 0 0 0 false).all AV.isCell = true := pt_cells (own_isCell hO2)
          have hln0 : (pt u 0 0 0 false).length = 17 := rfl
          simp (maxSteps := 1000000) only [sx, fx, implies_true, evBuildSlice, fillE, fillA, Nat.reduceMul, Nat.reducePow, AV.isCell, Nat.reduceSub, here, plain, laid, Nat.reduceBEq, evOp, avOf, avCell, strOf, UInt8.reduceToNat, evBin, evInt, evStr, evUn, Nat.reduceEqDiff, Nat.reduceLT, evResults, evResultsL, reduceCtorEq, AV.isUndef, AV.cells, Nat.reduceAdd, Heap.store, Nat.reduceLeDiff, e10, e6, e5, e7, hF2.at, hF2.hp, hln0, hcl]
          refine drawStep [12, 13] [0, 1, 2, 3, 4, 5, 6, 7, 8, 9, 10, 11, 12, 13, 14, 15, 16, 17] _ rfl (by kernel_rfl) ?_
          simp (maxSteps := 1000000) only [sx, fx, implies_true, evBuildSlice, fillE, fillA, Nat.reduceMul, Nat.reducePow, AV.isCell, Nat.reduceSub, here, plain, laid, Nat.reduceBEq, evOp, avOf, avCell, strOf, UInt8.reduceToNat, evBin, evInt, evStr, evUn, Nat.reduceEqDiff, Nat.reduceLT, evResults, evResultsL, reduceCtorEq, AV.isUndef, AV.cells, Nat.reduceAdd, Heap.store, Nat.reduceLeDiff, e10, e6, e5, e7, wsub, hnk, BEq.rfl, bool_ok, bool_eqA, wrap_succ (i := i) (by omega)]
          refine ⟨⟨hF2.hpF _, i + 1, by omega, rfl, ((hC.up (hF'.hpU _)).up hU2).up (hF2.hpU _)⟩, ?_⟩
          omega
        · have hik : m - i < k := by
            by_cases h : m - i < k
            · exact h
            · rw [if_neg h, hl] at hlk; cases hlk
          rw [if_pos hik, hl] at hlk
          obtain rfl : n = (i : Int) := Option.some.inj hlk
          have hnk : (((m - i : Nat) : Int) < (k : Int)) = True := by simp; omega
          have hcl : (ptN u i).all AV.isCell = true := pt_cells (own_isCell hO2)
          have hlnN : (ptN u i).length = 17 := rfl
          have htkN : (ptN u i).take 17 = ptN u i := rfl
          have p2 : (HP H2 [Blk.row 37 17 [ptN u i] 0 0]).blk H2.next = some (.row 37 17 [ptN u i] 0 0) := by rw [hp_blk0]; rfl
          simp (maxSteps := 1000000) only [sx, fx, implies_true, evBuildSlice, fillE, fillA, Nat.reduceMul, Nat.reducePow, AV.isCell, Nat.reduceSub, here, plain, laid, Nat.reduceBEq, evOp, avOf, avCell, strOf, UInt8.reduceToNat, evBin, evInt, evStr, evUn, Nat.reduceEqDiff, Nat.reduceLT, evResults, evResultsL, reduceCtorEq, AV.isUndef, AV.cells, Nat.reduceAdd, Heap.store, Nat.reduceLeDiff, e10, e6, e5, e7, hF2.at, hF2.hp, hlnN, hcl]
          refine drawStep [12, 13] [0, 1, 2, 3, 4, 5, 6, 7, 8, 9, 10, 11, 12, 13, 14, 15, 16, 17] _ rfl (by kernel_rfl) ?_
          simp (maxSteps := 1000000) only [sx, fx, implies_true, evBuildSlice, fillE, fillA, Nat.reduceMul, Nat.reducePow, AV.isCell, Nat.reduceSub, here, plain, laid, Nat.reduceBEq, evOp, avOf, avCell, strOf, UInt8.reduceToNat, evBin, evInt, evStr, evUn, Nat.reduceEqDiff, Nat.reduceLT, evResults, evResultsL, reduceCtorEq, AV.isUndef, AV.cells, Nat.reduceAdd, Heap.store, Nat.reduceLeDiff, e10, e6, e5, e7, wsub, hnk, BEq.rfl, bool_ok, bool_eqA, p2, htkN]
          refine callStep_flag (f9_ok i _ (hF2.hpF _) _ fun g3 H3 hU3 hF3 hO3 => ⟨hU3, ?_⟩)
          simp (maxSteps := 1000000) only [sx, fx, implies_true, evBuildSlice, fillE, fillA, Nat.reduceMul, Nat.reducePow, AV.isCell, Nat.reduceSub, here, plain, laid, Nat.reduceBEq, evOp, avOf, avCell, strOf, UInt8.reduceToNat, evBin, evInt, evStr, evUn, Nat.reduceEqDiff, Nat.reduceLT, evResults, evResultsL, reduceCtorEq, AV.isUndef, AV.cells, Nat.reduceAdd, Heap.store, Nat.reduceLeDiff]
          refine callStep_flag (f13_ok g3 (holds_shape hO3.holds) i (IntKind.i64.wrap ((i : Int).tdiv 2)) i ((i : Int).tmod 2 == 1) _ hF3 _ fun H4 hU4 hF4 => ⟨hU4, ?_⟩)
          simp (maxSteps := 1000000) only [sx, fx, implies_true, evBuildSlice, fillE, fillA, Nat.reduceMul, Nat.reducePow, AV.isCell, Nat.reduceSub, here, plain, laid, Nat.reduceBEq, evOp, avOf, avCell, strOf, UInt8.reduceToNat, evBin, evInt, evStr, evUn, Nat.reduceEqDiff, Nat.reduceLT, evResults, evResultsL, reduceCtorEq, AV.isUndef, AV.cells, Nat.reduceAdd, Heap.store, Nat.reduceLeDiff]
          refine callStep (f12_ok (L := [vi 2 i]) i (IntKind.i64.wrap ((i : Int).tdiv 2)) i ((i : Int).tmod 2 == 1) _ hF4 (((hO2.holds.up (hF2.hpU _)).up hU3).up hU4) (hO3.holds.up hU4) (ViL.one i) (by simp) _ fun H5 hU5 hF5 => ?_)
          simp (maxSteps := 1000000) only [sx, fx, implies_true, evBuildSlice, fillE, fillA, Nat.reduceMul, Nat.reducePow, AV.isCell, Nat.reduceSub, here, plain, laid, Nat.reduceBEq, evOp, avOf, avCell, strOf, UInt8.reduceToNat, evBin, evInt, evStr, evUn, Nat.reduceEqDiff, Nat.reduceLT, evResults, evResultsL, reduceCtorEq, AV.isUndef, AV.cells, Nat.reduceAdd, Heap.store, Nat.reduceLeDiff, e10, e6, e5, e7, wrap_succ (i := i) (by omega)]
          refine ⟨⟨hF5, i + 1, by omega, rfl, (((((hC.up (hF'.hpU _)).up hU2).up (hF2.hpU _)).up hU3).up hU4).up hU5⟩, ?_⟩
          omega
      · obtain rfl : i = m + 1 := by omega
        have hle' : (((m + 1 : Nat) : Int) ≤ (m : Int)) = False := by simp; omega
        simp (maxSteps := 1000000) only [sx, fx, implies_true, evBuildSlice, fillE, fillA, Nat.reduceMul, Nat.reducePow, AV.isCell, Nat.reduceSub, here, plain, laid, Nat.reduceBEq, evOp, avOf, avCell, strOf, UInt8.reduceToNat, evBin, evInt, evStr, evUn, Nat.reduceEqDiff, Nat.reduceLT, evResults, evResultsL, reduceCtorEq, AV.isUndef, AV.cells, Nat.reduceAdd, Heap.store, Nat.reduceLeDiff, e10, e6, e5, e7, hle']
        refine callStep (f14_ok hC _ ?_)
        simp (maxSteps := 1000000) only [sx, fx, implies_true, evBuildSlice, fillE, fillA, Nat.reduceMul, Nat.reducePow, AV.isCell, Nat.reduceSub, here, plain, laid, Nat.reduceBEq, evOp, avOf, avCell, strOf, UInt8.reduceToNat, evBin, evInt, evStr, evUn, Nat.reduceEqDiff, Nat.reduceLT, evResults, evResultsL, reduceCtorEq, AV.isUndef, AV.cells, Nat.reduceAdd, Heap.store, Nat.reduceLeDiff, e7, BEq.rfl]
        refine callStep (f15_ok hC _ ?_)
        simp (maxSteps := 1000000) only [sx, fx, implies_true, evBuildSlice, fillE, fillA, Nat.reduceMul, Nat.reducePow, AV.isCell, Nat.reduceSub, here, plain, laid, Nat.reduceBEq, evOp, avOf, avCell, strOf, UInt8.reduceToNat, evBin, evInt, evStr, evUn, Nat.reduceEqDiff, Nat.reduceLT, evResults, evResultsL, reduceCtorEq, AV.isUndef, AV.cells, Nat.reduceAdd, Heap.store, Nat.reduceLeDiff, BEq.rfl]
        refine callStep (f16_ok _ hF' _ fun H2 hU2 hF2 => ?_)
        simp (maxSteps := 1000000) only [sx, fx, implies_true, evBuildSlice, fillE, fillA, Nat.reduceMul, Nat.reducePow, AV.isCell, Nat.reduceSub, here, plain, laid, Nat.reduceBEq, evOp, avOf, avCell, strOf, UInt8.reduceToNat, evBin, evInt, evStr, evUn, Nat.reduceEqDiff, Nat.reduceLT, evResults, evResultsL, reduceCtorEq, AV.isUndef, AV.cells, Nat.reduceAdd, Heap.store, Nat.reduceLeDiff]
        exact hQ _
end Go.Proofs.T
