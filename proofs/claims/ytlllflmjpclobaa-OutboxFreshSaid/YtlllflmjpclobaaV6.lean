import Derived.Test.YtlllflmjpclobaaV5
set_option linter.unusedVariables false
set_option linter.unusedSimpArgs false
set_option linter.unusedVariables false
set_option linter.unusedSimpArgs false
set_option maxRecDepth 100000
namespace Go.Proofs.T
open Go.Ev

theorem tx53 : isTextT Try.prog 5 3 = false := by kernel_rfl
theorem tx35 : isTextT Try.prog 3 5 = false := by kernel_rfl
theorem tx128 : isTextT Try.prog 128 9 = false := by kernel_rfl
theorem cv53 (c : Int) : evConvert Try.prog 5 3 (.int .u8 c) = some (.int .i64 (IntKind.i64.wrap c)) := by simp [evConvert, und5, und3]
theorem cv35 (c : Int) : evConvert Try.prog 3 5 (.int .i64 c) = some (.int .u8 (IntKind.u8.wrap c)) := by simp [evConvert, und5, und3]
theorem cv128 (b o l c : Nat) (ex : Bool) (g : Nat) : evConvert Try.prog 128 9 (.slice b o l c ex g) = none := by simp [evConvert, und9]
theorem by128 {G : Heap} {b : Nat} {x : Int} (hb : G.blk b = some (.row 5 1 [[.int .u8 x]] 0 0)) (h0 : 0 ≤ x) (hx : x < 256) : evBytes Try.prog G 128 9 (.slice b 0 1 1 true 0) = some (.str [x.toNat]) := by
  simp [evBytes, und128, und9, und5, Heap.elems, hb, bytesOfCells, h0, hx]
theorem wrap_bounds (x : Int) : -9223372036854775808 ≤ IntKind.i64.wrap x ∧ IntKind.i64.wrap x ≤ 9223372036854775807 := by
  simp [IntKind.wrap, IntKind.bits, IntKind.signed]; split <;> omega
theorem ten_ne : ((10 : Int) = 0) = False := by simp
theorem u8_in (x : Int) (h : 0 ≤ x ∧ x < 256) : IntKind.u8.wrap x = x := by
  simp [IntKind.wrap, IntKind.bits, IntKind.signed]; omega

theorem f97_ok : ∀ (k : Nat), k ≤ 30 → ∀ (n : Int), n ≤ 0 → -9223372036854775808 ≤ n → -(10 ^ (k + 1)) < n → ∀ (H : Heap), Free H → ∀ (K : AV → Heap → Prop), (∀ (s : List Nat) H', s.length ≤ k + 1 → Up H H' → Free H' → K (.str s) H') → WF Try.prog 97 [.int .i64 n] H K := by
  intro k
  induction k with
  | zero =>
    intro hk n hn hnl hlow H hF K hK
    have ht := Int.tmod_eq_emod_of_nonneg (a := -n) (b := 10) (by omega)
    have hd : n.tmod 10 = -((-n) % 10) := by rw [← ht, Int.neg_tmod]; omega
    have e1 : IntKind.i64.wrap (0 - n.tmod 10) = (-n) % 10 := by rw [hd, IntWalk.i64_in _ (by omega)]; omega
    have e2 : IntKind.i64.wrap (48 + (-n) % 10) = 48 + (-n) % 10 := IntWalk.i64_in _ (by omega)
    have e3 : IntKind.u8.wrap (48 + (-n) % 10) = 48 + (-n) % 10 := u8_in _ (by omega)
    have g : n > -10 := by simpa using hlow
    refine WF_body Try.func97 (by kernel_rfl) rfl Try.ntmps97 (by rw [Try.results97]) (of_decide_eq_true (by kernel_rfl)) ?_
    simp (maxSteps := 1000000) only [sx, fx, implies_true, evBuildSlice, fillE, fillA, AV.isCell, here, plain, laid, evOp, avOf, avCell, strOf, evBin, evInt, evStr, evUn, evResults, evResultsL, AV.isUndef, AV.cells, Heap.store, wbool_off, after_scope, Nat.reduceMul, Nat.reducePow, Nat.reduceSub, Nat.reduceBEq, UInt8.reduceToNat, Nat.reduceEqDiff, Nat.reduceLT, reduceCtorEq, Nat.reduceAdd, Nat.reduceLeDiff, e1, e2, e3, ten_ne, tx35, cv35, tx128, cv128, hF.at, hF.hp, by128 (show (HP H [Blk.row 5 1 [[.int .u8 (48 + (-n) % 10)]] 0 0]).blk H.next = _ by rw [hp_blk0]; rfl) (by omega) (by omega), g]
    exact hK _ _ (show [(48 + (-n) % 10).toNat].length ≤ _ by simp) (hF.hpU _) (hF.hpF _)
  | succ k ih =>
    intro hk n hn hnl hlow H hF K hK
    have ht := Int.tmod_eq_emod_of_nonneg (a := -n) (b := 10) (by omega)
    have hd : n.tmod 10 = -((-n) % 10) := by rw [← ht, Int.neg_tmod]; omega
    have e1 : IntKind.i64.wrap (0 - n.tmod 10) = (-n) % 10 := by rw [hd, IntWalk.i64_in _ (by omega)]; omega
    have e2 : IntKind.i64.wrap (48 + (-n) % 10) = 48 + (-n) % 10 := IntWalk.i64_in _ (by omega)
    have e3 : IntKind.u8.wrap (48 + (-n) % 10) = 48 + (-n) % 10 := u8_in _ (by omega)
    refine WF_body Try.func97 (by kernel_rfl) rfl Try.ntmps97 (by rw [Try.results97]) (of_decide_eq_true (by kernel_rfl)) ?_
    by_cases g : n > -10
    · simp (maxSteps := 1000000) only [sx, fx, implies_true, evBuildSlice, fillE, fillA, AV.isCell, here, plain, laid, evOp, avOf, avCell, strOf, evBin, evInt, evStr, evUn, evResults, evResultsL, AV.isUndef, AV.cells, Heap.store, wbool_off, after_scope, Nat.reduceMul, Nat.reducePow, Nat.reduceSub, Nat.reduceBEq, UInt8.reduceToNat, Nat.reduceEqDiff, Nat.reduceLT, reduceCtorEq, Nat.reduceAdd, Nat.reduceLeDiff, e1, e2, e3, ten_ne, tx35, cv35, tx128, cv128, hF.at, hF.hp, by128 (show (HP H [Blk.row 5 1 [[.int .u8 (48 + (-n) % 10)]] 0 0]).blk H.next = _ by rw [hp_blk0]; rfl) (by omega) (by omega), g]
      exact hK _ _ (show [(48 + (-n) % 10).toNat].length ≤ _ by simp) (hF.hpU _) (hF.hpF _)
    · have q1 : n.tdiv 10 ≤ 0 ∧ -(10 ^ (k + 1)) < n.tdiv 10 ∧ -9223372036854775808 ≤ n.tdiv 10 := by
        have h1 := Int.tdiv_eq_ediv_of_nonneg (a := -n) (b := 10) (by omega)
        have h2 : n.tdiv 10 = -((-n) / 10) := by rw [← h1, Int.neg_tdiv]; omega
        have h3 : (10 : Int) ^ (k + 1 + 1) = 10 ^ (k + 1) * 10 := Int.pow_succ _ _
        have hp : (10 : Int) ^ (k + 1) > 0 := Int.pow_pos (by decide)
        rw [h2]
        exact ⟨by omega, by omega, by omega⟩
      obtain ⟨q1, q2, q3⟩ := q1
      have e4 : IntKind.i64.wrap (n.tdiv 10) = n.tdiv 10 := IntWalk.i64_in _ (by omega)
      simp (maxSteps := 1000000) only [sx, fx, implies_true, evBuildSlice, fillE, fillA, AV.isCell, here, plain, laid, evOp, avOf, avCell, strOf, evBin, evInt, evStr, evUn, evResults, evResultsL, AV.isUndef, AV.cells, Heap.store, wbool_off, after_scope, Nat.reduceMul, Nat.reducePow, Nat.reduceSub, Nat.reduceBEq, UInt8.reduceToNat, Nat.reduceEqDiff, Nat.reduceLT, reduceCtorEq, Nat.reduceAdd, Nat.reduceLeDiff, e1, e2, e3, e4, ten_ne, tx35, cv35, tx128, cv128, hF.at, hF.hp, by128 (show (HP H [Blk.row 5 1 [[.int .u8 (48 + (-n) % 10)]] 0 0]).blk H.next = _ by rw [hp_blk0]; rfl) (by omega) (by omega), g]
      refine callStep (ih (by omega) _ q1 q3 q2 _ (hF.hpF _) _ fun s H2 hs hU2 hF2 => ?_)
      have hcat : s.length + 1 ≤ maxBytes := by simp [maxBytes]; omega
      simp (maxSteps := 1000000) only [sx, fx, implies_true, evBuildSlice, fillE, fillA, AV.isCell, here, plain, laid, evOp, avOf, avCell, strOf, evBin, evInt, evStr, evUn, evResults, evResultsL, AV.isUndef, AV.cells, Heap.store, wbool_off, after_scope, Nat.reduceMul, Nat.reducePow, Nat.reduceSub, Nat.reduceBEq, UInt8.reduceToNat, Nat.reduceEqDiff, Nat.reduceLT, reduceCtorEq, Nat.reduceAdd, Nat.reduceLeDiff, hcat]
      exact hK _ _ (by simp; omega) ((hF.hpU _).trans hU2) hF2

theorem f78_ok (n : Int) (h : -9223372036854775808 ≤ n ∧ n ≤ 9223372036854775807) (H : Heap) (hF : Free H) (K : AV → Heap → Prop) (hK : ∀ s H', Up H H' → Free H' → K (.str s) H') : WF Try.prog 78 [.int .i64 n] H K := by
  refine WF_body Try.func78 (by kernel_rfl) rfl Try.ntmps78 (by rw [Try.results78]) (of_decide_eq_true (by kernel_rfl)) ?_
  by_cases h1 : n < 1
  · simp (maxSteps := 1000000) only [sx, fx, implies_true, evBuildSlice, fillE, fillA, AV.isCell, here, plain, laid, evOp, avOf, avCell, strOf, evBin, evInt, evStr, evUn, evResults, evResultsL, AV.isUndef, AV.cells, Heap.store, wbool_off, after_scope, Nat.reduceMul, Nat.reducePow, Nat.reduceSub, Nat.reduceBEq, UInt8.reduceToNat, Nat.reduceEqDiff, Nat.reduceLT, reduceCtorEq, Nat.reduceAdd, Nat.reduceLeDiff, h1]; exact hK _ _ (Up.refl _) hF
  simp (maxSteps := 1000000) only [sx, fx, implies_true, evBuildSlice, fillE, fillA, AV.isCell, here, plain, laid, evOp, avOf, avCell, strOf, evBin, evInt, evStr, evUn, evResults, evResultsL, AV.isUndef, AV.cells, Heap.store, wbool_off, after_scope, Nat.reduceMul, Nat.reducePow, Nat.reduceSub, Nat.reduceBEq, UInt8.reduceToNat, Nat.reduceEqDiff, Nat.reduceLT, reduceCtorEq, Nat.reduceAdd, Nat.reduceLeDiff, h1]
  have g0 : ¬ n < 0 := by omega
  have e1 : IntKind.i64.wrap (0 - n) = -n := by rw [IntWalk.i64_in _ (by omega)]; omega
  have hd : WF Try.prog 92 [.int .i64 n] H fun r H' => ∃ s, r = .str s ∧ s.length ≤ 30 ∧ Up H H' ∧ Free H' := by
    refine WF_body Try.func92 (by kernel_rfl) rfl Try.ntmps92 (by rw [Try.results92]) (of_decide_eq_true (by kernel_rfl)) ?_
    simp (maxSteps := 1000000) only [sx, fx, implies_true, evBuildSlice, fillE, fillA, AV.isCell, here, plain, laid, evOp, avOf, avCell, strOf, evBin, evInt, evStr, evUn, evResults, evResultsL, AV.isUndef, AV.cells, Heap.store, wbool_off, after_scope, Nat.reduceMul, Nat.reducePow, Nat.reduceSub, Nat.reduceBEq, UInt8.reduceToNat, Nat.reduceEqDiff, Nat.reduceLT, reduceCtorEq, Nat.reduceAdd, Nat.reduceLeDiff, g0, e1]
    refine callStep (f97_ok 20 (by omega) (-n) (by omega) (by omega) (by simp; omega) H hF _ fun s H2 hs hU2 hF2 => ?_)
    simp (maxSteps := 1000000) only [sx, fx, implies_true, evBuildSlice, fillE, fillA, AV.isCell, here, plain, laid, evOp, avOf, avCell, strOf, evBin, evInt, evStr, evUn, evResults, evResultsL, AV.isUndef, AV.cells, Heap.store, wbool_off, after_scope, Nat.reduceMul, Nat.reducePow, Nat.reduceSub, Nat.reduceBEq, UInt8.reduceToNat, Nat.reduceEqDiff, Nat.reduceLT, reduceCtorEq, Nat.reduceAdd, Nat.reduceLeDiff]
    exact ⟨s, rfl, by omega, hU2, hF2⟩
  refine callStep (hd.mono fun r H2 ⟨s, e, hs, hU2, hF2⟩ => ?_)
  subst e
  have hcat : 1 + s.length ≤ maxBytes := by simp [maxBytes]; omega
  simp (maxSteps := 1000000) only [sx, fx, implies_true, evBuildSlice, fillE, fillA, AV.isCell, here, plain, laid, evOp, avOf, avCell, strOf, evBin, evInt, evStr, evUn, evResults, evResultsL, AV.isUndef, AV.cells, Heap.store, wbool_off, after_scope, Nat.reduceMul, Nat.reducePow, Nat.reduceSub, Nat.reduceBEq, UInt8.reduceToNat, Nat.reduceEqDiff, Nat.reduceLT, reduceCtorEq, Nat.reduceAdd, Nat.reduceLeDiff, hcat]
  exact hK _ _ hU2 hF2

theorem f54_ok (s : List Nat) (hs : s.length < 2 ^ 60) (H : Heap) (hF : Free H) (K : AV → Heap → Prop) (hK : ∀ n b H', Up H H' → Free H' → K (.tuple [.int .i64 n, .bool b]) H') : WF Try.prog 54 [.str s] H K := by
  refine WF_body Try.func54 (by kernel_rfl) rfl Try.ntmps54 (by rw [Try.results54]) (of_decide_eq_true (by kernel_rfl)) ?_
  simp (maxSteps := 1000000) only [sx, fx, implies_true, evBuildSlice, fillE, fillA, AV.isCell, here, plain, laid, evOp, avOf, avCell, strOf, evBin, evInt, evStr, evUn, evResults, evResultsL, AV.isUndef, AV.cells, Heap.store, wbool_off, after_scope, Nat.reduceMul, Nat.reducePow, Nat.reduceSub, Nat.reduceBEq, UInt8.reduceToNat, Nat.reduceEqDiff, Nat.reduceLT, reduceCtorEq, Nat.reduceAdd, Nat.reduceLeDiff]
  refine loopStepR (fun env H' => H' = H ∧ ∃ (i : Nat) (n : Int), 1 ≤ i ∧ i ≤ s.length + 1 ∧ (-9223372036854775808 ≤ n ∧ n ≤ 9223372036854775807) ∧ env.at (.tmp 5) = .int .i64 i ∧ env.at (.tmp 4) = .int .i64 n ∧ env.at (.tmp 0) = .str s)
    (fun env H' => match env.at (.tmp 5) with | .int _ i => ((s.length : Int) + 1 - i).toNat | _ => 0)
    (fun ex env H' => H' = H ∧ ∃ n : Int, (-9223372036854775808 ≤ n ∧ n ≤ 9223372036854775807) ∧ ex = .exit 0 ∧ env.at (.tmp 4) = .int .i64 n ∧ env.at (.tmp 0) = .str s) ?_ ?_ ?_
  · exact ⟨rfl, 1, 0, by omega, by omega, by omega, by simp only [sx, fx, implies_true, evBuildSlice, fillE, fillA, AV.isCell, here, plain, laid, evOp, avOf, avCell, strOf, evBin, evInt, evStr, evUn, evResults, evResultsL, AV.isUndef, AV.cells, Heap.store, wbool_off, after_scope, Nat.reduceMul, Nat.reducePow, Nat.reduceSub, Nat.reduceBEq, UInt8.reduceToNat, Nat.reduceEqDiff, Nat.reduceLT, reduceCtorEq, Nat.reduceAdd, Nat.reduceLeDiff]; rfl, by simp only [sx, fx, implies_true, evBuildSlice, fillE, fillA, AV.isCell, here, plain, laid, evOp, avOf, avCell, strOf, evBin, evInt, evStr, evUn, evResults, evResultsL, AV.isUndef, AV.cells, Heap.store, wbool_off, after_scope, Nat.reduceMul, Nat.reducePow, Nat.reduceSub, Nat.reduceBEq, UInt8.reduceToNat, Nat.reduceEqDiff, Nat.reduceLT, reduceCtorEq, Nat.reduceAdd, Nat.reduceLeDiff], by simp only [sx, fx, implies_true, evBuildSlice, fillE, fillA, AV.isCell, here, plain, laid, evOp, avOf, avCell, strOf, evBin, evInt, evStr, evUn, evResults, evResultsL, AV.isUndef, AV.cells, Heap.store, wbool_off, after_scope, Nat.reduceMul, Nat.reducePow, Nat.reduceSub, Nat.reduceBEq, UInt8.reduceToNat, Nat.reduceEqDiff, Nat.reduceLT, reduceCtorEq, Nat.reduceAdd, Nat.reduceLeDiff]⟩
  · rintro env H' ⟨rfl, i, n, h1, hi, hn, e5, e4, e0⟩
    by_cases hlt : i < s.length
    · obtain ⟨c, hc⟩ : ∃ c, s[i]? = some c := ⟨_, List.getElem?_eq_getElem hlt⟩
      by_cases h20 : (s.length : Int) ≤ 20
      · simp (maxSteps := 1000000) only [sx, fx, implies_true, evBuildSlice, fillE, fillA, AV.isCell, here, plain, laid, evOp, avOf, avCell, strOf, evBin, evInt, evStr, evUn, evResults, evResultsL, AV.isUndef, AV.cells, Heap.store, wbool_off, after_scope, Nat.reduceMul, Nat.reducePow, Nat.reduceSub, Nat.reduceBEq, UInt8.reduceToNat, Nat.reduceEqDiff, Nat.reduceLT, reduceCtorEq, Nat.reduceAdd, Nat.reduceLeDiff, e5, e4, e0, ln9, lt_true hlt, h20, idx9 hc, tx53, cv53, wrap_succ (i := i) (by omega)]
        refine ⟨⟨i + 1, _, by omega, by omega, wrap_bounds _, rfl, rfl⟩, ?_⟩
        omega
      · simp (maxSteps := 1000000) only [sx, fx, implies_true, evBuildSlice, fillE, fillA, AV.isCell, here, plain, laid, evOp, avOf, avCell, strOf, evBin, evInt, evStr, evUn, evResults, evResultsL, AV.isUndef, AV.cells, Heap.store, wbool_off, after_scope, Nat.reduceMul, Nat.reducePow, Nat.reduceSub, Nat.reduceBEq, UInt8.reduceToNat, Nat.reduceEqDiff, Nat.reduceLT, reduceCtorEq, Nat.reduceAdd, Nat.reduceLeDiff, e5, e4, e0, ln9, lt_true hlt, h20]
        exact ⟨n, hn, rfl⟩
    · simp (maxSteps := 1000000) only [sx, fx, implies_true, evBuildSlice, fillE, fillA, AV.isCell, here, plain, laid, evOp, avOf, avCell, strOf, evBin, evInt, evStr, evUn, evResults, evResultsL, AV.isUndef, AV.cells, Heap.store, wbool_off, after_scope, Nat.reduceMul, Nat.reducePow, Nat.reduceSub, Nat.reduceBEq, UInt8.reduceToNat, Nat.reduceEqDiff, Nat.reduceLT, reduceCtorEq, Nat.reduceAdd, Nat.reduceLeDiff, e5, e4, e0, ln9, lt_false hlt]
      exact ⟨n, hn, rfl⟩
  · rintro ex env G ⟨rfl, n, hn, rfl, e4, e0⟩
    by_cases g1 : n < 1
    · simp (maxSteps := 1000000) only [sx, fx, implies_true, evBuildSlice, fillE, fillA, AV.isCell, here, plain, laid, evOp, avOf, avCell, strOf, evBin, evInt, evStr, evUn, evResults, evResultsL, AV.isUndef, AV.cells, Heap.store, wbool_off, after_scope, Nat.reduceMul, Nat.reducePow, Nat.reduceSub, Nat.reduceBEq, UInt8.reduceToNat, Nat.reduceEqDiff, Nat.reduceLT, reduceCtorEq, Nat.reduceAdd, Nat.reduceLeDiff, e4, e0, g1]; exact hK _ _ _ (Up.refl _) hF
    simp (maxSteps := 1000000) only [sx, fx, implies_true, evBuildSlice, fillE, fillA, AV.isCell, here, plain, laid, evOp, avOf, avCell, strOf, evBin, evInt, evStr, evUn, evResults, evResultsL, AV.isUndef, AV.cells, Heap.store, wbool_off, after_scope, Nat.reduceMul, Nat.reducePow, Nat.reduceSub, Nat.reduceBEq, UInt8.reduceToNat, Nat.reduceEqDiff, Nat.reduceLT, reduceCtorEq, Nat.reduceAdd, Nat.reduceLeDiff, e4, e0, g1]
    refine callStep (f78_ok n hn G hF _ fun t H2 hU2 hF2 => ?_)
    generalize hx : (!(t == s)) = x
    cases x <;> simp (maxSteps := 1000000) only [sx, fx, implies_true, evBuildSlice, fillE, fillA, AV.isCell, here, plain, laid, evOp, avOf, avCell, strOf, evBin, evInt, evStr, evUn, evResults, evResultsL, AV.isUndef, AV.cells, Heap.store, wbool_off, after_scope, Nat.reduceMul, Nat.reducePow, Nat.reduceSub, Nat.reduceBEq, UInt8.reduceToNat, Nat.reduceEqDiff, Nat.reduceLT, reduceCtorEq, Nat.reduceAdd, Nat.reduceLeDiff, e4, e0, hx] <;> exact hK _ _ _ hU2 hF2
end Go.Proofs.T
