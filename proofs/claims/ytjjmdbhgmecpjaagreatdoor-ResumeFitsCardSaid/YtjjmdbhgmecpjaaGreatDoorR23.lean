import Derived.Test.YtjjmdbhgmecpjaaGreatDoorR1
set_option linter.unusedVariables false
set_option linter.unusedSimpArgs false
set_option maxRecDepth 100000
namespace Go.Proofs.T
open Go.Ev
def cmds : List Int := [7, 12, 14, 16, 19, 23, 18, 27, 28, 29, 30, 31, 32, 35]
def cmdOf (k : Int) : Int := if k = 7 then 1 else if k = 12 then 2 else if k = 14 then 3 else if k = 16 then 4 else if k = 19 then 5 else if k = 23 then 6 else if k = 18 then 7 else if k = 27 then 8 else if k = 28 then 9 else if k = 29 then 10 else if k = 30 then 11 else if k = 31 then 12 else if k = 32 then 13 else if k = 35 then 14 else 0
theorem cmdOf_mem : ∀ {k : Int}, k ∉ cmds → cmdOf k = 0 := fun {k} h => by
  simp only [cmds, List.mem_cons, List.not_mem_nil, or_false, not_or] at h
  obtain ⟨h7, h12, h14, h16, h19, h23, h18, h27, h28, h29, h30, h31, h32, h35⟩ := h
  simp only [cmdOf, if_neg h7, if_neg h12, if_neg h14, if_neg h16, if_neg h19, if_neg h23, if_neg h18, if_neg h27, if_neg h28, if_neg h29, if_neg h30, if_neg h31, if_neg h32, if_neg h35]
theorem cmdOf_at : ∀ (i : Nat) (c : Int), cmds[i]? = some c → cmdOf c = (i : Int) + 1 := by
  have h : ∀ i : Fin 14, cmdOf (cmds.getD i.val 0) = (i.val : Int) + 1 := by decide
  intro i c hc
  have hlt : i < 14 := (List.getElem?_eq_some_iff.1 hc).1
  have := h ⟨i, hlt⟩
  rw [List.getD_eq_getElem?_getD, hc] at this
  exact this
theorem cmdOf_nn (k : Int) : 0 ≤ cmdOf k := by
  by_cases h : k ∈ cmds
  · obtain ⟨i, hi⟩ := List.getElem?_of_mem h
    rw [cmdOf_at i k hi]; omega
  · rw [cmdOf_mem h]; omega
def isC (k : Int) : Bool := cmdOf k != 0
theorem isC_gt (k : Int) : decide (cmdOf k > 0) = isC k := by
  have := cmdOf_nn k
  unfold isC
  by_cases h : cmdOf k = 0
  · simp [h]
  · rw [decide_eq_true (by omega)]; simp [h]

theorem f26_ok (k : Int) (H : Heap) (K : AV → Heap → Prop) (hK : K (.int .i64 (cmdOf k)) H) : WF Tryz.prog 26 [.int .i64 k] H K := by
  refine WF_body Tryz.func26 (by kernel_rfl) rfl Tryz.ntmps26 (by rw [Tryz.results26]) (of_decide_eq_true (by kernel_rfl)) ?_
  by_cases h7 : k = 7
  · subst h7
    simp (maxSteps := 1000000) only [sx, fx, implies_true, evBuildSlice, fillE, fillA, Nat.reduceMul, Nat.reducePow, AV.isCell, Nat.reduceSub, here, plain, laid, Nat.reduceBEq, evOp, avOf, avCell, strOf, UInt8.reduceToNat, evBin, evInt, evStr, evUn, Nat.reduceEqDiff, Nat.reduceLT, evResults, evResultsL, reduceCtorEq, AV.isUndef, AV.cells, Nat.reduceAdd, Heap.store, Nat.reduceLeDiff, wbool_off, after_scope, Int.reduceBEq]
    exact hK
  have g7 : (k == 7) = false := by simpa using h7
  by_cases h12 : k = 12
  · subst h12
    simp (maxSteps := 1000000) only [sx, fx, implies_true, evBuildSlice, fillE, fillA, Nat.reduceMul, Nat.reducePow, AV.isCell, Nat.reduceSub, here, plain, laid, Nat.reduceBEq, evOp, avOf, avCell, strOf, UInt8.reduceToNat, evBin, evInt, evStr, evUn, Nat.reduceEqDiff, Nat.reduceLT, evResults, evResultsL, reduceCtorEq, AV.isUndef, AV.cells, Nat.reduceAdd, Heap.store, Nat.reduceLeDiff, wbool_off, after_scope, Int.reduceBEq]
    exact hK
  have g12 : (k == 12) = false := by simpa using h12
  by_cases h14 : k = 14
  · subst h14
    simp (maxSteps := 1000000) only [sx, fx, implies_true, evBuildSlice, fillE, fillA, Nat.reduceMul, Nat.reducePow, AV.isCell, Nat.reduceSub, here, plain, laid, Nat.reduceBEq, evOp, avOf, avCell, strOf, UInt8.reduceToNat, evBin, evInt, evStr, evUn, Nat.reduceEqDiff, Nat.reduceLT, evResults, evResultsL, reduceCtorEq, AV.isUndef, AV.cells, Nat.reduceAdd, Heap.store, Nat.reduceLeDiff, wbool_off, after_scope, Int.reduceBEq]
    exact hK
  have g14 : (k == 14) = false := by simpa using h14
  by_cases h16 : k = 16
  · subst h16
    simp (maxSteps := 1000000) only [sx, fx, implies_true, evBuildSlice, fillE, fillA, Nat.reduceMul, Nat.reducePow, AV.isCell, Nat.reduceSub, here, plain, laid, Nat.reduceBEq, evOp, avOf, avCell, strOf, UInt8.reduceToNat, evBin, evInt, evStr, evUn, Nat.reduceEqDiff, Nat.reduceLT, evResults, evResultsL, reduceCtorEq, AV.isUndef, AV.cells, Nat.reduceAdd, Heap.store, Nat.reduceLeDiff, wbool_off, after_scope, Int.reduceBEq]
    exact hK
  have g16 : (k == 16) = false := by simpa using h16
  by_cases h19 : k = 19
  · subst h19
    simp (maxSteps := 1000000) only [sx, fx, implies_true, evBuildSlice, fillE, fillA, Nat.reduceMul, Nat.reducePow, AV.isCell, Nat.reduceSub, here, plain, laid, Nat.reduceBEq, evOp, avOf, avCell, strOf, UInt8.reduceToNat, evBin, evInt, evStr, evUn, Nat.reduceEqDiff, Nat.reduceLT, evResults, evResultsL, reduceCtorEq, AV.isUndef, AV.cells, Nat.reduceAdd, Heap.store, Nat.reduceLeDiff, wbool_off, after_scope, Int.reduceBEq]
    exact hK
  have g19 : (k == 19) = false := by simpa using h19
  by_cases h23 : k = 23
  · subst h23
    simp (maxSteps := 1000000) only [sx, fx, implies_true, evBuildSlice, fillE, fillA, Nat.reduceMul, Nat.reducePow, AV.isCell, Nat.reduceSub, here, plain, laid, Nat.reduceBEq, evOp, avOf, avCell, strOf, UInt8.reduceToNat, evBin, evInt, evStr, evUn, Nat.reduceEqDiff, Nat.reduceLT, evResults, evResultsL, reduceCtorEq, AV.isUndef, AV.cells, Nat.reduceAdd, Heap.store, Nat.reduceLeDiff, wbool_off, after_scope, Int.reduceBEq]
    exact hK
  have g23 : (k == 23) = false := by simpa using h23
  by_cases h18 : k = 18
  · subst h18
    simp (maxSteps := 1000000) only [sx, fx, implies_true, evBuildSlice, fillE, fillA, Nat.reduceMul, Nat.reducePow, AV.isCell, Nat.reduceSub, here, plain, laid, Nat.reduceBEq, evOp, avOf, avCell, strOf, UInt8.reduceToNat, evBin, evInt, evStr, evUn, Nat.reduceEqDiff, Nat.reduceLT, evResults, evResultsL, reduceCtorEq, AV.isUndef, AV.cells, Nat.reduceAdd, Heap.store, Nat.reduceLeDiff, wbool_off, after_scope, Int.reduceBEq]
    exact hK
  have g18 : (k == 18) = false := by simpa using h18
  by_cases h27 : k = 27
  · subst h27
    simp (maxSteps := 1000000) only [sx, fx, implies_true, evBuildSlice, fillE, fillA, Nat.reduceMul, Nat.reducePow, AV.isCell, Nat.reduceSub, here, plain, laid, Nat.reduceBEq, evOp, avOf, avCell, strOf, UInt8.reduceToNat, evBin, evInt, evStr, evUn, Nat.reduceEqDiff, Nat.reduceLT, evResults, evResultsL, reduceCtorEq, AV.isUndef, AV.cells, Nat.reduceAdd, Heap.store, Nat.reduceLeDiff, wbool_off, after_scope, Int.reduceBEq]
    exact hK
  have g27 : (k == 27) = false := by simpa using h27
  by_cases h28 : k = 28
  · subst h28
    simp (maxSteps := 1000000) only [sx, fx, implies_true, evBuildSlice, fillE, fillA, Nat.reduceMul, Nat.reducePow, AV.isCell, Nat.reduceSub, here, plain, laid, Nat.reduceBEq, evOp, avOf, avCell, strOf, UInt8.reduceToNat, evBin, evInt, evStr, evUn, Nat.reduceEqDiff, Nat.reduceLT, evResults, evResultsL, reduceCtorEq, AV.isUndef, AV.cells, Nat.reduceAdd, Heap.store, Nat.reduceLeDiff, wbool_off, after_scope, Int.reduceBEq]
    exact hK
  have g28 : (k == 28) = false := by simpa using h28
  by_cases h29 : k = 29
  · subst h29
    simp (maxSteps := 1000000) only [sx, fx, implies_true, evBuildSlice, fillE, fillA, Nat.reduceMul, Nat.reducePow, AV.isCell, Nat.reduceSub, here, plain, laid, Nat.reduceBEq, evOp, avOf, avCell, strOf, UInt8.reduceToNat, evBin, evInt, evStr, evUn, Nat.reduceEqDiff, Nat.reduceLT, evResults, evResultsL, reduceCtorEq, AV.isUndef, AV.cells, Nat.reduceAdd, Heap.store, Nat.reduceLeDiff, wbool_off, after_scope, Int.reduceBEq]
    exact hK
  have g29 : (k == 29) = false := by simpa using h29
  by_cases h30 : k = 30
  · subst h30
    simp (maxSteps := 1000000) only [sx, fx, implies_true, evBuildSlice, fillE, fillA, Nat.reduceMul, Nat.reducePow, AV.isCell, Nat.reduceSub, here, plain, laid, Nat.reduceBEq, evOp, avOf, avCell, strOf, UInt8.reduceToNat, evBin, evInt, evStr, evUn, Nat.reduceEqDiff, Nat.reduceLT, evResults, evResultsL, reduceCtorEq, AV.isUndef, AV.cells, Nat.reduceAdd, Heap.store, Nat.reduceLeDiff, wbool_off, after_scope, Int.reduceBEq]
    exact hK
  have g30 : (k == 30) = false := by simpa using h30
  by_cases h31 : k = 31
  · subst h31
    simp (maxSteps := 1000000) only [sx, fx, implies_true, evBuildSlice, fillE, fillA, Nat.reduceMul, Nat.reducePow, AV.isCell, Nat.reduceSub, here, plain, laid, Nat.reduceBEq, evOp, avOf, avCell, strOf, UInt8.reduceToNat, evBin, evInt, evStr, evUn, Nat.reduceEqDiff, Nat.reduceLT, evResults, evResultsL, reduceCtorEq, AV.isUndef, AV.cells, Nat.reduceAdd, Heap.store, Nat.reduceLeDiff, wbool_off, after_scope, Int.reduceBEq]
    exact hK
  have g31 : (k == 31) = false := by simpa using h31
  by_cases h32 : k = 32
  · subst h32
    simp (maxSteps := 1000000) only [sx, fx, implies_true, evBuildSlice, fillE, fillA, Nat.reduceMul, Nat.reducePow, AV.isCell, Nat.reduceSub, here, plain, laid, Nat.reduceBEq, evOp, avOf, avCell, strOf, UInt8.reduceToNat, evBin, evInt, evStr, evUn, Nat.reduceEqDiff, Nat.reduceLT, evResults, evResultsL, reduceCtorEq, AV.isUndef, AV.cells, Nat.reduceAdd, Heap.store, Nat.reduceLeDiff, wbool_off, after_scope, Int.reduceBEq]
    exact hK
  have g32 : (k == 32) = false := by simpa using h32
  by_cases h35 : k = 35
  · subst h35
    simp (maxSteps := 1000000) only [sx, fx, implies_true, evBuildSlice, fillE, fillA, Nat.reduceMul, Nat.reducePow, AV.isCell, Nat.reduceSub, here, plain, laid, Nat.reduceBEq, evOp, avOf, avCell, strOf, UInt8.reduceToNat, evBin, evInt, evStr, evUn, Nat.reduceEqDiff, Nat.reduceLT, evResults, evResultsL, reduceCtorEq, AV.isUndef, AV.cells, Nat.reduceAdd, Heap.store, Nat.reduceLeDiff, wbool_off, after_scope, Int.reduceBEq]
    exact hK
  have g35 : (k == 35) = false := by simpa using h35
  simp (maxSteps := 1000000) only [sx, fx, implies_true, evBuildSlice, fillE, fillA, Nat.reduceMul, Nat.reducePow, AV.isCell, Nat.reduceSub, here, plain, laid, Nat.reduceBEq, evOp, avOf, avCell, strOf, UInt8.reduceToNat, evBin, evInt, evStr, evUn, Nat.reduceEqDiff, Nat.reduceLT, evResults, evResultsL, reduceCtorEq, AV.isUndef, AV.cells, Nat.reduceAdd, Heap.store, Nat.reduceLeDiff, wbool_off, after_scope, g7, g12, g14, g16, g19, g23, g18, g27, g28, g29, g30, g31, g32, g35]
  rw [cmdOf_mem (by simp [cmds, h7, h12, h14, h16, h19, h23, h18, h27, h28, h29, h30, h31, h32, h35])] at hK
  exact hK
theorem f14_ok (k : Int) (H : Heap) (K : AV → Heap → Prop) (hK : K (.bool (isC k)) H) : WF Tryz.prog 14 [.int .i64 k] H K := by
  refine WF_body Tryz.func14 (by kernel_rfl) rfl Tryz.ntmps14 (by rw [Tryz.results14]) (of_decide_eq_true (by kernel_rfl)) ?_
  simp (maxSteps := 1000000) only [sx, fx, implies_true, evBuildSlice, fillE, fillA, Nat.reduceMul, Nat.reducePow, AV.isCell, Nat.reduceSub, here, plain, laid, Nat.reduceBEq, evOp, avOf, avCell, strOf, UInt8.reduceToNat, evBin, evInt, evStr, evUn, Nat.reduceEqDiff, Nat.reduceLT, evResults, evResultsL, reduceCtorEq, AV.isUndef, AV.cells, Nat.reduceAdd, Heap.store, Nat.reduceLeDiff, wbool_off, after_scope]
  refine callStep (f26_ok k H _ ?_)
  simp (maxSteps := 1000000) only [sx, fx, implies_true, evBuildSlice, fillE, fillA, Nat.reduceMul, Nat.reducePow, AV.isCell, Nat.reduceSub, here, plain, laid, Nat.reduceBEq, evOp, avOf, avCell, strOf, UInt8.reduceToNat, evBin, evInt, evStr, evUn, Nat.reduceEqDiff, Nat.reduceLT, evResults, evResultsL, reduceCtorEq, AV.isUndef, AV.cells, Nat.reduceAdd, Heap.store, Nat.reduceLeDiff, wbool_off, after_scope]
  exact hK
theorem f15_ok (k : Int) (H : Heap) (K : AV → Heap → Prop) (hK : K (.bool (k == 4 || isC k)) H) : WF Tryz.prog 15 [.int .i64 k] H K := by
  refine WF_body Tryz.func15 (by kernel_rfl) rfl Tryz.ntmps15 (by rw [Tryz.results15]) (of_decide_eq_true (by kernel_rfl)) ?_
  by_cases h : k = 4
  · subst h
    simp (maxSteps := 1000000) only [sx, fx, implies_true, evBuildSlice, fillE, fillA, Nat.reduceMul, Nat.reducePow, AV.isCell, Nat.reduceSub, here, plain, laid, Nat.reduceBEq, evOp, avOf, avCell, strOf, UInt8.reduceToNat, evBin, evInt, evStr, evUn, Nat.reduceEqDiff, Nat.reduceLT, evResults, evResultsL, reduceCtorEq, AV.isUndef, AV.cells, Nat.reduceAdd, Heap.store, Nat.reduceLeDiff, wbool_off, after_scope, Int.reduceBEq]
    exact hK
  · have g : (k == 4) = false := by simpa using h
    rw [g, Bool.false_or] at hK
    simp (maxSteps := 1000000) only [sx, fx, implies_true, evBuildSlice, fillE, fillA, Nat.reduceMul, Nat.reducePow, AV.isCell, Nat.reduceSub, here, plain, laid, Nat.reduceBEq, evOp, avOf, avCell, strOf, UInt8.reduceToNat, evBin, evInt, evStr, evUn, Nat.reduceEqDiff, Nat.reduceLT, evResults, evResultsL, reduceCtorEq, AV.isUndef, AV.cells, Nat.reduceAdd, Heap.store, Nat.reduceLeDiff, wbool_off, after_scope, g]
    refine callStep (f14_ok k H _ ?_)
    simp (maxSteps := 1000000) only [sx, fx, implies_true, evBuildSlice, fillE, fillA, Nat.reduceMul, Nat.reducePow, AV.isCell, Nat.reduceSub, here, plain, laid, Nat.reduceBEq, evOp, avOf, avCell, strOf, UInt8.reduceToNat, evBin, evInt, evStr, evUn, Nat.reduceEqDiff, Nat.reduceLT, evResults, evResultsL, reduceCtorEq, AV.isUndef, AV.cells, Nat.reduceAdd, Heap.store, Nat.reduceLeDiff, wbool_off, after_scope]
    exact hK
theorem f40_ok (H : Heap) (hF : Free H) (K : AV → Heap → Prop) (hK : K (.slice H.next 0 14 14 true 0) (HP H [.row 3 1 (cmds.map fun c => [.int .i64 c]) 0 0])) : WF Tryz.prog 40 [] H K := by
  refine WF_body Tryz.func40 (by kernel_rfl) rfl Tryz.ntmps40 (by rw [Tryz.results40]) (of_decide_eq_true (by kernel_rfl)) ?_
  simp (maxSteps := 1000000) only [sx, fx, implies_true, evBuildSlice, fillE, fillA, Nat.reduceMul, Nat.reducePow, AV.isCell, Nat.reduceSub, here, plain, laid, Nat.reduceBEq, evOp, avOf, avCell, strOf, UInt8.reduceToNat, evBin, evInt, evStr, evUn, Nat.reduceEqDiff, Nat.reduceLT, evResults, evResultsL, reduceCtorEq, AV.isUndef, AV.cells, Nat.reduceAdd, Heap.store, Nat.reduceLeDiff, wbool_off, after_scope, hF.at, hF.hp]
  exact hK
theorem f27_ok (k : Int) (H : Heap) (hF : Free H) (K : AV → Heap → Prop) (hK : ∀ H', Up H H' → Free H' → K (.int .i64 (cmdOf k)) H') : WF Tryz.prog 27 [.int .i64 k] H K := by
  refine WF_body Tryz.func27 (by kernel_rfl) rfl Tryz.ntmps27 (by rw [Tryz.results27]) (of_decide_eq_true (by kernel_rfl)) ?_
  simp (maxSteps := 1000000) only [sx, fx, implies_true, evBuildSlice, fillE, fillA, Nat.reduceMul, Nat.reducePow, AV.isCell, Nat.reduceSub, here, plain, laid, Nat.reduceBEq, evOp, avOf, avCell, strOf, UInt8.reduceToNat, evBin, evInt, evStr, evUn, Nat.reduceEqDiff, Nat.reduceLT, evResults, evResultsL, reduceCtorEq, AV.isUndef, AV.cells, Nat.reduceAdd, Heap.store, Nat.reduceLeDiff, wbool_off, after_scope]
  refine callStep (f40_ok H hF _ ?_)
  simp (maxSteps := 1000000) only [sx, fx, implies_true, evBuildSlice, fillE, fillA, Nat.reduceMul, Nat.reducePow, AV.isCell, Nat.reduceSub, here, plain, laid, Nat.reduceBEq, evOp, avOf, avCell, strOf, UInt8.reduceToNat, evBin, evInt, evStr, evUn, Nat.reduceEqDiff, Nat.reduceLT, evResults, evResultsL, reduceCtorEq, AV.isUndef, AV.cells, Nat.reduceAdd, Heap.store, Nat.reduceLeDiff, wbool_off, after_scope]
  generalize hH1 : HP H [Blk.row 3 1 (cmds.map fun c => [.int .i64 c]) 0 0] = H1
  have hF1 : Free H1 := hH1 ▸ hF.hpF _
  have hU1 : Up H H1 := hH1 ▸ hF.hpU _
  have hv : Holds H1 1 (.slice H.next 0 14 14 true 0) (cmds.map fun c => [.int .i64 c]) := by
    rw [← hH1]
    exact holds_hp (k := 0) (n := 14) (c := 14) rfl rfl (Nat.le_refl _) (by intro cs hc; obtain ⟨c, _, rfl⟩ := List.mem_map.1 hc; rfl)
  refine loopStep' (fun env H' => H' = H1 ∧ ∃ (i : Nat), i ≤ 14 ∧ env.at (.tmp 4) = .int .i64 i ∧ env.at (.tmp 3) = .slice H.next 0 14 14 true 0 ∧ env.at (.tmp 0) = .int .i64 k ∧ ∀ c ∈ cmds.take i, c ≠ k)
    (fun env H' => match env.at (.tmp 4) with | .int _ i => (14 - i).toNat | _ => 0) ?_ ?_
  · exact ⟨rfl, 0, Nat.zero_le _, by simp only [sx, fx, implies_true, evBuildSlice, fillE, fillA, Nat.reduceMul, Nat.reducePow, AV.isCell, Nat.reduceSub, here, plain, laid, Nat.reduceBEq, evOp, avOf, avCell, strOf, UInt8.reduceToNat, evBin, evInt, evStr, evUn, Nat.reduceEqDiff, Nat.reduceLT, evResults, evResultsL, reduceCtorEq, AV.isUndef, AV.cells, Nat.reduceAdd, Heap.store, Nat.reduceLeDiff, wbool_off, after_scope]; rfl, by simp only [sx, fx, implies_true, evBuildSlice, fillE, fillA, Nat.reduceMul, Nat.reducePow, AV.isCell, Nat.reduceSub, here, plain, laid, Nat.reduceBEq, evOp, avOf, avCell, strOf, UInt8.reduceToNat, evBin, evInt, evStr, evUn, Nat.reduceEqDiff, Nat.reduceLT, evResults, evResultsL, reduceCtorEq, AV.isUndef, AV.cells, Nat.reduceAdd, Heap.store, Nat.reduceLeDiff, wbool_off, after_scope], by simp only [sx, fx, implies_true, evBuildSlice, fillE, fillA, Nat.reduceMul, Nat.reducePow, AV.isCell, Nat.reduceSub, here, plain, laid, Nat.reduceBEq, evOp, avOf, avCell, strOf, UInt8.reduceToNat, evBin, evInt, evStr, evUn, Nat.reduceEqDiff, Nat.reduceLT, evResults, evResultsL, reduceCtorEq, AV.isUndef, AV.cells, Nat.reduceAdd, Heap.store, Nat.reduceLeDiff, wbool_off, after_scope], by simp⟩
  · rintro env H' ⟨rfl, i, hi, e4, e3, e0, hn⟩
    by_cases hlt : i < 14
    · obtain ⟨c, hc⟩ : ∃ c, cmds[i]? = some c := ⟨_, List.getElem?_eq_getElem hlt⟩
      have hcm : (cmds.map fun c => [AV.int .i64 c])[i]? = some [.int .i64 c] := by simp [hc]
      obtain ⟨p, hp, hload, _⟩ := hv.index und101 sz3 .i64 hcm
      by_cases hck : c = k
      · subst hck
        have hco := cmdOf_at i c hc
        simp (maxSteps := 1000000) only [sx, fx, implies_true, evBuildSlice, fillE, fillA, Nat.reduceMul, Nat.reducePow, AV.isCell, Nat.reduceSub, here, plain, laid, Nat.reduceBEq, evOp, avOf, avCell, strOf, UInt8.reduceToNat, evBin, evInt, evStr, evUn, Nat.reduceEqDiff, Nat.reduceLT, evResults, evResultsL, reduceCtorEq, AV.isUndef, AV.cells, Nat.reduceAdd, Heap.store, Nat.reduceLeDiff, wbool_off, after_scope, e4, e3, e0, hv.lenAt und101, lt_true (n := 14) hlt, hp, hload H' (Up.refl _), List.length_map, show cmds.length = 14 from rfl, beq_self_eq_true, wrap_succ (i := i) (by omega)]
        rw [hco] at hK
        exact hK _ hU1 hF1
      · have g : (c == k) = false := by simpa using hck
        simp (maxSteps := 1000000) only [sx, fx, implies_true, evBuildSlice, fillE, fillA, Nat.reduceMul, Nat.reducePow, AV.isCell, Nat.reduceSub, here, plain, laid, Nat.reduceBEq, evOp, avOf, avCell, strOf, UInt8.reduceToNat, evBin, evInt, evStr, evUn, Nat.reduceEqDiff, Nat.reduceLT, evResults, evResultsL, reduceCtorEq, AV.isUndef, AV.cells, Nat.reduceAdd, Heap.store, Nat.reduceLeDiff, wbool_off, after_scope, e4, e3, e0, hv.lenAt und101, lt_true (n := 14) hlt, hp, hload H' (Up.refl _), List.length_map, show cmds.length = 14 from rfl, g, wrap_succ (i := i) (by omega)]
        refine ⟨⟨i + 1, by omega, rfl, fun x hx => ?_⟩, by omega⟩
        rw [List.take_add_one, hc] at hx
        rcases List.mem_append.1 hx with hx | hx
        · exact hn x hx
        · simp at hx; rw [hx]; exact hck
    · obtain rfl : i = 14 := by omega
      simp (maxSteps := 1000000) only [sx, fx, implies_true, evBuildSlice, fillE, fillA, Nat.reduceMul, Nat.reducePow, AV.isCell, Nat.reduceSub, here, plain, laid, Nat.reduceBEq, evOp, avOf, avCell, strOf, UInt8.reduceToNat, evBin, evInt, evStr, evUn, Nat.reduceEqDiff, Nat.reduceLT, evResults, evResultsL, reduceCtorEq, AV.isUndef, AV.cells, Nat.reduceAdd, Heap.store, Nat.reduceLeDiff, wbool_off, after_scope, e4, e3, e0, hv.lenAt und101, lt_false (n := 14) hlt, List.length_map, show cmds.length = 14 from rfl]
      rw [cmdOf_mem (fun hm => hn k (by rw [List.take_of_length_le (by decide)]; exact hm) rfl)] at hK
      exact hK _ hU1 hF1
theorem f16_ok (k : Int) (H : Heap) (hF : Free H) (K : AV → Heap → Prop) (hK : ∀ H', Up H H' → Free H' → K (.bool (isC k)) H') : WF Tryz.prog 16 [.int .i64 k] H K := by
  refine WF_body Tryz.func16 (by kernel_rfl) rfl Tryz.ntmps16 (by rw [Tryz.results16]) (of_decide_eq_true (by kernel_rfl)) ?_
  simp (maxSteps := 1000000) only [sx, fx, implies_true, evBuildSlice, fillE, fillA, Nat.reduceMul, Nat.reducePow, AV.isCell, Nat.reduceSub, here, plain, laid, Nat.reduceBEq, evOp, avOf, avCell, strOf, UInt8.reduceToNat, evBin, evInt, evStr, evUn, Nat.reduceEqDiff, Nat.reduceLT, evResults, evResultsL, reduceCtorEq, AV.isUndef, AV.cells, Nat.reduceAdd, Heap.store, Nat.reduceLeDiff, wbool_off, after_scope]
  refine callStep (f27_ok k H hF _ fun H' hU hF' => ?_)
  simp (maxSteps := 1000000) only [sx, fx, implies_true, evBuildSlice, fillE, fillA, Nat.reduceMul, Nat.reducePow, AV.isCell, Nat.reduceSub, here, plain, laid, Nat.reduceBEq, evOp, avOf, avCell, strOf, UInt8.reduceToNat, evBin, evInt, evStr, evUn, Nat.reduceEqDiff, Nat.reduceLT, evResults, evResultsL, reduceCtorEq, AV.isUndef, AV.cells, Nat.reduceAdd, Heap.store, Nat.reduceLeDiff, wbool_off, after_scope, isC_gt]
  exact hK H' hU hF'
end Go.Proofs.T
set_option linter.unusedVariables false
set_option linter.unusedSimpArgs false
set_option maxRecDepth 100000
namespace Go.Proofs.T
open Go.Ev
theorem lst_of {esz : Nat} {v : AV} {L : List (List AV)} (h : ∀ H, Holds H esz v L) : (L = [] ∧ (v = .nilslice ∨ v = .eslice)) ∨ v = .lst esz L := by
  obtain ⟨h0, h1 | h1 | ⟨b, off, cap, ex, g, ty, els, gen, wgen, rfl, h2, h3⟩⟩ := h ⟨fun _ => none, 0⟩
  · exact .inl h1
  · exact .inr h1
  · cases h2
theorem lst_at {esz : Nat} {v : AV} {L : List (List AV)} (h : ∀ H, Holds H esz v L) {i : Nat} {cs : List AV} (hi : L[i]? = some cs) : v = .lst esz L := by
  rcases lst_of h with ⟨rfl, _⟩ | h
  · simp at hi
  · exact h
theorem idx22 {v : AV} {L : List (List AV)} (h : ∀ H, Holds H 24 v L) {i : Nat} {cs : List AV} (hi : L[i]? = some cs) (H : Heap) : evIndexAddr Tryz.prog H 22 v (.int .i64 i) = some (.iptr cs 0) := by
  rw [lst_at h hi]
  simp [evIndexAddr, und22, sz46, hi]

/-- An event's kind. -/
def kd (cs : List AV) : Int := match cs with | _ :: .int _ k :: _ => k | _ => 0
def Kd (L : List (List AV)) : Prop := ∀ cs ∈ L, (cs.drop 1).take 1 = [.int .i64 (kd cs)] ∧ cs.length = 24
def fitsM (m : Nat) (lv : Bool) (L : List (List AV)) : Bool :=
  if m = L.length then !lv else
  if lv = true then kd (L.getD (m - 1) []) == 3 && kd (L.getD m []) == 4
  else if kd (L.getD (m - 1) []) == 3 then kd (L.getD m []) != 4
  else !isC (kd (L.getD m [])) || !(kd (L.getD (m - 1) []) == 4 || isC (kd (L.getD (m - 1) [])))
def fits (dn : Int) (lv : Bool) (L : List (List AV)) : Bool :=
  if dn < 1 then false else if dn > L.length then false else fitsM dn.toNat lv L

theorem f6_ok {pc : List AV} {dn : Int} {lv : Bool} (hl : pc.length = 17) (h15 : (pc.drop 15).take 1 = [.int .i64 dn]) (h16 : (pc.drop 16).take 1 = [.bool lv]) {v : AV} {L : List (List AV)} (hv : ∀ H, Holds H 24 v L) (hL : Kd L) (hn : L.length < 2 ^ 60)
    (H : Heap) (hF : Free H) (K : AV → Heap → Prop) (hK : ∀ H', Up H H' → Free H' → K (.bool (fits dn lv L)) H') : WF Tryz.prog 6 [.agg pc, v] H K := by
  refine WF_body Tryz.func6 (by kernel_rfl) rfl Tryz.ntmps6 (by rw [Tryz.results6]) (of_decide_eq_true (by kernel_rfl)) ?_
  unfold fits at hK
  simp (maxSteps := 1000000) only [sx, fx, implies_true, evBuildSlice, fillE, fillA, Nat.reduceMul, Nat.reducePow, AV.isCell, Nat.reduceSub, here, plain, laid, Nat.reduceBEq, evOp, avOf, avCell, strOf, UInt8.reduceToNat, evBin, evInt, evStr, evUn, Nat.reduceEqDiff, Nat.reduceLT, evResults, evResultsL, reduceCtorEq, AV.isUndef, AV.cells, Nat.reduceAdd, Heap.store, Nat.reduceLeDiff, wbool_off, after_scope, hF.at, hF.hp, hl]
  generalize hH1 : HP H [Blk.row 35 17 [pc] 0 0] = H1
  have hb : H1.blk H.next = some (.row 35 17 [pc] 0 0) := by rw [← hH1, hp_blk0]; rfl
  have hF1 : Free H1 := hH1 ▸ hF.hpF _
  have hU1 : Up H H1 := hH1 ▸ hF.hpU _
  by_cases c1 : dn < 1
  · rw [if_pos c1] at hK
    simp (maxSteps := 1000000) only [sx, fx, implies_true, evBuildSlice, fillE, fillA, Nat.reduceMul, Nat.reducePow, AV.isCell, Nat.reduceSub, here, plain, laid, Nat.reduceBEq, evOp, avOf, avCell, strOf, UInt8.reduceToNat, evBin, evInt, evStr, evUn, Nat.reduceEqDiff, Nat.reduceLT, evResults, evResultsL, reduceCtorEq, AV.isUndef, AV.cells, Nat.reduceAdd, Heap.store, Nat.reduceLeDiff, wbool_off, after_scope, hb, h15, c1]
    exact hK _ hU1 hF1
  rw [if_neg c1] at hK
  by_cases c2 : dn > (L.length : Int)
  · rw [if_pos c2] at hK
    simp (maxSteps := 1000000) only [sx, fx, implies_true, evBuildSlice, fillE, fillA, Nat.reduceMul, Nat.reducePow, AV.isCell, Nat.reduceSub, here, plain, laid, Nat.reduceBEq, evOp, avOf, avCell, strOf, UInt8.reduceToNat, evBin, evInt, evStr, evUn, Nat.reduceEqDiff, Nat.reduceLT, evResults, evResultsL, reduceCtorEq, AV.isUndef, AV.cells, Nat.reduceAdd, Heap.store, Nat.reduceLeDiff, wbool_off, after_scope, hb, h15, c1, c2, (hv H1).lenAt und22]
    exact hK _ hU1 hF1
  rw [if_neg c2] at hK
  obtain ⟨m, rfl⟩ := Int.eq_ofNat_of_zero_le (show 0 ≤ dn by omega)
  have hm1 : 1 ≤ m := by omega
  have hm2 : m ≤ L.length := by omega
  rw [Int.toNat_natCast] at hK
  unfold fitsM at hK
  obtain ⟨cl, hcl⟩ : ∃ c, L[m - 1]? = some c := ⟨_, List.getElem?_eq_getElem (by omega)⟩
  obtain ⟨kl, ll⟩ := hL cl (List.mem_of_getElem? hcl)
  rw [show L.getD (m - 1) [] = cl by rw [List.getD_eq_getElem?_getD, hcl]; rfl] at hK
  have w1 : IntKind.i64.wrap ((m : Int) - 1) = ((m - 1 : Nat) : Int) := wrap_pred hm1 (by omega)
  by_cases c3 : m = L.length
  · rw [if_pos c3] at hK
    have g3 : ((m : Int) == (L.length : Int)) = true := by simp [c3]
    simp (maxSteps := 1000000) only [sx, fx, implies_true, evBuildSlice, fillE, fillA, Nat.reduceMul, Nat.reducePow, AV.isCell, Nat.reduceSub, here, plain, laid, Nat.reduceBEq, evOp, avOf, avCell, strOf, UInt8.reduceToNat, evBin, evInt, evStr, evUn, Nat.reduceEqDiff, Nat.reduceLT, evResults, evResultsL, reduceCtorEq, AV.isUndef, AV.cells, Nat.reduceAdd, Heap.store, Nat.reduceLeDiff, wbool_off, after_scope, hb, h15, h16, c1, c2, (hv H1).lenAt und22, w1, idx22 hv hcl, kl, ll, g3]
    exact hK _ hU1 hF1
  rw [if_neg c3] at hK
  have g3 : ((m : Int) == (L.length : Int)) = false := by simp; omega
  obtain ⟨cn, hcn⟩ : ∃ c, L[m]? = some c := ⟨_, List.getElem?_eq_getElem (by omega)⟩
  obtain ⟨kn, ln⟩ := hL cn (List.mem_of_getElem? hcn)
  rw [show L.getD m [] = cn by rw [List.getD_eq_getElem?_getD, hcn]; rfl] at hK
  generalize kd cl = a at hK kl
  generalize kd cn = b at hK kn
  cases lv with
  | true =>
    rw [if_pos rfl] at hK
    cases ha : (a == 3) with
    | false =>
      simp (maxSteps := 1000000) only [sx, fx, implies_true, evBuildSlice, fillE, fillA, Nat.reduceMul, Nat.reducePow, AV.isCell, Nat.reduceSub, here, plain, laid, Nat.reduceBEq, evOp, avOf, avCell, strOf, UInt8.reduceToNat, evBin, evInt, evStr, evUn, Nat.reduceEqDiff, Nat.reduceLT, evResults, evResultsL, reduceCtorEq, AV.isUndef, AV.cells, Nat.reduceAdd, Heap.store, Nat.reduceLeDiff, wbool_off, after_scope, hb, h15, h16, c1, c2, (hv H1).lenAt und22, w1, idx22 hv hcl, kl, ll, g3, idx22 hv hcn, kn, ln, ha]
      rw [ha, Bool.false_and] at hK
      exact hK _ hU1 hF1
    | true =>
      simp (maxSteps := 1000000) only [sx, fx, implies_true, evBuildSlice, fillE, fillA, Nat.reduceMul, Nat.reducePow, AV.isCell, Nat.reduceSub, here, plain, laid, Nat.reduceBEq, evOp, avOf, avCell, strOf, UInt8.reduceToNat, evBin, evInt, evStr, evUn, Nat.reduceEqDiff, Nat.reduceLT, evResults, evResultsL, reduceCtorEq, AV.isUndef, AV.cells, Nat.reduceAdd, Heap.store, Nat.reduceLeDiff, wbool_off, after_scope, hb, h15, h16, c1, c2, (hv H1).lenAt und22, w1, idx22 hv hcl, kl, ll, g3, idx22 hv hcn, kn, ln, ha]
      rw [ha, Bool.true_and] at hK
      exact hK _ hU1 hF1
  | false =>
    rw [if_neg (by simp)] at hK
    cases ha : (a == 3) with
    | true =>
      rw [ha, if_pos rfl] at hK
      simp (maxSteps := 1000000) only [sx, fx, implies_true, evBuildSlice, fillE, fillA, Nat.reduceMul, Nat.reducePow, AV.isCell, Nat.reduceSub, here, plain, laid, Nat.reduceBEq, evOp, avOf, avCell, strOf, UInt8.reduceToNat, evBin, evInt, evStr, evUn, Nat.reduceEqDiff, Nat.reduceLT, evResults, evResultsL, reduceCtorEq, AV.isUndef, AV.cells, Nat.reduceAdd, Heap.store, Nat.reduceLeDiff, wbool_off, after_scope, hb, h15, h16, c1, c2, (hv H1).lenAt und22, w1, idx22 hv hcl, kl, ll, g3, idx22 hv hcn, kn, ln, ha]
      exact hK _ hU1 hF1
    | false =>
      rw [ha, if_neg (by simp)] at hK
      simp (maxSteps := 1000000) only [sx, fx, implies_true, evBuildSlice, fillE, fillA, Nat.reduceMul, Nat.reducePow, AV.isCell, Nat.reduceSub, here, plain, laid, Nat.reduceBEq, evOp, avOf, avCell, strOf, UInt8.reduceToNat, evBin, evInt, evStr, evUn, Nat.reduceEqDiff, Nat.reduceLT, evResults, evResultsL, reduceCtorEq, AV.isUndef, AV.cells, Nat.reduceAdd, Heap.store, Nat.reduceLeDiff, wbool_off, after_scope, hb, h15, h16, c1, c2, (hv H1).lenAt und22, w1, idx22 hv hcl, kl, ll, g3, idx22 hv hcn, kn, ln, ha]
      refine callStep (f14_ok b _ _ ?_)
      cases hbb : isC b with
      | false =>
        rw [hbb, Bool.not_false, Bool.true_or] at hK
        simp (maxSteps := 1000000) only [sx, fx, implies_true, evBuildSlice, fillE, fillA, Nat.reduceMul, Nat.reducePow, AV.isCell, Nat.reduceSub, here, plain, laid, Nat.reduceBEq, evOp, avOf, avCell, strOf, UInt8.reduceToNat, evBin, evInt, evStr, evUn, Nat.reduceEqDiff, Nat.reduceLT, evResults, evResultsL, reduceCtorEq, AV.isUndef, AV.cells, Nat.reduceAdd, Heap.store, Nat.reduceLeDiff, wbool_off, after_scope]
        exact hK _ hU1 hF1
      | true =>
        rw [hbb, Bool.not_true, Bool.false_or] at hK
        simp (maxSteps := 1000000) only [sx, fx, implies_true, evBuildSlice, fillE, fillA, Nat.reduceMul, Nat.reducePow, AV.isCell, Nat.reduceSub, here, plain, laid, Nat.reduceBEq, evOp, avOf, avCell, strOf, UInt8.reduceToNat, evBin, evInt, evStr, evUn, Nat.reduceEqDiff, Nat.reduceLT, evResults, evResultsL, reduceCtorEq, AV.isUndef, AV.cells, Nat.reduceAdd, Heap.store, Nat.reduceLeDiff, wbool_off, after_scope]
        refine callStep (f15_ok a _ _ ?_)
        simp (maxSteps := 1000000) only [sx, fx, implies_true, evBuildSlice, fillE, fillA, Nat.reduceMul, Nat.reducePow, AV.isCell, Nat.reduceSub, here, plain, laid, Nat.reduceBEq, evOp, avOf, avCell, strOf, UInt8.reduceToNat, evBin, evInt, evStr, evUn, Nat.reduceEqDiff, Nat.reduceLT, evResults, evResultsL, reduceCtorEq, AV.isUndef, AV.cells, Nat.reduceAdd, Heap.store, Nat.reduceLeDiff, wbool_off, after_scope]
        exact hK _ hU1 hF1

theorem f7_ok {pc : List AV} {dn : Int} {lv : Bool} (hl : pc.length = 17) (h15 : (pc.drop 15).take 1 = [.int .i64 dn]) (h16 : (pc.drop 16).take 1 = [.bool lv]) {v : AV} {L : List (List AV)} (hv : ∀ H, Holds H 24 v L) (hL : Kd L) (hn : L.length < 2 ^ 60)
    (H : Heap) (hF : Free H) (K : AV → Heap → Prop) (hK : ∀ H', Up H H' → Free H' → K (.bool (fits dn lv L)) H') : WF Tryz.prog 7 [.agg pc, v] H K := by
  refine WF_body Tryz.func7 (by kernel_rfl) rfl Tryz.ntmps7 (by rw [Tryz.results7]) (of_decide_eq_true (by kernel_rfl)) ?_
  unfold fits at hK
  simp (maxSteps := 1000000) only [sx, fx, implies_true, evBuildSlice, fillE, fillA, Nat.reduceMul, Nat.reducePow, AV.isCell, Nat.reduceSub, here, plain, laid, Nat.reduceBEq, evOp, avOf, avCell, strOf, UInt8.reduceToNat, evBin, evInt, evStr, evUn, Nat.reduceEqDiff, Nat.reduceLT, evResults, evResultsL, reduceCtorEq, AV.isUndef, AV.cells, Nat.reduceAdd, Heap.store, Nat.reduceLeDiff, wbool_off, after_scope, hF.at, hF.hp, hl]
  generalize hH1 : HP H [Blk.row 37 17 [pc] 0 0] = H1
  have hb : H1.blk H.next = some (.row 37 17 [pc] 0 0) := by rw [← hH1, hp_blk0]; rfl
  have hF1 : Free H1 := hH1 ▸ hF.hpF _
  have hU1 : Up H H1 := hH1 ▸ hF.hpU _
  by_cases c1 : dn < 1
  · rw [if_pos c1] at hK
    simp (maxSteps := 1000000) only [sx, fx, implies_true, evBuildSlice, fillE, fillA, Nat.reduceMul, Nat.reducePow, AV.isCell, Nat.reduceSub, here, plain, laid, Nat.reduceBEq, evOp, avOf, avCell, strOf, UInt8.reduceToNat, evBin, evInt, evStr, evUn, Nat.reduceEqDiff, Nat.reduceLT, evResults, evResultsL, reduceCtorEq, AV.isUndef, AV.cells, Nat.reduceAdd, Heap.store, Nat.reduceLeDiff, wbool_off, after_scope, hb, h15, c1]
    exact hK _ hU1 hF1
  rw [if_neg c1] at hK
  by_cases c2 : dn > (L.length : Int)
  · rw [if_pos c2] at hK
    simp (maxSteps := 1000000) only [sx, fx, implies_true, evBuildSlice, fillE, fillA, Nat.reduceMul, Nat.reducePow, AV.isCell, Nat.reduceSub, here, plain, laid, Nat.reduceBEq, evOp, avOf, avCell, strOf, UInt8.reduceToNat, evBin, evInt, evStr, evUn, Nat.reduceEqDiff, Nat.reduceLT, evResults, evResultsL, reduceCtorEq, AV.isUndef, AV.cells, Nat.reduceAdd, Heap.store, Nat.reduceLeDiff, wbool_off, after_scope, hb, h15, c1, c2, (hv H1).lenAt und22]
    exact hK _ hU1 hF1
  rw [if_neg c2] at hK
  obtain ⟨m, rfl⟩ := Int.eq_ofNat_of_zero_le (show 0 ≤ dn by omega)
  have hm1 : 1 ≤ m := by omega
  have hm2 : m ≤ L.length := by omega
  rw [Int.toNat_natCast] at hK
  unfold fitsM at hK
  obtain ⟨cl, hcl⟩ : ∃ c, L[m - 1]? = some c := ⟨_, List.getElem?_eq_getElem (by omega)⟩
  obtain ⟨kl, ll⟩ := hL cl (List.mem_of_getElem? hcl)
  rw [show L.getD (m - 1) [] = cl by rw [List.getD_eq_getElem?_getD, hcl]; rfl] at hK
  have w1 : IntKind.i64.wrap ((m : Int) - 1) = ((m - 1 : Nat) : Int) := wrap_pred hm1 (by omega)
  by_cases c3 : m = L.length
  · rw [if_pos c3] at hK
    have g3 : ((m : Int) == (L.length : Int)) = true := by simp [c3]
    have g4 : ((m : Int) < (L.length : Int)) = False := by simp; omega
    cases lv with
    | true =>
      simp (maxSteps := 1000000) only [sx, fx, implies_true, evBuildSlice, fillE, fillA, Nat.reduceMul, Nat.reducePow, AV.isCell, Nat.reduceSub, here, plain, laid, Nat.reduceBEq, evOp, avOf, avCell, strOf, UInt8.reduceToNat, evBin, evInt, evStr, evUn, Nat.reduceEqDiff, Nat.reduceLT, evResults, evResultsL, reduceCtorEq, AV.isUndef, AV.cells, Nat.reduceAdd, Heap.store, Nat.reduceLeDiff, wbool_off, after_scope, hb, h15, h16, c1, c2, (hv H1).lenAt und22, w1, idx22 hv hcl, kl, ll, g3, g4]
      exact hK _ hU1 hF1
    | false =>
      simp (maxSteps := 1000000) only [sx, fx, implies_true, evBuildSlice, fillE, fillA, Nat.reduceMul, Nat.reducePow, AV.isCell, Nat.reduceSub, here, plain, laid, Nat.reduceBEq, evOp, avOf, avCell, strOf, UInt8.reduceToNat, evBin, evInt, evStr, evUn, Nat.reduceEqDiff, Nat.reduceLT, evResults, evResultsL, reduceCtorEq, AV.isUndef, AV.cells, Nat.reduceAdd, Heap.store, Nat.reduceLeDiff, wbool_off, after_scope, hb, h15, h16, c1, c2, (hv H1).lenAt und22, w1, idx22 hv hcl, kl, ll, g3, g4]
      exact hK _ hU1 hF1
  rw [if_neg c3] at hK
  have g3 : ((m : Int) == (L.length : Int)) = false := by simp; omega
  have g4 : ((m : Int) < (L.length : Int)) = True := by simp; omega
  obtain ⟨cn, hcn⟩ : ∃ c, L[m]? = some c := ⟨_, List.getElem?_eq_getElem (by omega)⟩
  obtain ⟨kn, ln⟩ := hL cn (List.mem_of_getElem? hcn)
  rw [show L.getD m [] = cn by rw [List.getD_eq_getElem?_getD, hcn]; rfl] at hK
  generalize kd cl = a at hK kl
  generalize kd cn = b at hK kn
  cases lv with
  | true =>
    rw [if_pos rfl] at hK
    cases ha : (a == 3) with
    | false =>
      simp (maxSteps := 1000000) only [sx, fx, implies_true, evBuildSlice, fillE, fillA, Nat.reduceMul, Nat.reducePow, AV.isCell, Nat.reduceSub, here, plain, laid, Nat.reduceBEq, evOp, avOf, avCell, strOf, UInt8.reduceToNat, evBin, evInt, evStr, evUn, Nat.reduceEqDiff, Nat.reduceLT, evResults, evResultsL, reduceCtorEq, AV.isUndef, AV.cells, Nat.reduceAdd, Heap.store, Nat.reduceLeDiff, wbool_off, after_scope, hb, h15, h16, c1, c2, (hv H1).lenAt und22, w1, idx22 hv hcl, kl, ll, g3, g4, idx22 hv hcn, kn, ln, ha]
      rw [ha, Bool.false_and] at hK
      exact hK _ hU1 hF1
    | true =>
      simp (maxSteps := 1000000) only [sx, fx, implies_true, evBuildSlice, fillE, fillA, Nat.reduceMul, Nat.reducePow, AV.isCell, Nat.reduceSub, here, plain, laid, Nat.reduceBEq, evOp, avOf, avCell, strOf, UInt8.reduceToNat, evBin, evInt, evStr, evUn, Nat.reduceEqDiff, Nat.reduceLT, evResults, evResultsL, reduceCtorEq, AV.isUndef, AV.cells, Nat.reduceAdd, Heap.store, Nat.reduceLeDiff, wbool_off, after_scope, hb, h15, h16, c1, c2, (hv H1).lenAt und22, w1, idx22 hv hcl, kl, ll, g3, g4, idx22 hv hcn, kn, ln, ha]
      rw [ha, Bool.true_and] at hK
      exact hK _ hU1 hF1
  | false =>
    rw [if_neg (by simp)] at hK
    cases ha : (a == 3) with
    | true =>
      rw [ha, if_pos rfl] at hK
      simp (maxSteps := 1000000) only [sx, fx, implies_true, evBuildSlice, fillE, fillA, Nat.reduceMul, Nat.reducePow, AV.isCell, Nat.reduceSub, here, plain, laid, Nat.reduceBEq, evOp, avOf, avCell, strOf, UInt8.reduceToNat, evBin, evInt, evStr, evUn, Nat.reduceEqDiff, Nat.reduceLT, evResults, evResultsL, reduceCtorEq, AV.isUndef, AV.cells, Nat.reduceAdd, Heap.store, Nat.reduceLeDiff, wbool_off, after_scope, hb, h15, h16, c1, c2, (hv H1).lenAt und22, g3]
      refine drawStep [] [0, 1, 2, 3, 4, 5, 6, 7, 8, 9, 10, 11, 12, 13, 14] _ rfl (by kernel_rfl) ?_
      simp (maxSteps := 1000000) only [sx, fx, implies_true, evBuildSlice, fillE, fillA, Nat.reduceMul, Nat.reducePow, AV.isCell, Nat.reduceSub, here, plain, laid, Nat.reduceBEq, evOp, avOf, avCell, strOf, UInt8.reduceToNat, evBin, evInt, evStr, evUn, Nat.reduceEqDiff, Nat.reduceLT, evResults, evResultsL, reduceCtorEq, AV.isUndef, AV.cells, Nat.reduceAdd, Heap.store, Nat.reduceLeDiff, wbool_off, after_scope, hb, h15, h16, w1, idx22 hv hcl, kl, ll, idx22 hv hcn, kn, ln, ha]
      exact hK _ hU1 hF1
    | false =>
      rw [ha, if_neg (by simp)] at hK
      simp (maxSteps := 1000000) only [sx, fx, implies_true, evBuildSlice, fillE, fillA, Nat.reduceMul, Nat.reducePow, AV.isCell, Nat.reduceSub, here, plain, laid, Nat.reduceBEq, evOp, avOf, avCell, strOf, UInt8.reduceToNat, evBin, evInt, evStr, evUn, Nat.reduceEqDiff, Nat.reduceLT, evResults, evResultsL, reduceCtorEq, AV.isUndef, AV.cells, Nat.reduceAdd, Heap.store, Nat.reduceLeDiff, wbool_off, after_scope, hb, h15, h16, c1, c2, (hv H1).lenAt und22, g3]
      refine drawStep [] [0, 1, 2, 3, 4, 5, 6, 7, 8, 9, 10, 11, 12, 13, 14] _ rfl (by kernel_rfl) ?_
      simp (maxSteps := 1000000) only [sx, fx, implies_true, evBuildSlice, fillE, fillA, Nat.reduceMul, Nat.reducePow, AV.isCell, Nat.reduceSub, here, plain, laid, Nat.reduceBEq, evOp, avOf, avCell, strOf, UInt8.reduceToNat, evBin, evInt, evStr, evUn, Nat.reduceEqDiff, Nat.reduceLT, evResults, evResultsL, reduceCtorEq, AV.isUndef, AV.cells, Nat.reduceAdd, Heap.store, Nat.reduceLeDiff, wbool_off, after_scope, hb, h15, h16, w1, idx22 hv hcl, kl, ll, idx22 hv hcn, kn, ln, ha]
      refine callStep (f16_ok b _ hF1 _ fun H2 hU2 hF2 => ?_)
      have hb2 := hU2 _ _ hb
      cases hbb : isC b with
      | false =>
        rw [hbb, Bool.not_false, Bool.true_or] at hK
        simp (maxSteps := 1000000) only [sx, fx, implies_true, evBuildSlice, fillE, fillA, Nat.reduceMul, Nat.reducePow, AV.isCell, Nat.reduceSub, here, plain, laid, Nat.reduceBEq, evOp, avOf, avCell, strOf, UInt8.reduceToNat, evBin, evInt, evStr, evUn, Nat.reduceEqDiff, Nat.reduceLT, evResults, evResultsL, reduceCtorEq, AV.isUndef, AV.cells, Nat.reduceAdd, Heap.store, Nat.reduceLeDiff, wbool_off, after_scope]
        exact hK _ (hU1.trans hU2) hF2
      | true =>
        rw [hbb, Bool.not_true, Bool.false_or] at hK
        cases h4 : (a == 4) with
        | true =>
          have g4 : (a != 4) = false := by rw [bne, h4]; rfl
          simp (maxSteps := 1000000) only [sx, fx, implies_true, evBuildSlice, fillE, fillA, Nat.reduceMul, Nat.reducePow, AV.isCell, Nat.reduceSub, here, plain, laid, Nat.reduceBEq, evOp, avOf, avCell, strOf, UInt8.reduceToNat, evBin, evInt, evStr, evUn, Nat.reduceEqDiff, Nat.reduceLT, evResults, evResultsL, reduceCtorEq, AV.isUndef, AV.cells, Nat.reduceAdd, Heap.store, Nat.reduceLeDiff, wbool_off, after_scope, g4]
          rw [h4, Bool.true_or, Bool.not_true] at hK
          exact hK _ (hU1.trans hU2) hF2
        | false =>
          have g4 : (a != 4) = true := by rw [bne, h4]; rfl
          simp (maxSteps := 1000000) only [sx, fx, implies_true, evBuildSlice, fillE, fillA, Nat.reduceMul, Nat.reducePow, AV.isCell, Nat.reduceSub, here, plain, laid, Nat.reduceBEq, evOp, avOf, avCell, strOf, UInt8.reduceToNat, evBin, evInt, evStr, evUn, Nat.reduceEqDiff, Nat.reduceLT, evResults, evResultsL, reduceCtorEq, AV.isUndef, AV.cells, Nat.reduceAdd, Heap.store, Nat.reduceLeDiff, wbool_off, after_scope, g4]
          refine callStep (f16_ok a _ hF2 _ fun H3 hU3 hF3 => ?_)
          simp (maxSteps := 1000000) only [sx, fx, implies_true, evBuildSlice, fillE, fillA, Nat.reduceMul, Nat.reducePow, AV.isCell, Nat.reduceSub, here, plain, laid, Nat.reduceBEq, evOp, avOf, avCell, strOf, UInt8.reduceToNat, evBin, evInt, evStr, evUn, Nat.reduceEqDiff, Nat.reduceLT, evResults, evResultsL, reduceCtorEq, AV.isUndef, AV.cells, Nat.reduceAdd, Heap.store, Nat.reduceLeDiff, wbool_off, after_scope]
          rw [h4, Bool.false_or] at hK
          exact hK _ (hU1.trans (hU2.trans hU3)) hF3
end Go.Proofs.T
