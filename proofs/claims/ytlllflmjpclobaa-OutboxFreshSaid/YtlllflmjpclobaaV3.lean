import Derived.Test.YtlllflmjpclobaaV2
set_option linter.unusedVariables false
set_option linter.unusedSimpArgs false
set_option linter.unusedVariables false
set_option linter.unusedSimpArgs false
set_option maxRecDepth 100000
namespace Go.Proofs.T
open Go.Ev

/-- What a well-formed value with keys has. -/
def KeysFit (cs : List AV) : Prop := ∀ (i : Int) (s : List Nat) (v w : AV), cs = [.int .i64 5, .int .i64 i, .str s, v, w] → ∀ (H : Heap) (L M : List (List AV)), Holds H 5 v L → Holds H 1 w M → M.length = L.length

theorem holds_len {H G : Heap} {e : Nat} {v : AV} {L M : List (List AV)} (h : Holds H e v L) (h' : Holds G e v M) : L.length = M.length := by
  have := h.len?
  rw [h'.len?] at this
  simpa using this.symm

set_option maxHeartbeats 8000000 in
theorem f87_ok : ∀ (n : Nat) (H : Heap) (cs : List AV), VR n H cs → Free H → ∀ (K : AV → Heap → Prop), (∀ b H', (b = true → KeysFit cs) → Up H H' → Free H' → K (.bool b) H') → WF Try.prog 87 [.agg cs] H K := by
  intro n
  induction n with
  | zero => intro H cs h; exact h.elim
  | succ n ih =>
    intro H cs h hF K hK
    obtain ⟨k, ix, s, v, w, L, M, rfl, hv, hvn, hvc, hw, hwn, hwc⟩ := h
    refine WF_body Try.func87 (by kernel_rfl) rfl Try.ntmps87 (by rw [Try.results87]) (of_decide_eq_true (by kernel_rfl)) ?_
    simp (maxSteps := 1000000) only [sx, fx, implies_true, evBuildSlice, fillE, fillA, AV.isCell, here, plain, laid, evOp, avOf, avCell, strOf, evBin, evInt, evStr, evUn, evResults, evResultsL, AV.isUndef, AV.cells, Heap.store, wbool_off, after_scope, Nat.reduceMul, Nat.reducePow, Nat.reduceSub, Nat.reduceBEq, UInt8.reduceToNat, Nat.reduceEqDiff, Nat.reduceLT, reduceCtorEq, Nat.reduceAdd, Nat.reduceLeDiff, hF.at, hF.hp, ln9]
    generalize hH1 : HP H [Blk.row 26 5 [[.int .i64 k, .int .i64 ix, .str s, v, w]] 0 0] = H1
    have hb : H1.blk H.next = some (.row 26 5 [[.int .i64 k, .int .i64 ix, .str s, v, w]] 0 0) := by rw [← hH1, hp_blk0]; rfl
    have hF1 : Free H1 := hH1 ▸ hF.hpF _
    have hU1 : Up H H1 := hH1 ▸ hF.hpU _
    refine loopStepR (fun env3 H3 => Up H1 H3 ∧ Free H3 ∧ ∃ (i : Nat), i ≤ L.length ∧ env3.at (.tmp 3) = .int .i64 i ∧ env3.at (.tmp 1) = .ptr H.next 0 0 0)
      (fun env3 H3 => match env3.at (.tmp 3) with | .int _ i => ((L.length : Int) - i).toNat | _ => 0)
      (fun ex env H' => Up H1 H' ∧ Free H' ∧ (ex = .exit 0 ∧ env.at (.tmp 1) = .ptr H.next 0 0 0 ∨ ex = .ret ∧ env.at (.tmp 2) = .bool false)) ?_ ?_ ?_
    · exact ⟨Up.refl _, hF1, 0, Nat.zero_le _, by simp only [sx, fx, implies_true, evBuildSlice, fillE, fillA, AV.isCell, here, plain, laid, evOp, avOf, avCell, strOf, evBin, evInt, evStr, evUn, evResults, evResultsL, AV.isUndef, AV.cells, Heap.store, wbool_off, after_scope, Nat.reduceMul, Nat.reducePow, Nat.reduceSub, Nat.reduceBEq, UInt8.reduceToNat, Nat.reduceEqDiff, Nat.reduceLT, reduceCtorEq, Nat.reduceAdd, Nat.reduceLeDiff]; rfl, by simp only [sx, fx, implies_true, evBuildSlice, fillE, fillA, AV.isCell, here, plain, laid, evOp, avOf, avCell, strOf, evBin, evInt, evStr, evUn, evResults, evResultsL, AV.isUndef, AV.cells, Heap.store, wbool_off, after_scope, Nat.reduceMul, Nat.reducePow, Nat.reduceSub, Nat.reduceBEq, UInt8.reduceToNat, Nat.reduceEqDiff, Nat.reduceLT, reduceCtorEq, Nat.reduceAdd, Nat.reduceLeDiff]⟩
    · rintro env3 H3 ⟨hU3, hF3, i, hi, d3, d1⟩
      have hb3 := hU3 _ _ hb
      have hv3 := hv.up (hU1.trans hU3)
      by_cases hlt : i < L.length
      · obtain ⟨c, hc⟩ : ∃ c, L[i]? = some c := ⟨_, List.getElem?_eq_getElem hlt⟩
        have hcm := List.mem_of_getElem? hc
        have hcl := (hvc c hcm).len
        obtain ⟨p, hp, hload, _⟩ := hv3.index und23 sz26 .i64 hc
        simp (maxSteps := 1000000) only [sx, fx, implies_true, evBuildSlice, fillE, fillA, AV.isCell, here, plain, laid, evOp, avOf, avCell, strOf, evBin, evInt, evStr, evUn, evResults, evResultsL, AV.isUndef, AV.cells, Heap.store, wbool_off, after_scope, Nat.reduceMul, Nat.reducePow, Nat.reduceSub, Nat.reduceBEq, UInt8.reduceToNat, Nat.reduceEqDiff, Nat.reduceLT, reduceCtorEq, Nat.reduceAdd, Nat.reduceLeDiff, d3, d1, hb3, hv3.lenAt und23, lt_true hlt, hp, hload _ (Up.refl _), hcl]
        refine callStep (ih H3 c ((hvc c hcm).up (hU1.trans hU3)) hF3 _ fun b H4 _ hU4 hF4 => ?_)
        cases b
        · simp (maxSteps := 1000000) only [sx, fx, implies_true, evBuildSlice, fillE, fillA, AV.isCell, here, plain, laid, evOp, avOf, avCell, strOf, evBin, evInt, evStr, evUn, evResults, evResultsL, AV.isUndef, AV.cells, Heap.store, wbool_off, after_scope, Nat.reduceMul, Nat.reducePow, Nat.reduceSub, Nat.reduceBEq, UInt8.reduceToNat, Nat.reduceEqDiff, Nat.reduceLT, reduceCtorEq, Nat.reduceAdd, Nat.reduceLeDiff]
          exact ⟨hU3.trans hU4, hF4⟩
        · simp (maxSteps := 1000000) only [sx, fx, implies_true, evBuildSlice, fillE, fillA, AV.isCell, here, plain, laid, evOp, avOf, avCell, strOf, evBin, evInt, evStr, evUn, evResults, evResultsL, AV.isUndef, AV.cells, Heap.store, wbool_off, after_scope, Nat.reduceMul, Nat.reducePow, Nat.reduceSub, Nat.reduceBEq, UInt8.reduceToNat, Nat.reduceEqDiff, Nat.reduceLT, reduceCtorEq, Nat.reduceAdd, Nat.reduceLeDiff, d3, d1, wrap_succ (i := i) (by omega)]
          refine ⟨⟨hU3.trans hU4, hF4, i + 1, hlt, rfl⟩, ?_⟩
          omega
      · simp (maxSteps := 1000000) only [sx, fx, implies_true, evBuildSlice, fillE, fillA, AV.isCell, here, plain, laid, evOp, avOf, avCell, strOf, evBin, evInt, evStr, evUn, evResults, evResultsL, AV.isUndef, AV.cells, Heap.store, wbool_off, after_scope, Nat.reduceMul, Nat.reducePow, Nat.reduceSub, Nat.reduceBEq, UInt8.reduceToNat, Nat.reduceEqDiff, Nat.reduceLT, reduceCtorEq, Nat.reduceAdd, Nat.reduceLeDiff, d3, d1, hb3, hv3.lenAt und23, lt_false hlt]
        exact ⟨hU3, hF3⟩
    · rintro ex env G ⟨hUG, hFG, ⟨rfl, e1⟩ | ⟨rfl, e2⟩⟩
      case inr => simp (maxSteps := 1000000) only [sx, fx, implies_true, evBuildSlice, fillE, fillA, AV.isCell, here, plain, laid, evOp, avOf, avCell, strOf, evBin, evInt, evStr, evUn, evResults, evResultsL, AV.isUndef, AV.cells, Heap.store, wbool_off, after_scope, Nat.reduceMul, Nat.reducePow, Nat.reduceSub, Nat.reduceBEq, UInt8.reduceToNat, Nat.reduceEqDiff, Nat.reduceLT, reduceCtorEq, Nat.reduceAdd, Nat.reduceLeDiff, e2]; exact hK _ _ (by simp) (hU1.trans hUG) hFG
      have hbG := hUG _ _ hb
      have hU := hU1.trans hUG
      have lv := (hv.up hU).lenAt und23
      have lw := (hw.up hU).lenAt und24
      generalize hx0 : (ix == 0) = x0
      generalize hx1 : (ix == 1) = x1
      generalize hxp : (decide (ix ≥ 0)) = xp
      generalize hss : (s == []) = ss
      generalize hll : ((L.length : Int) == 0) = ll
      generalize hmm : ((M.length : Int) == 0) = mm
      generalize hml : ((M.length : Int) == (L.length : Int)) = ml
      by_cases k0 : k = 0
      · subst k0
        have q0 : ((0 : Int) == 0) = true := by decide
        cases x0 <;> cases ss <;> cases ll <;> cases mm <;> simp (maxSteps := 1000000) only [sx, fx, implies_true, evBuildSlice, fillE, fillA, AV.isCell, here, plain, laid, evOp, avOf, avCell, strOf, evBin, evInt, evStr, evUn, evResults, evResultsL, AV.isUndef, AV.cells, Heap.store, wbool_off, after_scope, Nat.reduceMul, Nat.reducePow, Nat.reduceSub, Nat.reduceBEq, UInt8.reduceToNat, Nat.reduceEqDiff, Nat.reduceLT, reduceCtorEq, Nat.reduceAdd, Nat.reduceLeDiff, e1, hbG, lv, lw, q0, hx0, hss, hll, hmm] <;> exact hK _ _ (fun _ i s v w e => by simp at e) hU hFG
      by_cases k1 : k = 1
      · subst k1
        have q0 : ((1 : Int) == 0) = false := by decide
        have q1 : ((1 : Int) == 1) = true := by decide
        cases x0 <;> cases x1 <;> cases ss <;> cases ll <;> cases mm <;> simp (maxSteps := 1000000) only [sx, fx, implies_true, evBuildSlice, fillE, fillA, AV.isCell, here, plain, laid, evOp, avOf, avCell, strOf, evBin, evInt, evStr, evUn, evResults, evResultsL, AV.isUndef, AV.cells, Heap.store, wbool_off, after_scope, Nat.reduceMul, Nat.reducePow, Nat.reduceSub, Nat.reduceBEq, UInt8.reduceToNat, Nat.reduceEqDiff, Nat.reduceLT, reduceCtorEq, Nat.reduceAdd, Nat.reduceLeDiff, e1, hbG, lv, lw, q0, q1, hx0, hx1, hss, hll, hmm] <;> exact hK _ _ (fun _ i s v w e => by simp at e) hU hFG
      by_cases k2 : k = 2
      · subst k2
        have q0 : ((2 : Int) == 0) = false := by decide
        have q1 : ((2 : Int) == 1) = false := by decide
        have q2 : ((2 : Int) == 2) = true := by decide
        cases ss <;> cases ll <;> cases mm <;> simp (maxSteps := 1000000) only [sx, fx, implies_true, evBuildSlice, fillE, fillA, AV.isCell, here, plain, laid, evOp, avOf, avCell, strOf, evBin, evInt, evStr, evUn, evResults, evResultsL, AV.isUndef, AV.cells, Heap.store, wbool_off, after_scope, Nat.reduceMul, Nat.reducePow, Nat.reduceSub, Nat.reduceBEq, UInt8.reduceToNat, Nat.reduceEqDiff, Nat.reduceLT, reduceCtorEq, Nat.reduceAdd, Nat.reduceLeDiff, e1, hbG, lv, lw, q0, q1, q2, hss, hll, hmm] <;> exact hK _ _ (fun _ i s v w e => by simp at e) hU hFG
      by_cases k3 : k = 3
      · subst k3
        have q0 : ((3 : Int) == 0) = false := by decide
        have q1 : ((3 : Int) == 1) = false := by decide
        have q2 : ((3 : Int) == 2) = false := by decide
        have q3 : ((3 : Int) == 3) = true := by decide
        cases x0 <;> cases ll <;> cases mm <;> simp (maxSteps := 1000000) only [sx, fx, implies_true, evBuildSlice, fillE, fillA, AV.isCell, here, plain, laid, evOp, avOf, avCell, strOf, evBin, evInt, evStr, evUn, evResults, evResultsL, AV.isUndef, AV.cells, Heap.store, wbool_off, after_scope, Nat.reduceMul, Nat.reducePow, Nat.reduceSub, Nat.reduceBEq, UInt8.reduceToNat, Nat.reduceEqDiff, Nat.reduceLT, reduceCtorEq, Nat.reduceAdd, Nat.reduceLeDiff, e1, hbG, lv, lw, q0, q1, q2, q3, hx0, hll, hmm] <;> exact hK _ _ (fun _ i s v w e => by simp at e) hU hFG
      by_cases k4 : k = 4
      · subst k4
        have q0 : ((4 : Int) == 0) = false := by decide
        have q1 : ((4 : Int) == 1) = false := by decide
        have q2 : ((4 : Int) == 2) = false := by decide
        have q3 : ((4 : Int) == 3) = false := by decide
        have q4 : ((4 : Int) == 4) = true := by decide
        cases x0 <;> cases ss <;> cases mm <;> simp (maxSteps := 1000000) only [sx, fx, implies_true, evBuildSlice, fillE, fillA, AV.isCell, here, plain, laid, evOp, avOf, avCell, strOf, evBin, evInt, evStr, evUn, evResults, evResultsL, AV.isUndef, AV.cells, Heap.store, wbool_off, after_scope, Nat.reduceMul, Nat.reducePow, Nat.reduceSub, Nat.reduceBEq, UInt8.reduceToNat, Nat.reduceEqDiff, Nat.reduceLT, reduceCtorEq, Nat.reduceAdd, Nat.reduceLeDiff, e1, hbG, lv, lw, q0, q1, q2, q3, q4, hx0, hss, hmm] <;> exact hK _ _ (fun _ i s v w e => by simp at e) hU hFG
      by_cases k5 : k = 5
      · subst k5
        have q0 : ((5 : Int) == 0) = false := by decide
        have q1 : ((5 : Int) == 1) = false := by decide
        have q2 : ((5 : Int) == 2) = false := by decide
        have q3 : ((5 : Int) == 3) = false := by decide
        have q4 : ((5 : Int) == 4) = false := by decide
        have q5 : ((5 : Int) == 5) = true := by decide
        cases x0 <;> cases ss <;> cases ml <;> simp (maxSteps := 1000000) only [sx, fx, implies_true, evBuildSlice, fillE, fillA, AV.isCell, here, plain, laid, evOp, avOf, avCell, strOf, evBin, evInt, evStr, evUn, evResults, evResultsL, AV.isUndef, AV.cells, Heap.store, wbool_off, after_scope, Nat.reduceMul, Nat.reducePow, Nat.reduceSub, Nat.reduceBEq, UInt8.reduceToNat, Nat.reduceEqDiff, Nat.reduceLT, reduceCtorEq, Nat.reduceAdd, Nat.reduceLeDiff, e1, hbG, lv, lw, q0, q1, q2, q3, q4, q5, hx0, hss, hml]
        case true.true.true =>
          refine callStep (f93_ok G hFG (hw.up hU) hwn hwc _ fun b => ?_)
          have hfit : KeysFit [AV.int IntKind.i64 5, AV.int IntKind.i64 ix, AV.str s, v, w] := fun i s v w e G' L' M' hL' hM' => by
            cases e
            have h1 := holds_len hL' hv
            have h2 := holds_len hM' hw
            simp only [beq_iff_eq] at hml
            omega
          cases b <;> simp (maxSteps := 1000000) only [sx, fx, implies_true, evBuildSlice, fillE, fillA, AV.isCell, here, plain, laid, evOp, avOf, avCell, strOf, evBin, evInt, evStr, evUn, evResults, evResultsL, AV.isUndef, AV.cells, Heap.store, wbool_off, after_scope, Nat.reduceMul, Nat.reducePow, Nat.reduceSub, Nat.reduceBEq, UInt8.reduceToNat, Nat.reduceEqDiff, Nat.reduceLT, reduceCtorEq, Nat.reduceAdd, Nat.reduceLeDiff] <;> exact hK _ _ (fun _ => hfit) hU hFG
        all_goals exact hK _ _ (by simp) hU hFG
      by_cases k6 : k = 6
      · subst k6
        have q0 : ((6 : Int) == 0) = false := by decide
        have q1 : ((6 : Int) == 1) = false := by decide
        have q2 : ((6 : Int) == 2) = false := by decide
        have q3 : ((6 : Int) == 3) = false := by decide
        have q4 : ((6 : Int) == 4) = false := by decide
        have q5 : ((6 : Int) == 5) = false := by decide
        have q6 : ((6 : Int) == 6) = true := by decide
        cases xp <;> cases ss <;> cases ll <;> cases mm <;> simp (maxSteps := 1000000) only [sx, fx, implies_true, evBuildSlice, fillE, fillA, AV.isCell, here, plain, laid, evOp, avOf, avCell, strOf, evBin, evInt, evStr, evUn, evResults, evResultsL, AV.isUndef, AV.cells, Heap.store, wbool_off, after_scope, Nat.reduceMul, Nat.reducePow, Nat.reduceSub, Nat.reduceBEq, UInt8.reduceToNat, Nat.reduceEqDiff, Nat.reduceLT, reduceCtorEq, Nat.reduceAdd, Nat.reduceLeDiff, e1, hbG, lv, lw, q0, q1, q2, q3, q4, q5, q6, hxp, hss, hll, hmm] <;> exact hK _ _ (fun _ i s v w e => by simp at e) hU hFG
      have r0 : (k == 0) = false := by simpa using k0
      have r1 : (k == 1) = false := by simpa using k1
      have r2 : (k == 2) = false := by simpa using k2
      have r3 : (k == 3) = false := by simpa using k3
      have r4 : (k == 4) = false := by simpa using k4
      have r5 : (k == 5) = false := by simpa using k5
      have r6 : (k == 6) = false := by simpa using k6
      simp (maxSteps := 1000000) only [sx, fx, implies_true, evBuildSlice, fillE, fillA, AV.isCell, here, plain, laid, evOp, avOf, avCell, strOf, evBin, evInt, evStr, evUn, evResults, evResultsL, AV.isUndef, AV.cells, Heap.store, wbool_off, after_scope, Nat.reduceMul, Nat.reducePow, Nat.reduceSub, Nat.reduceBEq, UInt8.reduceToNat, Nat.reduceEqDiff, Nat.reduceLT, reduceCtorEq, Nat.reduceAdd, Nat.reduceLeDiff, e1, hbG, r0, r1, r2, r3, r4, r5, r6]
      exact hK _ _ (by simp) hU hFG
end Go.Proofs.T
