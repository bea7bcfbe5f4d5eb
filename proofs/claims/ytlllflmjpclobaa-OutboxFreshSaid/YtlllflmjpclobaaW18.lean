import Derived.Test.YtlllflmjpclobaaW17
set_option linter.unusedVariables false
set_option linter.unusedSimpArgs false
set_option linter.unusedVariables false
set_option linter.unusedSimpArgs false
set_option maxRecDepth 100000
namespace Go.Proofs.T
open Go.Ev

/-- A value's cells whose texts are no longer than a machine holds. -/
def ValB : Nat → List AV → Prop
  | 0, _ => False
  | n + 1, cs => ∃ (k i : Int) (s : List Nat) (v w : AV) (L M : List (List AV)), cs = [.int .i64 k, .int .i64 i, .str s, v, w] ∧ s.length < 2 ^ 60 ∧ (∀ H, Holds H 5 v L) ∧ L.length * 80 ≤ 140737488355328 ∧ (∀ c ∈ L, ValB n c) ∧ (∀ H, Holds H 1 w M) ∧ M.length * 16 ≤ 140737488355328 ∧ ∀ c ∈ M, ∃ s, c = [.str s] ∧ s.length < 2 ^ 60
theorem ValB.tb : ∀ {n : Nat} {cs : List AV}, ValB n cs → ∀ H, TB n H cs
  | 0, _, h, _ => h.elim
  | n + 1, _, ⟨k, i, s, v, w, L, M, e, _, hv, hl, hL, hw, hm, hM⟩, H => ⟨k, i, s, v, w, L, M, e, hv H, hl, fun c hc => (hL c hc).tb H, hw H, hm, fun c hc => by obtain ⟨s, e, _⟩ := hM c hc; exact ⟨s, e⟩⟩
theorem ValB.vr {n : Nat} {cs : List AV} (h : ValB n cs) (H : Heap) : VR n H cs := (h.tb H).vr
theorem ValB.len {n : Nat} {cs : List AV} (h : ValB n cs) : cs.length = 5 := (h.vr H0).len
def itemsN (cs : List AV) (x : Int) : Prop := ∀ (k i : Int) (s : List Nat) (v w : AV), cs = [.int .i64 k, .int .i64 i, .str s, v, w] → ∀ (H : Heap) (L : List (List AV)), Holds H 5 v L → (L.length : Int) ≤ x

theorem f32b_ok : ∀ (n : Nat) (cs : List AV), ValB n cs → ∀ (m : Int), 0 ≤ m → m ≤ 6000 → ∀ (H : Heap) (hF : Free H) (K : AV → Heap → Prop) (hK : ∀ x H', -2 ^ 61 ≤ x → x ≤ m - 1 → (0 ≤ x → itemsN cs (m - 1 - x)) → Up H H' → Free H' → K (.int .i64 x) H'), WF Try.prog 32 [.agg cs, .int .i64 m] H K := by
  intro n
  induction n with
  | zero => intro cs h; exact h.elim
  | succ n ih =>
    intro cs h m hm0 hm1 H hF K hK
    obtain ⟨k, ix, s, v, w, L, M, rfl, hs, hv, hvn, hvc, hw, hwn, hwc⟩ := h
    have hit : ∀ x : Int, (L.length : Int) ≤ x → itemsN [.int .i64 k, .int .i64 ix, .str s, v, w] x := fun x hx k' i' s' v' w' e G L' hL' => by
      simp only [List.cons.injEq, and_true] at e
      obtain ⟨_, _, _, rfl, _⟩ := e
      rw [holds_uniq hL' (hv G)]; exact hx
    refine WF_body Try.func32 (by kernel_rfl) rfl Try.ntmps32 (by rw [Try.results32]) (of_decide_eq_true (by kernel_rfl)) ?_
    have hw0 : IntKind.i64.wrap (IntKind.i64.wrap (m - 1) - (s.length : Int)) = m - 1 - s.length := by
      rw [IntWalk.i64_in (m - 1) (by omega), IntWalk.i64_in _ (by omega)]
    simp (maxSteps := 1000000) only [sx, fx, implies_true, evBuildSlice, fillE, fillA, AV.isCell, here, plain, laid, evOp, avOf, avCell, strOf, evBin, evInt, evStr, evUn, evResults, evResultsL, AV.isUndef, AV.cells, Heap.store, wbool_off, after_scope, Nat.reduceMul, Nat.reducePow, Nat.reduceSub, Nat.reduceBEq, UInt8.reduceToNat, Nat.reduceEqDiff, Nat.reduceLT, reduceCtorEq, Nat.reduceAdd, Nat.reduceLeDiff, hF.at, hF.hp, ln9]
    generalize hH1 : HP H [Blk.row 26 5 [[.int .i64 k, .int .i64 ix, .str s, v, w]] 0 0] = H1
    have hb : H1.blk H.next = some (.row 26 5 [[.int .i64 k, .int .i64 ix, .str s, v, w]] 0 0) := by rw [← hH1, hp_blk0]; rfl
    have hF1 : Free H1 := hH1 ▸ hF.hpF _
    have hU1 : Up H H1 := hH1 ▸ hF.hpU _
    refine loopStepR (fun env H' => H' = H1 ∧ ∃ (i : Nat) (m' : Int), i ≤ M.length ∧ -2 ^ 61 ≤ m' ∧ m' ≤ m - 1 ∧ env.at (.tmp 5) = .int .i64 i ∧ env.at (.tmp 1) = .int .i64 m' ∧ env.at (.tmp 2) = .ptr H.next 0 0 0)
      (fun env H' => match env.at (.tmp 5) with | .int _ i => ((M.length : Int) - i).toNat | _ => 0)
      (fun ex env H' => ex = .exit 0 ∧ H' = H1 ∧ ∃ (m' : Int), -2 ^ 61 ≤ m' ∧ m' ≤ m - 1 ∧ env.at (.tmp 1) = .int .i64 m' ∧ env.at (.tmp 2) = .ptr H.next 0 0 0) ?_ ?_ ?_
    · refine ⟨rfl, 0, m - 1 - s.length, Nat.zero_le _, by omega, by omega, ?_, ?_, ?_⟩
      · simp only [sx, fx, implies_true, evBuildSlice, fillE, fillA, AV.isCell, here, plain, laid, evOp, avOf, avCell, strOf, evBin, evInt, evStr, evUn, evResults, evResultsL, AV.isUndef, AV.cells, Heap.store, wbool_off, after_scope, Nat.reduceMul, Nat.reducePow, Nat.reduceSub, Nat.reduceBEq, UInt8.reduceToNat, Nat.reduceEqDiff, Nat.reduceLT, reduceCtorEq, Nat.reduceAdd, Nat.reduceLeDiff]; rfl
      · simp only [sx, fx, implies_true, evBuildSlice, fillE, fillA, AV.isCell, here, plain, laid, evOp, avOf, avCell, strOf, evBin, evInt, evStr, evUn, evResults, evResultsL, AV.isUndef, AV.cells, Heap.store, wbool_off, after_scope, Nat.reduceMul, Nat.reducePow, Nat.reduceSub, Nat.reduceBEq, UInt8.reduceToNat, Nat.reduceEqDiff, Nat.reduceLT, reduceCtorEq, Nat.reduceAdd, Nat.reduceLeDiff, hw0]
      · simp only [sx, fx, implies_true, evBuildSlice, fillE, fillA, AV.isCell, here, plain, laid, evOp, avOf, avCell, strOf, evBin, evInt, evStr, evUn, evResults, evResultsL, AV.isUndef, AV.cells, Heap.store, wbool_off, after_scope, Nat.reduceMul, Nat.reducePow, Nat.reduceSub, Nat.reduceBEq, UInt8.reduceToNat, Nat.reduceEqDiff, Nat.reduceLT, reduceCtorEq, Nat.reduceAdd, Nat.reduceLeDiff]
    · rintro env H' ⟨rfl, i, m', hi, hml, hmu, e5, e1, e2⟩
      by_cases hlt : i < M.length
      · obtain ⟨c, hc⟩ : ∃ c, M[i]? = some c := ⟨_, List.getElem?_eq_getElem hlt⟩
        obtain ⟨s', rfl, hs'⟩ := hwc c (List.mem_of_getElem? hc)
        obtain ⟨p, hp, hload, _⟩ := (hw H').index und24 sz9 .i64 hc
        by_cases hm : m' ≥ 0
        · have hw1 : IntKind.i64.wrap (m' - (s'.length : Int)) = m' - s'.length := IntWalk.i64_in _ (by omega)
          simp (maxSteps := 1000000) only [sx, fx, implies_true, evBuildSlice, fillE, fillA, AV.isCell, here, plain, laid, evOp, avOf, avCell, strOf, evBin, evInt, evStr, evUn, evResults, evResultsL, AV.isUndef, AV.cells, Heap.store, wbool_off, after_scope, Nat.reduceMul, Nat.reducePow, Nat.reduceSub, Nat.reduceBEq, UInt8.reduceToNat, Nat.reduceEqDiff, Nat.reduceLT, reduceCtorEq, Nat.reduceAdd, Nat.reduceLeDiff, e5, e1, e2, hb, (hw H').lenAt und24, lt_true hlt, hm, hp, hload H' (Up.refl _), ln9, hw1, wrap_succ (i := i) (by omega)]
          refine ⟨⟨i + 1, _, hlt, ?_, ?_, rfl, rfl⟩, ?_⟩ <;> omega
        · simp (maxSteps := 1000000) only [sx, fx, implies_true, evBuildSlice, fillE, fillA, AV.isCell, here, plain, laid, evOp, avOf, avCell, strOf, evBin, evInt, evStr, evUn, evResults, evResultsL, AV.isUndef, AV.cells, Heap.store, wbool_off, after_scope, Nat.reduceMul, Nat.reducePow, Nat.reduceSub, Nat.reduceBEq, UInt8.reduceToNat, Nat.reduceEqDiff, Nat.reduceLT, reduceCtorEq, Nat.reduceAdd, Nat.reduceLeDiff, e5, e1, e2, hb, (hw H').lenAt und24, lt_true hlt, hm]
          exact ⟨m', hml, hmu, rfl⟩
      · simp (maxSteps := 1000000) only [sx, fx, implies_true, evBuildSlice, fillE, fillA, AV.isCell, here, plain, laid, evOp, avOf, avCell, strOf, evBin, evInt, evStr, evUn, evResults, evResultsL, AV.isUndef, AV.cells, Heap.store, wbool_off, after_scope, Nat.reduceMul, Nat.reducePow, Nat.reduceSub, Nat.reduceBEq, UInt8.reduceToNat, Nat.reduceEqDiff, Nat.reduceLT, reduceCtorEq, Nat.reduceAdd, Nat.reduceLeDiff, e5, e1, e2, hb, (hw H').lenAt und24, lt_false hlt]
        exact ⟨m', hml, hmu, rfl⟩
    · rintro ex env H' ⟨rfl, rfl, m', hml, hmu, e1, e2⟩
      simp (maxSteps := 1000000) only [sx, fx, implies_true, evBuildSlice, fillE, fillA, AV.isCell, here, plain, laid, evOp, avOf, avCell, strOf, evBin, evInt, evStr, evUn, evResults, evResultsL, AV.isUndef, AV.cells, Heap.store, wbool_off, after_scope, Nat.reduceMul, Nat.reducePow, Nat.reduceSub, Nat.reduceBEq, UInt8.reduceToNat, Nat.reduceEqDiff, Nat.reduceLT, reduceCtorEq, Nat.reduceAdd, Nat.reduceLeDiff, e1, e2]
      refine loopStep' (fun env3 H3 => Up H' H3 ∧ Free H3 ∧ ∃ (i : Nat) (m' : Int), i ≤ L.length ∧ -2 ^ 61 ≤ m' ∧ m' ≤ m - 1 ∧ (0 ≤ m' → (i : Int) ≤ m - 1 - m') ∧ env3.at (.tmp 6) = .int .i64 i ∧ env3.at (.tmp 1) = .int .i64 m' ∧ env3.at (.tmp 2) = .ptr H.next 0 0 0)
        (fun env3 H3 => match env3.at (.tmp 6) with | .int _ i => ((L.length : Int) - i).toNat | _ => 0) ?_ ?_
      · exact ⟨Up.refl _, hF1, 0, m', Nat.zero_le _, hml, hmu, fun _ => by omega, by simp only [sx, fx, implies_true, evBuildSlice, fillE, fillA, AV.isCell, here, plain, laid, evOp, avOf, avCell, strOf, evBin, evInt, evStr, evUn, evResults, evResultsL, AV.isUndef, AV.cells, Heap.store, wbool_off, after_scope, Nat.reduceMul, Nat.reducePow, Nat.reduceSub, Nat.reduceBEq, UInt8.reduceToNat, Nat.reduceEqDiff, Nat.reduceLT, reduceCtorEq, Nat.reduceAdd, Nat.reduceLeDiff]; rfl, by simp only [sx, fx, implies_true, evBuildSlice, fillE, fillA, AV.isCell, here, plain, laid, evOp, avOf, avCell, strOf, evBin, evInt, evStr, evUn, evResults, evResultsL, AV.isUndef, AV.cells, Heap.store, wbool_off, after_scope, Nat.reduceMul, Nat.reducePow, Nat.reduceSub, Nat.reduceBEq, UInt8.reduceToNat, Nat.reduceEqDiff, Nat.reduceLT, reduceCtorEq, Nat.reduceAdd, Nat.reduceLeDiff, e1], by simp only [sx, fx, implies_true, evBuildSlice, fillE, fillA, AV.isCell, here, plain, laid, evOp, avOf, avCell, strOf, evBin, evInt, evStr, evUn, evResults, evResultsL, AV.isUndef, AV.cells, Heap.store, wbool_off, after_scope, Nat.reduceMul, Nat.reducePow, Nat.reduceSub, Nat.reduceBEq, UInt8.reduceToNat, Nat.reduceEqDiff, Nat.reduceLT, reduceCtorEq, Nat.reduceAdd, Nat.reduceLeDiff, e2]⟩
      · rintro env3 H3 ⟨hU3, hF3, i3, m3, hi3, hml3, hmu3, hq3, d6, d1, d2⟩
        have hb3 := hU3 _ _ hb
        by_cases hlt3 : i3 < L.length
        · obtain ⟨c, hc⟩ : ∃ c, L[i3]? = some c := ⟨_, List.getElem?_eq_getElem hlt3⟩
          have hcm := List.mem_of_getElem? hc
          have hcl := (hvc c hcm).len
          obtain ⟨p, hp, hload, _⟩ := (hv H3).index und23 sz26 .i64 hc
          by_cases hm3 : m3 ≥ 0
          · simp (maxSteps := 1000000) only [sx, fx, implies_true, evBuildSlice, fillE, fillA, AV.isCell, here, plain, laid, evOp, avOf, avCell, strOf, evBin, evInt, evStr, evUn, evResults, evResultsL, AV.isUndef, AV.cells, Heap.store, wbool_off, after_scope, Nat.reduceMul, Nat.reducePow, Nat.reduceSub, Nat.reduceBEq, UInt8.reduceToNat, Nat.reduceEqDiff, Nat.reduceLT, reduceCtorEq, Nat.reduceAdd, Nat.reduceLeDiff, d6, d1, d2, hb3, (hv H3).lenAt und23, lt_true hlt3, hm3, hp, hload H3 (Up.refl _), hcl]
            refine callStep (ih c (hvc c hcm) m3 hm3 (by omega) H3 hF3 _ fun x H4 x1 x2 x3 hU4 hF4 => ?_)
            have hq := hq3 hm3
            simp (maxSteps := 1000000) only [sx, fx, implies_true, evBuildSlice, fillE, fillA, AV.isCell, here, plain, laid, evOp, avOf, avCell, strOf, evBin, evInt, evStr, evUn, evResults, evResultsL, AV.isUndef, AV.cells, Heap.store, wbool_off, after_scope, Nat.reduceMul, Nat.reducePow, Nat.reduceSub, Nat.reduceBEq, UInt8.reduceToNat, Nat.reduceEqDiff, Nat.reduceLT, reduceCtorEq, Nat.reduceAdd, Nat.reduceLeDiff, d6, d1, d2, wrap_succ (i := i3) (by omega)]
            refine ⟨⟨hU3.trans hU4, hF4, i3 + 1, x, hlt3, x1, by omega, fun hx => by omega, rfl, rfl⟩, ?_⟩
            omega
          · simp (maxSteps := 1000000) only [sx, fx, implies_true, evBuildSlice, fillE, fillA, AV.isCell, here, plain, laid, evOp, avOf, avCell, strOf, evBin, evInt, evStr, evUn, evResults, evResultsL, AV.isUndef, AV.cells, Heap.store, wbool_off, after_scope, Nat.reduceMul, Nat.reducePow, Nat.reduceSub, Nat.reduceBEq, UInt8.reduceToNat, Nat.reduceEqDiff, Nat.reduceLT, reduceCtorEq, Nat.reduceAdd, Nat.reduceLeDiff, d6, d1, d2, hb3, (hv H3).lenAt und23, lt_true hlt3, hm3]
            exact hK _ _ hml3 hmu3 (fun h => absurd h hm3) (hU1.trans hU3) hF3
        · simp (maxSteps := 1000000) only [sx, fx, implies_true, evBuildSlice, fillE, fillA, AV.isCell, here, plain, laid, evOp, avOf, avCell, strOf, evBin, evInt, evStr, evUn, evResults, evResultsL, AV.isUndef, AV.cells, Heap.store, wbool_off, after_scope, Nat.reduceMul, Nat.reducePow, Nat.reduceSub, Nat.reduceBEq, UInt8.reduceToNat, Nat.reduceEqDiff, Nat.reduceLT, reduceCtorEq, Nat.reduceAdd, Nat.reduceLeDiff, d6, d1, d2, hb3, (hv H3).lenAt und23, lt_false hlt3]
          exact hK _ _ hml3 hmu3 (fun h => hit _ (by have := hq3 h; omega)) (hU1.trans hU3) hF3

/-- An event's fields, as Small looks at them. -/
structure EB (e : ES) : Prop where
  nm : e.nm.length < 2 ^ 60
  ky : e.ky.length < 2 ^ 60
  d : ∃ n, ValB n e.d
  o : ∃ (q : List Nat) (i1 i2 i3 i4 i5 i6 i7 i8 : Int) (w : AV) (M : List (List AV)), e.o = [.str q, .int .i64 i1, .int .i64 i2, .int .i64 i3, .int .i64 i4, .int .i64 i5, .int .i64 i6, .int .i64 i7, .int .i64 i8, w] ∧ q.length < 2 ^ 60 ∧ (∀ H, Holds H 1 w M) ∧ M.length * 16 ≤ 140737488355328 ∧ ∀ c ∈ M, ∃ s, c = [.str s] ∧ s.length < 2 ^ 60
theorem EB.pol {e : ES} (h : EB e) (H : Heap) : PolR H e.o := by
  obtain ⟨q, i1, i2, i3, i4, i5, i6, i7, i8, w, M, e, hq, hw, hm, hM⟩ := h.o
  exact ⟨q, i1, i2, i3, i4, i5, i6, i7, i8, w, M, e, hq, hw H, by omega, fun c hc => by obtain ⟨s, e, _⟩ := hM c hc; exact ⟨s, e⟩⟩
theorem EB.polT {e : ES} (h : EB e) (H : Heap) : PolT H e.o := by
  refine ⟨h.pol H, fun w' hw' M' hM' => ?_⟩
  obtain ⟨q, i1, i2, i3, i4, i5, i6, i7, i8, w, M, e, hq, hw, hm, hM⟩ := h.o
  rw [e] at hw'
  have : w = w' := by simpa using hw'
  subst this
  rw [holds_uniq hM' (hw H)]; exact hm
theorem EB.er {e : ES} (h : EB e) (hs : itemsN e.d 6000) (H : Heap) : ER H e :=
  ⟨h.nm, h.ky, h.d.elim fun n hn => ⟨n, hn.vr H⟩, h.pol H, h.d.elim fun n hn => ⟨n, hn.tb H⟩, h.polT H, fun k i s v w ed L hL => by have := hs k i s v w ed H L hL; omega⟩
theorem EB.len {e : ES} (h : EB e) : e.cells.length = 24 := by
  obtain ⟨n, hn⟩ := h.d
  simp [ES.cells, hn.len, (h.pol H0).len]

theorem f22b_ok {e : ES} (h : EB e) (H : Heap) (hF : Free H) (K : AV → Heap → Prop) (hK : ∀ b H', (b = true → itemsN e.d 6000) → Up H H' → Free H' → K (.bool b) H') : WF Try.prog 22 [.agg e.cells] H K := by
  have hl := h.len
  obtain ⟨n9, h9⟩ := h.d
  have dl := h9.len
  have hnm := h.nm
  have hky := h.ky
  obtain ⟨q, i1, i2, i3, i4, i5, i6, i7, i8, w, M, eo, hq, hw, hwn, hwc⟩ := h.o
  have h7 : (e.cells.drop 7).take 1 = [.str e.nm] := rfl
  have h8 : (e.cells.drop 8).take 1 = [.str e.ky] := rfl
  obtain ⟨d0, d1, d2, d3, d4, ed⟩ := five dl
  have h14 : (e.cells.drop 14).take 1 = [.str q] := by simp only [ES.cells, ed, eo]; rfl
  have h9' : (e.cells.drop 9).take 5 = e.d := by simp only [ES.cells, ed]; rfl
  have h23 : (e.cells.drop 23).take 1 = [w] := by simp only [ES.cells, ed, eo]; rfl
  refine WF_body Try.func22 (by kernel_rfl) rfl Try.ntmps22 (by rw [Try.results22]) (of_decide_eq_true (by kernel_rfl)) ?_
  simp (maxSteps := 1000000) only [sx, fx, implies_true, evBuildSlice, fillE, fillA, AV.isCell, here, plain, laid, evOp, avOf, avCell, strOf, evBin, evInt, evStr, evUn, evResults, evResultsL, AV.isUndef, AV.cells, Heap.store, wbool_off, after_scope, Nat.reduceMul, Nat.reducePow, Nat.reduceSub, Nat.reduceBEq, UInt8.reduceToNat, Nat.reduceEqDiff, Nat.reduceLT, reduceCtorEq, Nat.reduceAdd, Nat.reduceLeDiff, hF.at, hF.hp, hl]
  generalize hH1 : HP H [Blk.row 63 24 [e.cells] 0 0] = H1
  have hb : H1.blk H.next = some (.row 63 24 [e.cells] 0 0) := by rw [← hH1, hp_blk0]; rfl
  have hF1 : Free H1 := hH1 ▸ hF.hpF _
  have hU1 : Up H H1 := hH1 ▸ hF.hpU _
  refine drawStep [2] [0, 1, 3, 4, 5, 7, 8, 9, 11, 12, 13, 14, 2, 6, 10, 15, 16] _ rfl (by kernel_rfl) ?_
  simp (maxSteps := 1000000) only [sx, fx, implies_true, evBuildSlice, fillE, fillA, AV.isCell, here, plain, laid, evOp, avOf, avCell, strOf, evBin, evInt, evStr, evUn, evResults, evResultsL, AV.isUndef, AV.cells, Heap.store, wbool_off, after_scope, Nat.reduceMul, Nat.reducePow, Nat.reduceSub, Nat.reduceBEq, UInt8.reduceToNat, Nat.reduceEqDiff, Nat.reduceLT, reduceCtorEq, Nat.reduceAdd, Nat.reduceLeDiff, hb, h7, h8, h9', h14, ln9, Nat.reduceBEq]
  refine callStep_flag (f32b_ok n9 _ h9 6000 (by omega) (by omega) H1 hF1 _ fun x H2 x1 x2 x3 hU2 hF2 => ⟨hU2, ?_⟩)
  have hb2 := hU2 _ _ hb
  have hw0 : IntKind.i64.wrap (IntKind.i64.wrap (IntKind.i64.wrap (x - (e.nm.length : Int)) - (e.ky.length : Int)) - (q.length : Int)) = x - e.nm.length - e.ky.length - q.length := by
    rw [IntWalk.i64_in (x - _) (by omega), IntWalk.i64_in (x - _ - _) (by omega), IntWalk.i64_in _ (by omega)]
  simp (maxSteps := 1000000) only [sx, fx, implies_true, evBuildSlice, fillE, fillA, AV.isCell, here, plain, laid, evOp, avOf, avCell, strOf, evBin, evInt, evStr, evUn, evResults, evResultsL, AV.isUndef, AV.cells, Heap.store, wbool_off, after_scope, Nat.reduceMul, Nat.reducePow, Nat.reduceSub, Nat.reduceBEq, UInt8.reduceToNat, Nat.reduceEqDiff, Nat.reduceLT, reduceCtorEq, Nat.reduceAdd, Nat.reduceLeDiff]
  refine loopStep' (fun env H' => H' = H2 ∧ ∃ (i : Nat) (m' : Int), i ≤ M.length ∧ -2 ^ 62 - 2 ^ 61 ≤ m' ∧ m' ≤ x ∧ env.at (.tmp 4) = .int .i64 i ∧ env.at (.tmp 3) = .int .i64 m' ∧ env.at (.tmp 1) = .ptr H.next 0 0 0)
    (fun env H' => match env.at (.tmp 4) with | .int _ i => ((M.length : Int) - i).toNat | _ => 0) ?_ ?_
  · refine ⟨rfl, 0, x - e.nm.length - e.ky.length - q.length, Nat.zero_le _, by omega, by omega, ?_, ?_, ?_⟩
    · simp only [sx, fx, implies_true, evBuildSlice, fillE, fillA, AV.isCell, here, plain, laid, evOp, avOf, avCell, strOf, evBin, evInt, evStr, evUn, evResults, evResultsL, AV.isUndef, AV.cells, Heap.store, wbool_off, after_scope, Nat.reduceMul, Nat.reducePow, Nat.reduceSub, Nat.reduceBEq, UInt8.reduceToNat, Nat.reduceEqDiff, Nat.reduceLT, reduceCtorEq, Nat.reduceAdd, Nat.reduceLeDiff]; rfl
    · simp only [sx, fx, implies_true, evBuildSlice, fillE, fillA, AV.isCell, here, plain, laid, evOp, avOf, avCell, strOf, evBin, evInt, evStr, evUn, evResults, evResultsL, AV.isUndef, AV.cells, Heap.store, wbool_off, after_scope, Nat.reduceMul, Nat.reducePow, Nat.reduceSub, Nat.reduceBEq, UInt8.reduceToNat, Nat.reduceEqDiff, Nat.reduceLT, reduceCtorEq, Nat.reduceAdd, Nat.reduceLeDiff, hw0]
    · simp only [sx, fx, implies_true, evBuildSlice, fillE, fillA, AV.isCell, here, plain, laid, evOp, avOf, avCell, strOf, evBin, evInt, evStr, evUn, evResults, evResultsL, AV.isUndef, AV.cells, Heap.store, wbool_off, after_scope, Nat.reduceMul, Nat.reducePow, Nat.reduceSub, Nat.reduceBEq, UInt8.reduceToNat, Nat.reduceEqDiff, Nat.reduceLT, reduceCtorEq, Nat.reduceAdd, Nat.reduceLeDiff]
  · have hitem : ∀ m' : Int, m' ≤ x → 0 ≤ m' → itemsN e.d 6000 := fun m' hm h0 k i s v w e1 G L hL => by
      have := x3 (by omega) k i s v w e1 G L hL
      omega
    rintro env H' ⟨rfl, i, m', hi, hml, hmu, e4, e3, e1⟩
    by_cases hlt : i < M.length
    · obtain ⟨c, hc⟩ : ∃ c, M[i]? = some c := ⟨_, List.getElem?_eq_getElem hlt⟩
      obtain ⟨s', rfl, hs'⟩ := hwc c (List.mem_of_getElem? hc)
      obtain ⟨p, hp, hload, _⟩ := (hw H').index und24 sz9 .i64 hc
      by_cases hm : m' ≥ 0
      · have hw1 : IntKind.i64.wrap (IntKind.i64.wrap (m' - 1) - (s'.length : Int)) = m' - 1 - s'.length := by
          rw [IntWalk.i64_in (m' - 1) (by omega), IntWalk.i64_in _ (by omega)]
        simp (maxSteps := 1000000) only [sx, fx, implies_true, evBuildSlice, fillE, fillA, AV.isCell, here, plain, laid, evOp, avOf, avCell, strOf, evBin, evInt, evStr, evUn, evResults, evResultsL, AV.isUndef, AV.cells, Heap.store, wbool_off, after_scope, Nat.reduceMul, Nat.reducePow, Nat.reduceSub, Nat.reduceBEq, UInt8.reduceToNat, Nat.reduceEqDiff, Nat.reduceLT, reduceCtorEq, Nat.reduceAdd, Nat.reduceLeDiff, e4, e3, e1, hb2, h23, (hw H').lenAt und24, lt_true hlt, hm, hp, hload H' (Up.refl _), ln9, hw1, wrap_succ (i := i) (by omega)]
        refine ⟨⟨i + 1, _, hlt, ?_, ?_, rfl, rfl⟩, ?_⟩ <;> omega
      · simp (maxSteps := 1000000) only [sx, fx, implies_true, evBuildSlice, fillE, fillA, AV.isCell, here, plain, laid, evOp, avOf, avCell, strOf, evBin, evInt, evStr, evUn, evResults, evResultsL, AV.isUndef, AV.cells, Heap.store, wbool_off, after_scope, Nat.reduceMul, Nat.reducePow, Nat.reduceSub, Nat.reduceBEq, UInt8.reduceToNat, Nat.reduceEqDiff, Nat.reduceLT, reduceCtorEq, Nat.reduceAdd, Nat.reduceLeDiff, e4, e3, e1, hb2, h23, (hw H').lenAt und24, lt_true hlt, hm]
        exact hK _ _ (by simp) (hU1.trans hU2) hF2
    · simp (maxSteps := 1000000) only [sx, fx, implies_true, evBuildSlice, fillE, fillA, AV.isCell, here, plain, laid, evOp, avOf, avCell, strOf, evBin, evInt, evStr, evUn, evResults, evResultsL, AV.isUndef, AV.cells, Heap.store, wbool_off, after_scope, Nat.reduceMul, Nat.reducePow, Nat.reduceSub, Nat.reduceBEq, UInt8.reduceToNat, Nat.reduceEqDiff, Nat.reduceLT, reduceCtorEq, Nat.reduceAdd, Nat.reduceLeDiff, e4, e3, e1, hb2, h23, (hw H').lenAt und24, lt_false hlt]
      exact hK _ _ (fun hb => hitem m' hmu (by simpa using hb)) (hU1.trans hU2) hF2

theorem f8b_ok {v : AV} {L : List (List AV)} (H : Heap) (hF : Free H) (hv : ∀ H, Holds H 24 v L) (hL : ∀ cs ∈ L, ∃ e, cs = ES.cells e ∧ EB e) (hn : L.length < 2 ^ 60) (K : AV → Heap → Prop)
    (hK : ∀ b H', (b = true → L.length ≤ 60 ∧ ∀ e, ES.cells e ∈ L → EB e → itemsN e.d 6000) → Up H H' → Free H' → K (.bool b) H') : WF Try.prog 8 [v] H K := by
  refine WF_body Try.func8 (by kernel_rfl) rfl Try.ntmps8 (by rw [Try.results8]) (of_decide_eq_true (by kernel_rfl)) ?_
  simp (maxSteps := 1000000) only [sx, fx, implies_true, evBuildSlice, fillE, fillA, AV.isCell, here, plain, laid, evOp, avOf, avCell, strOf, evBin, evInt, evStr, evUn, evResults, evResultsL, AV.isUndef, AV.cells, Heap.store, wbool_off, after_scope, Nat.reduceMul, Nat.reducePow, Nat.reduceSub, Nat.reduceBEq, UInt8.reduceToNat, Nat.reduceEqDiff, Nat.reduceLT, reduceCtorEq, Nat.reduceAdd, Nat.reduceLeDiff]
  refine loopStep' (fun env H' => Up H H' ∧ Free H' ∧ ∃ (i : Nat), i ≤ L.length ∧ (∀ e, ES.cells e ∈ L.take i → EB e → itemsN e.d 6000) ∧ env.at (.tmp 3) = .int .i64 i ∧ env.at (.tmp 0) = v)
    (fun env H' => match env.at (.tmp 3) with | .int _ i => ((L.length : Int) - i).toNat | _ => 0) ?_ ?_
  · refine ⟨Up.refl _, hF, 0, Nat.zero_le _, by simp, ?_, ?_⟩
    · simp only [sx, fx, implies_true, evBuildSlice, fillE, fillA, AV.isCell, here, plain, laid, evOp, avOf, avCell, strOf, evBin, evInt, evStr, evUn, evResults, evResultsL, AV.isUndef, AV.cells, Heap.store, wbool_off, after_scope, Nat.reduceMul, Nat.reducePow, Nat.reduceSub, Nat.reduceBEq, UInt8.reduceToNat, Nat.reduceEqDiff, Nat.reduceLT, reduceCtorEq, Nat.reduceAdd, Nat.reduceLeDiff]; rfl
    · simp only [sx, fx, implies_true, evBuildSlice, fillE, fillA, AV.isCell, here, plain, laid, evOp, avOf, avCell, strOf, evBin, evInt, evStr, evUn, evResults, evResultsL, AV.isUndef, AV.cells, Heap.store, wbool_off, after_scope, Nat.reduceMul, Nat.reducePow, Nat.reduceSub, Nat.reduceBEq, UInt8.reduceToNat, Nat.reduceEqDiff, Nat.reduceLT, reduceCtorEq, Nat.reduceAdd, Nat.reduceLeDiff]
  · rintro env H' ⟨hU', hF', i, hi, hall, e3, e0⟩
    by_cases hlt : i < L.length
    · obtain ⟨cs, hc⟩ : ∃ cs, L[i]? = some cs := ⟨_, List.getElem?_eq_getElem hlt⟩
      obtain ⟨e, rfl, he⟩ := hL cs (List.mem_of_getElem? hc)
      have hel := he.len
      obtain ⟨p, hp, hload, _⟩ := (hv H').index und22 sz63 .i64 hc
      by_cases hm : (i : Int) ≤ 60
      · simp (maxSteps := 1000000) only [sx, fx, implies_true, evBuildSlice, fillE, fillA, AV.isCell, here, plain, laid, evOp, avOf, avCell, strOf, evBin, evInt, evStr, evUn, evResults, evResultsL, AV.isUndef, AV.cells, Heap.store, wbool_off, after_scope, Nat.reduceMul, Nat.reducePow, Nat.reduceSub, Nat.reduceBEq, UInt8.reduceToNat, Nat.reduceEqDiff, Nat.reduceLT, reduceCtorEq, Nat.reduceAdd, Nat.reduceLeDiff, e3, e0, (hv H').lenAt und22, lt_true hlt, hm, hp, hload H' (Up.refl _)]
        refine callStep (f22b_ok he H' hF' _ fun b H2 hb hU2 hF2 => ?_)
        cases b
        · simp (maxSteps := 1000000) only [sx, fx, implies_true, evBuildSlice, fillE, fillA, AV.isCell, here, plain, laid, evOp, avOf, avCell, strOf, evBin, evInt, evStr, evUn, evResults, evResultsL, AV.isUndef, AV.cells, Heap.store, wbool_off, after_scope, Nat.reduceMul, Nat.reducePow, Nat.reduceSub, Nat.reduceBEq, UInt8.reduceToNat, Nat.reduceEqDiff, Nat.reduceLT, reduceCtorEq, Nat.reduceAdd, Nat.reduceLeDiff]
          exact hK _ _ (by simp) (hU'.trans hU2) hF2
        · simp (maxSteps := 1000000) only [sx, fx, implies_true, evBuildSlice, fillE, fillA, AV.isCell, here, plain, laid, evOp, avOf, avCell, strOf, evBin, evInt, evStr, evUn, evResults, evResultsL, AV.isUndef, AV.cells, Heap.store, wbool_off, after_scope, Nat.reduceMul, Nat.reducePow, Nat.reduceSub, Nat.reduceBEq, UInt8.reduceToNat, Nat.reduceEqDiff, Nat.reduceLT, reduceCtorEq, Nat.reduceAdd, Nat.reduceLeDiff, e3, e0, wrap_succ (i := i) (by omega)]
          refine ⟨⟨hU'.trans hU2, hF2, i + 1, hlt, fun e' hm' hB' => ?_, rfl⟩, ?_⟩
          · rw [List.take_add_one, hc] at hm'
            rcases List.mem_append.1 hm' with hm' | hm'
            · exact hall e' hm' hB'
            · simp only [Option.toList_some, List.mem_singleton] at hm'
              have hd : e'.d = e.d := by
                have h1 : (e'.cells.drop 9).take 5 = e'.d := by
                  obtain ⟨n', hn'⟩ := hB'.d
                  obtain ⟨d0, d1, d2, d3, d4, ed⟩ := five hn'.len
                  simp only [ES.cells, ed]; rfl
                have h2 : (e.cells.drop 9).take 5 = e.d := by
                  obtain ⟨n', hn'⟩ := he.d
                  obtain ⟨d0, d1, d2, d3, d4, ed⟩ := five hn'.len
                  simp only [ES.cells, ed]; rfl
                rw [← h1, ← h2, hm']
              rw [hd]; exact hb rfl
          · omega
      · simp (maxSteps := 1000000) only [sx, fx, implies_true, evBuildSlice, fillE, fillA, AV.isCell, here, plain, laid, evOp, avOf, avCell, strOf, evBin, evInt, evStr, evUn, evResults, evResultsL, AV.isUndef, AV.cells, Heap.store, wbool_off, after_scope, Nat.reduceMul, Nat.reducePow, Nat.reduceSub, Nat.reduceBEq, UInt8.reduceToNat, Nat.reduceEqDiff, Nat.reduceLT, reduceCtorEq, Nat.reduceAdd, Nat.reduceLeDiff, e3, e0, (hv H').lenAt und22, lt_true hlt, hm]
        exact hK _ _ (by simp; omega) hU' hF'
    · simp (maxSteps := 1000000) only [sx, fx, implies_true, evBuildSlice, fillE, fillA, AV.isCell, here, plain, laid, evOp, avOf, avCell, strOf, evBin, evInt, evStr, evUn, evResults, evResultsL, AV.isUndef, AV.cells, Heap.store, wbool_off, after_scope, Nat.reduceMul, Nat.reducePow, Nat.reduceSub, Nat.reduceBEq, UInt8.reduceToNat, Nat.reduceEqDiff, Nat.reduceLT, reduceCtorEq, Nat.reduceAdd, Nat.reduceLeDiff, e3, e0, (hv H').lenAt und22, lt_false hlt]
      obtain rfl : i = L.length := by omega
      rw [List.take_length] at hall
      exact hK _ _ (fun hb => ⟨by simp at hb; omega, hall⟩) hU' hF'
end Go.Proofs.T
