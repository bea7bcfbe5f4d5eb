import Derived.Test.YtlllflmjpclobaaW18
set_option linter.unusedVariables false
set_option linter.unusedSimpArgs false
set_option linter.unusedVariables false
set_option linter.unusedSimpArgs false
set_option maxRecDepth 100000
namespace Go.Proofs.T
open Go.Ev
theorem eqn24_n  : eqA Try.prog 10000 24 .nilslice .nilslice = some true := by rw [show (10000 : Nat) = 9999 + 1 from rfl]; simp [eqA, und24]
theorem eqn24_e  : eqA Try.prog 10000 24 .eslice .nilslice = some false := by rw [show (10000 : Nat) = 9999 + 1 from rfl]; simp [eqA, und24]
theorem eqn24_l (n : Nat) (L : List (List AV)) : eqA Try.prog 10000 24 (.lst n L) .nilslice = some false := by rw [show (10000 : Nat) = 9999 + 1 from rfl]; simp [eqA, und24]
theorem eqn24_s (b o l c : Nat) (ex : Bool) (g : Nat) : eqA Try.prog 10000 24 (.slice b o l c ex g) .nilslice = some false := by rw [show (10000 : Nat) = 9999 + 1 from rfl]; simp [eqA, und24]

theorem f66_ok {v : AV} {M : List (List AV)} {H : Heap} (hF : Free H) (hv : Holds H 1 v M) (hM : StrL M) (hn : M.length * 16 ≤ 140737488355328) (K : AV → Heap → Prop) (hK : ∀ u H', Up H H' → Free H' → Own H H' 9 1 u M → K u H') : WF Try.prog 66 [v] H K := by
  refine WF_body Try.func66 (by kernel_rfl) rfl Try.ntmps66 (by rw [Try.results66]) (of_decide_eq_true (by kernel_rfl)) ?_
  have hv' := hv
  obtain ⟨h0, ⟨rfl, rfl | rfl⟩ | rfl | ⟨b, off, cap, ex, g, ty, els, gen, wgen, rfl, h2, h3, h4⟩⟩ := hv'
  · simp (maxSteps := 1000000) only [sx, fx, implies_true, evBuildSlice, fillE, fillA, AV.isCell, here, plain, laid, evOp, avOf, avCell, strOf, evBin, evInt, evStr, evUn, evResults, evResultsL, AV.isUndef, AV.cells, Heap.store, wbool_off, after_scope, Nat.reduceMul, Nat.reducePow, Nat.reduceSub, Nat.reduceBEq, UInt8.reduceToNat, Nat.reduceEqDiff, Nat.reduceLT, reduceCtorEq, Nat.reduceAdd, Nat.reduceLeDiff, eqOk, eqn24_n]
    exact hK _ _ (Up.refl _) hF Own.nil
  · simp (maxSteps := 1000000) only [sx, fx, implies_true, evBuildSlice, fillE, fillA, AV.isCell, here, plain, laid, evOp, avOf, avCell, strOf, evBin, evInt, evStr, evUn, evResults, evResultsL, AV.isUndef, AV.cells, Heap.store, wbool_off, after_scope, Nat.reduceMul, Nat.reducePow, Nat.reduceSub, Nat.reduceBEq, UInt8.reduceToNat, Nat.reduceEqDiff, Nat.reduceLT, reduceCtorEq, Nat.reduceAdd, Nat.reduceLeDiff, eqOk, eqn24_e, hF.hp, hF.at]
    refine opStep_append app24 (L := []) (own_hp (k := 0) hF (Up.refl _) rfl rfl (by simp)) (hF.hpF _) (hF.hpU _) (hv.up (hF.hpU _)) (StrL.cells hM) (by simp only [maxBytes, List.length_nil]; omega) (by simp only [maxBytes, List.length_nil]; omega) (fun u K' hO hU' hF' => ?_)
    simp (maxSteps := 1000000) only [sx, fx, implies_true, evBuildSlice, fillE, fillA, AV.isCell, here, plain, laid, evOp, avOf, avCell, strOf, evBin, evInt, evStr, evUn, evResults, evResultsL, AV.isUndef, AV.cells, Heap.store, wbool_off, after_scope, Nat.reduceMul, Nat.reducePow, Nat.reduceSub, Nat.reduceBEq, UInt8.reduceToNat, Nat.reduceEqDiff, Nat.reduceLT, reduceCtorEq, Nat.reduceAdd, Nat.reduceLeDiff]
    exact hK _ _ hU' hF' (by simpa using hO)
  · simp (maxSteps := 1000000) only [sx, fx, implies_true, evBuildSlice, fillE, fillA, AV.isCell, here, plain, laid, evOp, avOf, avCell, strOf, evBin, evInt, evStr, evUn, evResults, evResultsL, AV.isUndef, AV.cells, Heap.store, wbool_off, after_scope, Nat.reduceMul, Nat.reducePow, Nat.reduceSub, Nat.reduceBEq, UInt8.reduceToNat, Nat.reduceEqDiff, Nat.reduceLT, reduceCtorEq, Nat.reduceAdd, Nat.reduceLeDiff, eqOk, eqn24_l, hF.hp, hF.at]
    refine opStep_append app24 (L := []) (own_hp (k := 0) hF (Up.refl _) rfl rfl (by simp)) (hF.hpF _) (hF.hpU _) (hv.up (hF.hpU _)) (StrL.cells hM) (by simp only [maxBytes, List.length_nil]; omega) (by simp only [maxBytes, List.length_nil]; omega) (fun u K' hO hU' hF' => ?_)
    simp (maxSteps := 1000000) only [sx, fx, implies_true, evBuildSlice, fillE, fillA, AV.isCell, here, plain, laid, evOp, avOf, avCell, strOf, evBin, evInt, evStr, evUn, evResults, evResultsL, AV.isUndef, AV.cells, Heap.store, wbool_off, after_scope, Nat.reduceMul, Nat.reducePow, Nat.reduceSub, Nat.reduceBEq, UInt8.reduceToNat, Nat.reduceEqDiff, Nat.reduceLT, reduceCtorEq, Nat.reduceAdd, Nat.reduceLeDiff]
    exact hK _ _ hU' hF' (by simpa using hO)
  · simp (maxSteps := 1000000) only [sx, fx, implies_true, evBuildSlice, fillE, fillA, AV.isCell, here, plain, laid, evOp, avOf, avCell, strOf, evBin, evInt, evStr, evUn, evResults, evResultsL, AV.isUndef, AV.cells, Heap.store, wbool_off, after_scope, Nat.reduceMul, Nat.reducePow, Nat.reduceSub, Nat.reduceBEq, UInt8.reduceToNat, Nat.reduceEqDiff, Nat.reduceLT, reduceCtorEq, Nat.reduceAdd, Nat.reduceLeDiff, eqOk, eqn24_s, hF.hp, hF.at]
    refine opStep_append app24 (L := []) (own_hp (k := 0) hF (Up.refl _) rfl rfl (by simp)) (hF.hpF _) (hF.hpU _) (hv.up (hF.hpU _)) (StrL.cells hM) (by simp only [maxBytes, List.length_nil]; omega) (by simp only [maxBytes, List.length_nil]; omega) (fun u K' hO hU' hF' => ?_)
    simp (maxSteps := 1000000) only [sx, fx, implies_true, evBuildSlice, fillE, fillA, AV.isCell, here, plain, laid, evOp, avOf, avCell, strOf, evBin, evInt, evStr, evUn, evResults, evResultsL, AV.isUndef, AV.cells, Heap.store, wbool_off, after_scope, Nat.reduceMul, Nat.reducePow, Nat.reduceSub, Nat.reduceBEq, UInt8.reduceToNat, Nat.reduceEqDiff, Nat.reduceLT, reduceCtorEq, Nat.reduceAdd, Nat.reduceLeDiff]
    exact hK _ _ hU' hF' (by simpa using hO)

def Copy (n : Nat) : Prop := ∀ (H : Heap) (cs : List AV), TB n H cs → Free H → ∀ (K : AV → Heap → Prop), (∀ d' H', d'.length = 5 → d'.all AV.isCell = true → Up H H' → Free H' → K (.agg d') H') → WF Try.prog 65 [.agg cs] H K

theorem f86_ok {n : Nat} (hc : Copy n) {H : Heap} {v : AV} {L : List (List AV)} (hF : Free H) (hv : Holds H 5 v L) (hL : ∀ c ∈ L, TB n H c) (hn : L.length * 80 ≤ 140737488355328) (K : AV → Heap → Prop) (hK : ∀ u L' H', Up H H' → Free H' → Own H H' 26 5 u L' → K u H') : WF Try.prog 86 [v] H K := by
  refine WF_body Try.func86 (by kernel_rfl) rfl Try.ntmps86 (by rw [Try.results86]) (of_decide_eq_true (by kernel_rfl)) ?_
  have lv := hv.lenAt (P := Try.prog) und23
  simp (maxSteps := 1000000) only [sx, fx, ux, implies_true, evBuildSlice, fillE, fillA, here, plain, laid, evOp, avOf, avCell, strOf, evBin, evInt, evStr, evUn, evResults, evResultsL, Heap.store, wbool_off, after_scope, Nat.reduceMul, Nat.reducePow, Nat.reduceSub, Nat.reduceBEq, UInt8.reduceToNat, Nat.reduceEqDiff, Nat.reduceLT, reduceCtorEq, Nat.reduceAdd, Nat.reduceLeDiff, lv]
  refine loopStep' (fun env H' => ∃ (i : Nat) (u : AV) (L' : List (List AV)), i ≤ L.length ∧ env.at (.tmp 8) = .int .i64 i ∧ env.at (.tmp 7) = .int .i64 L.length ∧ env.at (.tmp 6) = v ∧ env.at (.tmp 3) = u ∧ L'.length = i ∧ Own H H' 26 5 u L' ∧ Up H H' ∧ Free H')
    (fun env H' => match env.at (.tmp 8) with | .int _ i => ((L.length : Int) - i).toNat | _ => 0) ?_ ?_
  · exact ⟨0, .nilslice, [], Nat.zero_le _, by simp only [sx, fx, ux, implies_true, evBuildSlice, fillE, fillA, here, plain, laid, evOp, avOf, avCell, strOf, evBin, evInt, evStr, evUn, evResults, evResultsL, Heap.store, wbool_off, after_scope, Nat.reduceMul, Nat.reducePow, Nat.reduceSub, Nat.reduceBEq, UInt8.reduceToNat, Nat.reduceEqDiff, Nat.reduceLT, reduceCtorEq, Nat.reduceAdd, Nat.reduceLeDiff]; rfl, by simp only [sx, fx, ux, implies_true, evBuildSlice, fillE, fillA, here, plain, laid, evOp, avOf, avCell, strOf, evBin, evInt, evStr, evUn, evResults, evResultsL, Heap.store, wbool_off, after_scope, Nat.reduceMul, Nat.reducePow, Nat.reduceSub, Nat.reduceBEq, UInt8.reduceToNat, Nat.reduceEqDiff, Nat.reduceLT, reduceCtorEq, Nat.reduceAdd, Nat.reduceLeDiff], by simp only [sx, fx, ux, implies_true, evBuildSlice, fillE, fillA, here, plain, laid, evOp, avOf, avCell, strOf, evBin, evInt, evStr, evUn, evResults, evResultsL, Heap.store, wbool_off, after_scope, Nat.reduceMul, Nat.reducePow, Nat.reduceSub, Nat.reduceBEq, UInt8.reduceToNat, Nat.reduceEqDiff, Nat.reduceLT, reduceCtorEq, Nat.reduceAdd, Nat.reduceLeDiff], by simp only [sx, fx, ux, implies_true, evBuildSlice, fillE, fillA, here, plain, laid, evOp, avOf, avCell, strOf, evBin, evInt, evStr, evUn, evResults, evResultsL, Heap.store, wbool_off, after_scope, Nat.reduceMul, Nat.reducePow, Nat.reduceSub, Nat.reduceBEq, UInt8.reduceToNat, Nat.reduceEqDiff, Nat.reduceLT, reduceCtorEq, Nat.reduceAdd, Nat.reduceLeDiff], rfl, Own.nil, Up.refl _, hF⟩
  · rintro env H' ⟨i, u, L', hi, e8, e7, e6, e3, hl, hO, hU, hF'⟩
    by_cases hlt : i < L.length
    · obtain ⟨c, hcc⟩ : ∃ c, L[i]? = some c := ⟨_, List.getElem?_eq_getElem hlt⟩
      have hT := hL c (List.mem_of_getElem? hcc)
      have cl := hT.vr.len
      have cc := hT.vr.cells
      have ct : c.take 5 = c := List.take_of_length_le (by omega)
      have hsp : splice zv 0 c = c := by simp [splice, zv, cl]
      unfold zv at hsp
      obtain ⟨p, hp, hload, _⟩ := (hv.up hU).index (P := Try.prog) und23 sz26 .i64 hcc
      simp (maxSteps := 1000000) only [sx, fx, ux, implies_true, evBuildSlice, fillE, fillA, here, plain, laid, evOp, avOf, avCell, strOf, evBin, evInt, evStr, evUn, evResults, evResultsL, Heap.store, wbool_off, after_scope, Nat.reduceMul, Nat.reducePow, Nat.reduceSub, Nat.reduceBEq, UInt8.reduceToNat, Nat.reduceEqDiff, Nat.reduceLT, reduceCtorEq, Nat.reduceAdd, Nat.reduceLeDiff, e8, e7, e6, e3, lt_true hlt, hp, hload _ (Up.refl _), hF'.at, hF'.hp, cl, cc, ct, hsp]
      refine callStep (hc _ c (hT.up (hU.trans (hF'.hpU _))) (hF'.hpF _) _ fun d' H4 dl dc hU4 hF4 => ?_)
      have dt : d'.take 5 = d' := List.take_of_length_le (by omega)
      simp (maxSteps := 1000000) only [sx, fx, ux, implies_true, evBuildSlice, fillE, fillA, here, plain, laid, evOp, avOf, avCell, strOf, evBin, evInt, evStr, evUn, evResults, evResultsL, Heap.store, wbool_off, after_scope, Nat.reduceMul, Nat.reducePow, Nat.reduceSub, Nat.reduceBEq, UInt8.reduceToNat, Nat.reduceEqDiff, Nat.reduceLT, reduceCtorEq, Nat.reduceAdd, Nat.reduceLeDiff, e8, e7, e6, e3, hF4.at, hF4.hp, dl, dc, dt]
      refine opStep_append app23 (hO.up ((hF'.hpU _).trans (hU4.trans (hF4.hpU _)))) (hF4.hpF _) (hU.trans ((hF'.hpU _).trans (hU4.trans (hF4.hpU _)))) (holds_hp (k := 0) (L := [d']) rfl rfl (Nat.le_refl _) (by simp [dl])) (fun cs hcs => by rw [List.mem_singleton] at hcs; rw [hcs]; exact dc) (by simp only [maxBytes, List.length_cons, List.length_nil]; omega) (by simp only [maxBytes, List.length_cons, List.length_nil]; omega) (fun u2 K2 oO oU oF => ?_)
      simp (maxSteps := 1000000) only [sx, fx, ux, implies_true, evBuildSlice, fillE, fillA, here, plain, laid, evOp, avOf, avCell, strOf, evBin, evInt, evStr, evUn, evResults, evResultsL, Heap.store, wbool_off, after_scope, Nat.reduceMul, Nat.reducePow, Nat.reduceSub, Nat.reduceBEq, UInt8.reduceToNat, Nat.reduceEqDiff, Nat.reduceLT, reduceCtorEq, Nat.reduceAdd, Nat.reduceLeDiff, e8, e7, e6, e3, wrap_succ (i := i) (by omega)]
      refine ⟨⟨i + 1, u2, L' ++ [d'], hlt, rfl, rfl, by simp [hl], oO, oU, oF⟩, ?_⟩
      omega
    · simp (maxSteps := 1000000) only [sx, fx, ux, implies_true, evBuildSlice, fillE, fillA, here, plain, laid, evOp, avOf, avCell, strOf, evBin, evInt, evStr, evUn, evResults, evResultsL, Heap.store, wbool_off, after_scope, Nat.reduceMul, Nat.reducePow, Nat.reduceSub, Nat.reduceBEq, UInt8.reduceToNat, Nat.reduceEqDiff, Nat.reduceLT, reduceCtorEq, Nat.reduceAdd, Nat.reduceLeDiff, e8, e7, e6, e3, lt_false hlt]
      exact hK _ _ _ hU hF' hO

theorem copy_ok : ∀ n, Copy n := by
  intro n
  induction n with
  | zero => intro H cs h; exact h.elim
  | succ n ih =>
    intro H cs h hF K hK
    obtain ⟨k, i, s, v, w, L, M, rfl, hv, hl, hL, hw, hm, hM⟩ := h
    have hvc := holds_cell hv
    have hwc := holds_cell hw
    refine WF_body Try.func65 (by kernel_rfl) rfl Try.ntmps65 (by rw [Try.results65]) (of_decide_eq_true (by kernel_rfl)) ?_
    simp (maxSteps := 1000000) only [sx, fx, ux, implies_true, evBuildSlice, fillE, fillA, here, plain, laid, evOp, avOf, avCell, strOf, evBin, evInt, evStr, evUn, evResults, evResultsL, Heap.store, wbool_off, after_scope, Nat.reduceMul, Nat.reducePow, Nat.reduceSub, Nat.reduceBEq, UInt8.reduceToNat, Nat.reduceEqDiff, Nat.reduceLT, reduceCtorEq, Nat.reduceAdd, Nat.reduceLeDiff, hF.at, hF.hp]
    generalize hH1 : HP H [Blk.row 26 5 [[.int .i64 k, .int .i64 i, .str s, v, w]] 0 0, _] = H1
    have b0 : H1.blk H.next = some (.row 26 5 [[.int .i64 k, .int .i64 i, .str s, v, w]] 0 0) := by rw [← hH1, hp_blk0]; rfl
    have b1 : H1.blk (H.next + 1) = some (.row 26 5 [zv] 0 0) := by rw [← hH1, hp_blk]; rfl
    have hF1 : Free H1 := hH1 ▸ hF.hpF _
    have hU1 : Up H H1 := hH1 ▸ hF.hpU _
    refine drawStep [2] [0, 1, 3, 4, 2, 5, 6, 7, 8, 9] _ rfl (by kernel_rfl) ?_
    simp (maxSteps := 1000000) only [sx, fx, ux, implies_true, evBuildSlice, fillE, fillA, here, plain, laid, evOp, avOf, avCell, strOf, evBin, evInt, evStr, evUn, evResults, evResultsL, Heap.store, wbool_off, after_scope, Nat.reduceMul, Nat.reducePow, Nat.reduceSub, Nat.reduceBEq, UInt8.reduceToNat, Nat.reduceEqDiff, Nat.reduceLT, reduceCtorEq, Nat.reduceAdd, Nat.reduceLeDiff, b0]
    refine callStep_flag (f86_ok ih hF1 (hv.up hU1) (fun c hc => (hL c hc).up hU1) hl _ fun u L' H2 hU2 hF2 oI => ⟨hU2, ?_⟩)
    obtain ⟨p1, p2, p3⟩ := own_plain oI
    simp (maxSteps := 1000000) only [sx, fx, ux, implies_true, evBuildSlice, fillE, fillA, here, plain, laid, evOp, avOf, avCell, strOf, evBin, evInt, evStr, evUn, evResults, evResultsL, Heap.store, wbool_off, after_scope, Nat.reduceMul, Nat.reducePow, Nat.reduceSub, Nat.reduceBEq, UInt8.reduceToNat, Nat.reduceEqDiff, Nat.reduceLT, reduceCtorEq, Nat.reduceAdd, Nat.reduceLeDiff]
    refine callStep (f66_ok hF2 (hw.up (hU1.trans hU2)) hM hm _ fun u3 H3 hU3 hF3 oK => ?_)
    obtain ⟨q1, q2, q3⟩ := own_plain oK
    have c0 := hU3 _ _ (hU2 _ _ b0)
    have c1 := hU3 _ _ (hU2 _ _ b1)
    have c1' : ∀ x, (H3.set H.next x).blk (H.next + 1) = some (.row 26 5 [zv] 0 0) := fun x => by rw [Heap.set_other _ _ _ (by omega)]; exact c1
    have hUU := hU1.trans (hU2.trans hU3)
    unfold zv at c1'
    simp (maxSteps := 1000000) only [sx, fx, ux, implies_true, evBuildSlice, fillE, fillA, here, plain, laid, evOp, avOf, avCell, strOf, evBin, evInt, evStr, evUn, evResults, evResultsL, Heap.store, wbool_off, after_scope, Nat.reduceMul, Nat.reducePow, Nat.reduceSub, Nat.reduceBEq, UInt8.reduceToNat, Nat.reduceEqDiff, Nat.reduceLT, reduceCtorEq, Nat.reduceAdd, Nat.reduceLeDiff, c0, c1', p1, p2, p3, q1, q2, q3]
    refine hK _ _ rfl (by simp only [List.all_cons, List.all_nil, p3, q3]; rfl) ((hUU.set (hF _ (Nat.le_refl _)) _).set (hF _ (by omega)) _) ((hF3.set (hF3.lt c0) _).set (by rw [set_next]; exact hF3.lt c1) _)
end Go.Proofs.T
