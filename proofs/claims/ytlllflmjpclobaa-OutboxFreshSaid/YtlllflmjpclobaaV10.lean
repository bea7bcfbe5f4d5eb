import Derived.Test.YtlllflmjpclobaaV9
set_option linter.unusedVariables false
set_option linter.unusedSimpArgs false
set_option linter.unusedVariables false
set_option linter.unusedSimpArgs false
set_option maxRecDepth 100000
namespace Go.Proofs.T
open Go.Ev

def cmdL : List (List AV) := [[.int .i64 7], [.int .i64 12], [.int .i64 14], [.int .i64 16], [.int .i64 19], [.int .i64 23], [.int .i64 18], [.int .i64 27], [.int .i64 28], [.int .i64 29], [.int .i64 30], [.int .i64 31], [.int .i64 32], [.int .i64 35]]
theorem f90b_ok (H : Heap) (hF : Free H) (K : AV → Heap → Prop) (hK : ∀ v H', Up H H' → Free H' → Holds H' 1 v cmdL → K v H') : WF Try.prog 90 [] H K := by
  refine WF_body Try.func90 (by kernel_rfl) rfl Try.ntmps90 (by rw [Try.results90]) (of_decide_eq_true (by kernel_rfl)) ?_
  simp (maxSteps := 1000000) only [sx, fx, implies_true, evBuildSlice, fillE, fillA, AV.isCell, here, plain, laid, evOp, avOf, avCell, strOf, evBin, evInt, evStr, evUn, evResults, evResultsL, AV.isUndef, AV.cells, Heap.store, wbool_off, after_scope, Nat.reduceMul, Nat.reducePow, Nat.reduceSub, Nat.reduceBEq, UInt8.reduceToNat, Nat.reduceEqDiff, Nat.reduceLT, reduceCtorEq, Nat.reduceAdd, Nat.reduceLeDiff, hF.at, hF.hp]
  exact hK _ _ (hF.hpU _) (hF.hpF _) (holds_hp (k := 0) (n := 14) (L := cmdL) rfl rfl (Nat.le_refl _) (by simp [cmdL]))

theorem cmdL_29 : ∀ (i : Nat), i ≤ 9 → ∀ x, cmdL[i]? = some [.int .i64 x] → (x = 29 ↔ i = 9) := by
  intro i hi x h
  match i, hi with
  | 0, _ | 1, _ | 2, _ | 3, _ | 4, _ | 5, _ | 6, _ | 7, _ | 8, _ | 9, _ => simp [cmdL] at h; subst h; simp

theorem f70b_ok (k : Int) (H : Heap) (hF : Free H) (K : AV → Heap → Prop) (hK : ∀ x H', (k = 29 → x = 10) → Up H H' → Free H' → K (.int .i64 x) H') : WF Try.prog 70 [.int .i64 k] H K := by
  refine WF_body Try.func70 (by kernel_rfl) rfl Try.ntmps70 (by rw [Try.results70]) (of_decide_eq_true (by kernel_rfl)) ?_
  simp (maxSteps := 1000000) only [sx, fx, implies_true, evBuildSlice, fillE, fillA, AV.isCell, here, plain, laid, evOp, avOf, avCell, strOf, evBin, evInt, evStr, evUn, evResults, evResultsL, AV.isUndef, AV.cells, Heap.store, wbool_off, after_scope, Nat.reduceMul, Nat.reducePow, Nat.reduceSub, Nat.reduceBEq, UInt8.reduceToNat, Nat.reduceEqDiff, Nat.reduceLT, reduceCtorEq, Nat.reduceAdd, Nat.reduceLeDiff]
  refine callStep (f90b_ok H hF _ fun v H2 hU2 hF2 hv => ?_)
  simp (maxSteps := 1000000) only [sx, fx, implies_true, evBuildSlice, fillE, fillA, AV.isCell, here, plain, laid, evOp, avOf, avCell, strOf, evBin, evInt, evStr, evUn, evResults, evResultsL, AV.isUndef, AV.cells, Heap.store, wbool_off, after_scope, Nat.reduceMul, Nat.reducePow, Nat.reduceSub, Nat.reduceBEq, UInt8.reduceToNat, Nat.reduceEqDiff, Nat.reduceLT, reduceCtorEq, Nat.reduceAdd, Nat.reduceLeDiff]
  have hl : cmdL.length = 14 := rfl
  have hL : ∀ c ∈ cmdL, ∃ x, c = [.int .i64 x] := by simp [cmdL]
  refine loopStep' (fun env H' => H' = H2 ∧ ∃ (i : Nat), i ≤ cmdL.length ∧ (k = 29 → i ≤ 9) ∧ env.at (.tmp 4) = .int .i64 i ∧ env.at (.tmp 3) = v ∧ env.at (.tmp 0) = .int .i64 k)
    (fun env H' => match env.at (.tmp 4) with | .int _ i => ((cmdL.length : Int) - i).toNat | _ => 0) ?_ ?_
  · exact ⟨rfl, 0, Nat.zero_le _, fun _ => Nat.zero_le _, by simp only [sx, fx, implies_true, evBuildSlice, fillE, fillA, AV.isCell, here, plain, laid, evOp, avOf, avCell, strOf, evBin, evInt, evStr, evUn, evResults, evResultsL, AV.isUndef, AV.cells, Heap.store, wbool_off, after_scope, Nat.reduceMul, Nat.reducePow, Nat.reduceSub, Nat.reduceBEq, UInt8.reduceToNat, Nat.reduceEqDiff, Nat.reduceLT, reduceCtorEq, Nat.reduceAdd, Nat.reduceLeDiff]; rfl, by simp only [sx, fx, implies_true, evBuildSlice, fillE, fillA, AV.isCell, here, plain, laid, evOp, avOf, avCell, strOf, evBin, evInt, evStr, evUn, evResults, evResultsL, AV.isUndef, AV.cells, Heap.store, wbool_off, after_scope, Nat.reduceMul, Nat.reducePow, Nat.reduceSub, Nat.reduceBEq, UInt8.reduceToNat, Nat.reduceEqDiff, Nat.reduceLT, reduceCtorEq, Nat.reduceAdd, Nat.reduceLeDiff], by simp only [sx, fx, implies_true, evBuildSlice, fillE, fillA, AV.isCell, here, plain, laid, evOp, avOf, avCell, strOf, evBin, evInt, evStr, evUn, evResults, evResultsL, AV.isUndef, AV.cells, Heap.store, wbool_off, after_scope, Nat.reduceMul, Nat.reducePow, Nat.reduceSub, Nat.reduceBEq, UInt8.reduceToNat, Nat.reduceEqDiff, Nat.reduceLT, reduceCtorEq, Nat.reduceAdd, Nat.reduceLeDiff]⟩
  · rintro env H' ⟨rfl, i, hi, hk9, e4, e3, e0⟩
    by_cases hlt : i < cmdL.length
    · obtain ⟨c, hc⟩ : ∃ c, cmdL[i]? = some c := ⟨_, List.getElem?_eq_getElem hlt⟩
      obtain ⟨x, rfl⟩ := hL c (List.mem_of_getElem? hc)
      obtain ⟨p, hp, hload, _⟩ := hv.index und44 sz3 .i64 hc
      by_cases hx : x = k
      · have hx' : (x == k) = true := by simpa using hx
        simp (maxSteps := 1000000) only [sx, fx, implies_true, evBuildSlice, fillE, fillA, AV.isCell, here, plain, laid, evOp, avOf, avCell, strOf, evBin, evInt, evStr, evUn, evResults, evResultsL, AV.isUndef, AV.cells, Heap.store, wbool_off, after_scope, Nat.reduceMul, Nat.reducePow, Nat.reduceSub, Nat.reduceBEq, UInt8.reduceToNat, Nat.reduceEqDiff, Nat.reduceLT, reduceCtorEq, Nat.reduceAdd, Nat.reduceLeDiff, e4, e3, e0, hv.lenAt und44, lt_true hlt, hp, hload _ (Up.refl _), hx', wrap_succ (i := i) (by omega)]
        refine hK _ _ (fun h29 => ?_) hU2 hF2
        have := (cmdL_29 i (hk9 h29) x hc).1 (by omega)
        omega
      · have hx' : (x == k) = false := by simpa using hx
        simp (maxSteps := 1000000) only [sx, fx, implies_true, evBuildSlice, fillE, fillA, AV.isCell, here, plain, laid, evOp, avOf, avCell, strOf, evBin, evInt, evStr, evUn, evResults, evResultsL, AV.isUndef, AV.cells, Heap.store, wbool_off, after_scope, Nat.reduceMul, Nat.reducePow, Nat.reduceSub, Nat.reduceBEq, UInt8.reduceToNat, Nat.reduceEqDiff, Nat.reduceLT, reduceCtorEq, Nat.reduceAdd, Nat.reduceLeDiff, e4, e3, e0, hv.lenAt und44, lt_true hlt, hp, hload _ (Up.refl _), hx', wrap_succ (i := i) (by omega)]
        refine ⟨⟨i + 1, hlt, fun h29 => ?_, rfl⟩, ?_⟩
        · have := cmdL_29 i (hk9 h29) x hc
          have := hk9 h29
          by_cases h9 : i = 9
          · have := (cmdL_29 i (hk9 h29) x hc).2 h9; omega
          · omega
        · omega
    · simp (maxSteps := 1000000) only [sx, fx, implies_true, evBuildSlice, fillE, fillA, AV.isCell, here, plain, laid, evOp, avOf, avCell, strOf, evBin, evInt, evStr, evUn, evResults, evResultsL, AV.isUndef, AV.cells, Heap.store, wbool_off, after_scope, Nat.reduceMul, Nat.reducePow, Nat.reduceSub, Nat.reduceBEq, UInt8.reduceToNat, Nat.reduceEqDiff, Nat.reduceLT, reduceCtorEq, Nat.reduceAdd, Nat.reduceLeDiff, e4, e3, e0, hv.lenAt und44, lt_false hlt]
      exact hK _ _ (fun h29 => by have := hk9 h29; omega) hU2 hF2

/-- An event's cells, in a heap; kind, value. -/
structure EvR (H : Heap) (cs : List AV) (k : Int) (d : List AV) : Prop where
  is : ∃ (id tm sq rf nn cd : Int) (nm ky : List Nat) (o : List AV), cs = .int .i64 id :: .int .i64 k :: .int .i64 tm :: .int .i64 sq :: .int .i64 rf :: .int .i64 nn :: .int .i64 cd :: .str nm :: .str ky :: (d ++ o) ∧ nm.length < 2 ^ 60 ∧ ky.length < 2 ^ 60 ∧ (∃ n, VR n H d) ∧ PolR H o
theorem EvR.up {H G : Heap} {cs d : List AV} {k : Int} (h : EvR H cs k d) (hu : Up H G) : EvR G cs k d := by
  obtain ⟨id, tm, sq, rf, nn, cd, nm, ky, o, e, h1, h2, ⟨n, h3⟩, h4⟩ := h
  exact ⟨id, tm, sq, rf, nn, cd, nm, ky, o, e, h1, h2, ⟨n, h3.up hu⟩, h4.up hu⟩

theorem f50_ok {H : Heap} {cs d : List AV} {k : Int} (h : EvR H cs k d) (hF : Free H) (K : AV → Heap → Prop) (hK : ∀ x ds H', (k = 29 → x = 10) → CmdR H' ds x d → Up H H' → Free H' → K (.agg ds) H') : WF Try.prog 50 [.agg cs] H K := by
  obtain ⟨id, tm, sq, rf, nn, cd, nm, ky, o, rfl, hnm, hky, ⟨n1, hd⟩, ho⟩ := h
  have hdc := hd.cells
  have hoc := ho.cells
  obtain ⟨a0, a1, a2, a3, a4, rfl⟩ := five hd.len
  obtain ⟨p0, p1, p2, p3, p4, p5, p6, p7, p8, p9, rfl⟩ := ten ho.len
  simp only [List.all_cons, List.all_nil, Bool.and_eq_true, Bool.and_true] at hdc hoc
  obtain ⟨ca0, ca1, ca2, ca3, ca4⟩ := hdc
  obtain ⟨cp0, cp1, cp2, cp3, cp4, cp5, cp6, cp7, cp8, cp9⟩ := hoc
  refine WF_body Try.func50 (by kernel_rfl) rfl Try.ntmps50 (by rw [Try.results50]) (of_decide_eq_true (by kernel_rfl)) ?_
  simp (maxSteps := 1000000) only [sx, fx, icI, icS, icB, icN, icL, implies_true, evBuildSlice, fillE, fillA, here, plain, laid, evOp, avOf, avCell, strOf, evBin, evInt, evStr, evUn, evResults, evResultsL, AV.isUndef, AV.cells, Heap.store, wbool_off, after_scope, Nat.reduceMul, Nat.reducePow, Nat.reduceSub, Nat.reduceBEq, UInt8.reduceToNat, Nat.reduceEqDiff, Nat.reduceLT, reduceCtorEq, Nat.reduceAdd, Nat.reduceLeDiff, hF.at, hF.hp]
  generalize hH1 : HP H [Blk.row 63 24 [[.int .i64 id, .int .i64 k, .int .i64 tm, .int .i64 sq, .int .i64 rf, .int .i64 nn, .int .i64 cd, .str nm, .str ky, a0, a1, a2, a3, a4, p0, p1, p2, p3, p4, p5, p6, p7, p8, p9]] 0 0, Blk.row 88 20 [[.int .i64 0, .int .i64 0, .str [], .str [], .int .i64 0, .int .i64 0, .int .i64 0, .str [], .nilslice, .nilslice, .str [], .int .i64 0, .int .i64 0, .int .i64 0, .int .i64 0, .int .i64 0, .int .i64 0, .int .i64 0, .int .i64 0, .nilslice]] 0 0] = H1
  have hb : H1.blk H.next = some (.row 63 24 [[.int .i64 id, .int .i64 k, .int .i64 tm, .int .i64 sq, .int .i64 rf, .int .i64 nn, .int .i64 cd, .str nm, .str ky, a0, a1, a2, a3, a4, p0, p1, p2, p3, p4, p5, p6, p7, p8, p9]] 0 0) := by rw [← hH1, hp_blk0]; rfl
  have hb' : H1.blk (H.next + 1) = some (.row 88 20 [[.int .i64 0, .int .i64 0, .str [], .str [], .int .i64 0, .int .i64 0, .int .i64 0, .str [], .nilslice, .nilslice, .str [], .int .i64 0, .int .i64 0, .int .i64 0, .int .i64 0, .int .i64 0, .int .i64 0, .int .i64 0, .int .i64 0, .nilslice]] 0 0) := by rw [← hH1, hp_blk]; rfl
  have hF1 : Free H1 := hH1 ▸ hF.hpF _
  have hU1 : Up H H1 := hH1 ▸ hF.hpU _
  have hn1 : H1.next = H.next + 2 := by rw [← hH1]; rfl
  refine drawStep [2] [0, 1, 3, 4, 5, 6, 7, 8, 9, 10, 11, 12, 13, 14, 2, 15, 16] _ rfl (by kernel_rfl) ?_
  simp (maxSteps := 1000000) only [sx, fx, icI, icS, icB, icN, icL, implies_true, evBuildSlice, fillE, fillA, here, plain, laid, evOp, avOf, avCell, strOf, evBin, evInt, evStr, evUn, evResults, evResultsL, AV.isUndef, AV.cells, Heap.store, wbool_off, after_scope, Nat.reduceMul, Nat.reducePow, Nat.reduceSub, Nat.reduceBEq, UInt8.reduceToNat, Nat.reduceEqDiff, Nat.reduceLT, reduceCtorEq, Nat.reduceAdd, Nat.reduceLeDiff, hb]
  refine callStep_flag (f70b_ok k _ hF1 _ fun x H2 hx hU2 hF2 => ⟨hU2, ?_⟩)
  have hb2 := hU2 _ _ hb'
  have hlt2 := hF2.lt hb2
  simp (maxSteps := 1000000) only [sx, fx, icI, icS, icB, icN, icL, implies_true, evBuildSlice, fillE, fillA, here, plain, laid, evOp, avOf, avCell, strOf, evBin, evInt, evStr, evUn, evResults, evResultsL, AV.isUndef, AV.cells, Heap.store, wbool_off, after_scope, Nat.reduceMul, Nat.reducePow, Nat.reduceSub, Nat.reduceBEq, UInt8.reduceToNat, Nat.reduceEqDiff, Nat.reduceLT, reduceCtorEq, Nat.reduceAdd, Nat.reduceLeDiff, splice, hb2, ca0, ca1, ca2, ca3, ca4, cp0, cp1, cp2, cp3, cp4, cp5, cp6, cp7, cp8, cp9]
  have hUs := Up.set (hU1.trans hU2) (hF (H.next + 1) (by omega))
  exact hK x _ _ hx ⟨sq, nn, nm, ky, [p0, p1, p2, p3, p4, p5, p6, p7, p8, p9], rfl, hnm, hky, ⟨_, hd.up (hUs _)⟩, ho.up (hUs _)⟩ (hUs _) (hF2.set hlt2 _)
end Go.Proofs.T
