import Derived.Test.YtakelljpblahbaaS24
set_option linter.unusedVariables false
set_option linter.unusedSimpArgs false
set_option maxRecDepth 100000
namespace Go.Proofs.T
open Go.Ev

/-- Both caches hold the same, apart from each other. -/
structure Both (H : Heap) (F G : Nat → Prop) (cx rx : Nat) (sz h m : Int) (L : Stored) : Prop where
  c : Cache H F cx sz h m L
  r : Ref H G rx sz h m L
  d : ∀ b, F b → ¬ G b
  len : (L.length : Int) ≤ sz

theorem Both.up {H H' : Heap} {F G : Nat → Prop} {cx rx : Nat} {sz h m : Int} {L : Stored} (hB : Both H F G cx rx sz h m L) (hU : Up H H') : Both H' F G cx rx sz h m L := ⟨hB.c.up hU, hB.r.up hU, hB.d, hB.len⟩

theorem Ref.dom {H : Heap} {G : Nat → Prop} {rx : Nat} {sz fo wr : Int} {L : Stored} (hR : Ref H G rx sz fo wr L) : (∀ b, G b → H.blk b ≠ none) ∧ G rx := by
  obtain ⟨ev, E, h⟩ := hR
  exact ⟨h.dom, h.gx⟩

theorem c_step {H H' : Heap} {F G : Nat → Prop} {cx rx : Nat} {sz fo wr h' m' : Int} {L L' : Stored} (hR : Ref H G rx sz fo wr L) (hd : ∀ b, F b → ¬ G b) (hP : CPost H F cx sz h' m' L' H') :
    ∃ F', Cache H' F' cx sz h' m' L' ∧ Ref H' G rx sz fo wr L ∧ (∀ b, F' b → ¬ G b) ∧ Free H' ∧ (∀ b x, H.blk b = some x → ¬ F b → H'.blk b = some x ∧ ¬ F' b) := by
  obtain ⟨F', p0, p1, p2, p3⟩ := hP
  refine ⟨F', p0, hR.off p2 (fun b hb e => hd b e hb), fun b hb hg => ?_, p3, fun b x hx hn => ⟨p2 b x hn hx, fun e => ?_⟩⟩
  · rcases p1 b hb with q | q
    · exact hd b q hg
    · exact hR.dom.1 b hg q
  · rcases p1 b e with q | q
    · exact hn q
    · rw [hx] at q; cases q

theorem r_step {X : Nat → Prop} {H H' : Heap} {F G : Nat → Prop} {cx rx : Nat} {sz h m fo wr fo' wr' : Int} {L L0 L' : Stored} (hC : Cache H F cx sz h m L) (hR : Ref H G rx sz fo wr L0) (hd : ∀ b, F b → ¬ G b) (hX : ∀ b, X b → ¬ F b) (hP : RPostG X H G rx sz fo' wr' L' H') :
    ∃ G', Cache H' F cx sz h m L ∧ Ref H' G' rx sz fo' wr' L' ∧ (∀ b, F b → ¬ G' b) ∧ Free H' ∧ Off (fun b => b = rx) H H' := by
  obtain ⟨G', p0, p1, p2, p3⟩ := hP
  refine ⟨G', hC.off p2 (fun b hb e => hd b hb (e ▸ hR.dom.2)), p0, fun b hb hg => ?_, p3, p2⟩
  rcases p1 b hg with q | q | q
  · exact hd b hb q
  · exact hC.dom b hb q
  · exact hX b q hb

theorem RPost.toG {H H' : Heap} {G : Nat → Prop} {rx : Nat} {sz fo wr : Int} {L : Stored} (hP : RPost H G rx sz fo wr L H') : RPostG (fun _ => False) H G rx sz fo wr L H' := by
  obtain ⟨G', p0, p1, p2, p3⟩ := hP
  exact ⟨G', p0, fun b hb => (p1 b hb).elim .inl (fun q => .inr (.inl q)), p2, p3⟩

theorem keepL {key : List Nat} {L : Stored} (h : lk key L = none) : without key L = L := by
  refine List.filter_eq_self.2 fun e he => ?_
  have : e.1 ≠ key := fun q => lk_none.1 h (by rw [← q]; exact List.mem_map_of_mem he)
  simp [keep, this]

set_option maxHeartbeats 4000000 in
theorem f21_ok {H : Heap} {F G : Nat → Prop} {cx rx : Nat} {sz h m : Int} {L : Stored} (kd : Int) (key : List Nat) (n : Int) (hFr : Free H) (hB : Both H F G cx rx sz h m L) (hsz : sz ≤ 64) (Q : AV → Heap → Prop)
    (hQ : ∀ H' F' G' h' m' L', Both H' F' G' cx rx sz h' m' L' → Free H' → Q (.bool true) H') : WF Try.prog 21 [.ptr cx 0 0 0, .ptr rx 0 0 0, .agg [.int .i64 kd, .str key, .int .i64 n]] H Q := by
  refine WF_body Try.func21 (by kernel_rfl) rfl Try.ntmps21 (by rw [Try.results21]) (of_decide_eq_true (by kernel_rfl)) ?_
  have hL : L.length ≤ 64 := by have := hB.len; omega
  simp (maxSteps := 1000000) only [sx, fx, implies_true, evBuildSlice, fillE, fillA, Nat.reduceMul, Nat.reducePow, AV.isCell, Nat.reduceSub, here, plain, laid, Nat.reduceBEq, evOp, avOf, avCell, strOf, UInt8.reduceToNat, evBin, evInt, evStr, evUn, Nat.reduceEqDiff, Nat.reduceLT, evResults, evResultsL, reduceCtorEq, AV.isUndef, AV.cells, Nat.reduceAdd, Heap.store, Nat.reduceLeDiff, hFr.at, hFr.hp]
  have hB1 := hB.up (hFr.hpU [Blk.row 49 3 [[.int .i64 kd, .str key, .int .i64 n]] 0 0])
  have hF1 := hFr.hpF [Blk.row 49 3 [[.int .i64 kd, .str key, .int .i64 n]] 0 0]
  have a1 : (HP H [Blk.row 49 3 [[.int .i64 kd, .str key, .int .i64 n]] 0 0]).blk H.next = some (.row 49 3 [[.int .i64 kd, .str key, .int .i64 n]] 0 0) := by rw [hp_blk0]; rfl
  have hnF : ¬ F H.next := fun e => hB.c.dom _ e hFr.at
  have hnG : ¬ G H.next := fun e => hB.r.dom.1 _ e hFr.at
  have hnr : H.next ≠ rx := fun e => hnG (e ▸ hB.r.dom.2)
  generalize hA : HP H [Blk.row 49 3 [[.int .i64 kd, .str key, .int .i64 n]] 0 0] = A at *
  by_cases k0 : kd = 0
  · subst k0
    simp (maxSteps := 1000000) only [sx, fx, implies_true, evBuildSlice, fillE, fillA, Nat.reduceMul, Nat.reducePow, AV.isCell, Nat.reduceSub, here, plain, laid, Nat.reduceBEq, evOp, avOf, avCell, strOf, UInt8.reduceToNat, evBin, evInt, evStr, evUn, Nat.reduceEqDiff, Nat.reduceLT, evResults, evResultsL, reduceCtorEq, AV.isUndef, AV.cells, Nat.reduceAdd, Heap.store, Nat.reduceLeDiff, a1, BEq.rfl]
    refine drawStepK (fun b => b = H.next) [2, 9, 11, 5, 6, 12, 13] [0, 1, 2, 3, 4, 7, 8, 9, 10, 11, 5, 6, 12, 13, 14, 15] _ rfl (by kernel_rfl) ?_
    simp (maxSteps := 1000000) only [sx, fx, implies_true, evBuildSlice, fillE, fillA, Nat.reduceMul, Nat.reducePow, AV.isCell, Nat.reduceSub, here, plain, laid, Nat.reduceBEq, evOp, avOf, avCell, strOf, UInt8.reduceToNat, evBin, evInt, evStr, evUn, Nat.reduceEqDiff, Nat.reduceLT, evResults, evResultsL, reduceCtorEq, AV.isUndef, AV.cells, Nat.reduceAdd, Heap.store, Nat.reduceLeDiff, hereStep_K, a1]
    refine opStepK_read (.str key) (fun Z mz hZ => ?_) ?_
    · have hz' : Z H.next = some (.row 49 3 [[.int .i64 0, .str key, .int .i64 n]] 0 0) := hZ _ _ rfl a1
      simp (maxSteps := 1000000) only [sx, fx, implies_true, evBuildSlice, fillE, fillA, Nat.reduceMul, Nat.reducePow, AV.isCell, Nat.reduceSub, here, plain, laid, Nat.reduceBEq, evOp, avOf, avCell, strOf, UInt8.reduceToNat, evBin, evInt, evStr, evUn, Nat.reduceEqDiff, Nat.reduceLT, evResults, evResultsL, reduceCtorEq, AV.isUndef, AV.cells, Nat.reduceAdd, Heap.store, Nat.reduceLeDiff, hz']
    simp (maxSteps := 1000000) only [sx, fx, implies_true, evBuildSlice, fillE, fillA, Nat.reduceMul, Nat.reducePow, AV.isCell, Nat.reduceSub, here, plain, laid, Nat.reduceBEq, evOp, avOf, avCell, strOf, UInt8.reduceToNat, evBin, evInt, evStr, evUn, Nat.reduceEqDiff, Nat.reduceLT, evResults, evResultsL, reduceCtorEq, AV.isUndef, AV.cells, Nat.reduceAdd, Heap.store, Nat.reduceLeDiff, hereStep_K, a1]
    refine opStepK_read (.str key) (fun Z mz hZ => ?_) ?_
    · have hz' : Z H.next = some (.row 49 3 [[.int .i64 0, .str key, .int .i64 n]] 0 0) := hZ _ _ rfl a1
      simp (maxSteps := 1000000) only [sx, fx, implies_true, evBuildSlice, fillE, fillA, Nat.reduceMul, Nat.reducePow, AV.isCell, Nat.reduceSub, here, plain, laid, Nat.reduceBEq, evOp, avOf, avCell, strOf, UInt8.reduceToNat, evBin, evInt, evStr, evUn, Nat.reduceEqDiff, Nat.reduceLT, evResults, evResultsL, reduceCtorEq, AV.isUndef, AV.cells, Nat.reduceAdd, Heap.store, Nat.reduceLeDiff, hz']
    simp (maxSteps := 1000000) only [sx, fx, implies_true, evBuildSlice, fillE, fillA, Nat.reduceMul, Nat.reducePow, AV.isCell, Nat.reduceSub, here, plain, laid, Nat.reduceBEq, evOp, avOf, avCell, strOf, UInt8.reduceToNat, evBin, evInt, evStr, evUn, Nat.reduceEqDiff, Nat.reduceLT, evResults, evResultsL, reduceCtorEq, AV.isUndef, AV.cells, Nat.reduceAdd, Heap.store, Nat.reduceLeDiff, hereStep_K, a1]
    refine opStepK_read (.int .i64 n) (fun Z mz hZ => ?_) ?_
    · have hz' : Z H.next = some (.row 49 3 [[.int .i64 0, .str key, .int .i64 n]] 0 0) := hZ _ _ rfl a1
      simp (maxSteps := 1000000) only [sx, fx, implies_true, evBuildSlice, fillE, fillA, Nat.reduceMul, Nat.reducePow, AV.isCell, Nat.reduceSub, here, plain, laid, Nat.reduceBEq, evOp, avOf, avCell, strOf, UInt8.reduceToNat, evBin, evInt, evStr, evUn, Nat.reduceEqDiff, Nat.reduceLT, evResults, evResultsL, reduceCtorEq, AV.isUndef, AV.cells, Nat.reduceAdd, Heap.store, Nat.reduceLeDiff, hz']
    simp (maxSteps := 1000000) only [sx, fx, implies_true, evBuildSlice, fillE, fillA, Nat.reduceMul, Nat.reducePow, AV.isCell, Nat.reduceSub, here, plain, laid, Nat.reduceBEq, evOp, avOf, avCell, strOf, UInt8.reduceToNat, evBin, evInt, evStr, evUn, Nat.reduceEqDiff, Nat.reduceLT, evResults, evResultsL, reduceCtorEq, AV.isUndef, AV.cells, Nat.reduceAdd, Heap.store, Nat.reduceLeDiff, hereStep_K, a1]
    refine callStep_flag (f9_ok n _ hF1 _ fun g1 H2 hU2 hF2 hO2 => ⟨UpO.of_up hU2, ?_⟩)
    have hB2 := hB1.up hU2
    have a2 := hU2 _ _ a1
    simp (maxSteps := 1000000) only [sx, fx, implies_true, evBuildSlice, fillE, fillA, Nat.reduceMul, Nat.reducePow, AV.isCell, Nat.reduceSub, here, plain, laid, Nat.reduceBEq, evOp, avOf, avCell, strOf, UInt8.reduceToNat, evBin, evInt, evStr, evUn, Nat.reduceEqDiff, Nat.reduceLT, evResults, evResultsL, reduceCtorEq, AV.isUndef, AV.cells, Nat.reduceAdd, Heap.store, Nat.reduceLeDiff, hereStep_K]
    by_cases hkey : key = []
    · subst hkey
      refine callStep_flag (f8_empty n hF2 hB2.c hO2.holds _ fun H3 hU3 hF3 => ⟨UpO.of_up hU3, ?_⟩)
      simp (maxSteps := 1000000) only [sx, fx, implies_true, evBuildSlice, fillE, fillA, Nat.reduceMul, Nat.reducePow, AV.isCell, Nat.reduceSub, here, plain, laid, Nat.reduceBEq, evOp, avOf, avCell, strOf, UInt8.reduceToNat, evBin, evInt, evStr, evUn, Nat.reduceEqDiff, Nat.reduceLT, evResults, evResultsL, reduceCtorEq, AV.isUndef, AV.cells, Nat.reduceAdd, Heap.store, Nat.reduceLeDiff, hereStep_K]
      refine callStep_flag (f9_ok n _ hF3 _ fun g2 H4 hU4 hF4 hO4 => ⟨UpO.of_up hU4, ?_⟩)
      simp (maxSteps := 1000000) only [sx, fx, implies_true, evBuildSlice, fillE, fillA, Nat.reduceMul, Nat.reducePow, AV.isCell, Nat.reduceSub, here, plain, laid, Nat.reduceBEq, evOp, avOf, avCell, strOf, UInt8.reduceToNat, evBin, evInt, evStr, evUn, Nat.reduceEqDiff, Nat.reduceLT, evResults, evResultsL, reduceCtorEq, AV.isUndef, AV.cells, Nat.reduceAdd, Heap.store, Nat.reduceLeDiff, hereStep_K]
      refine callStep_flag (f13_ok g2 (holds_shape hO4.holds) n (IntKind.i64.wrap (n.tdiv 2)) n (n.tmod 2 == 1) _ hF4 _ fun H5 hU5 hF5 => ⟨UpO.of_up hU5, ?_⟩)
      have hB5 := ((hB2.up hU3).up hU4).up hU5
      simp (maxSteps := 1000000) only [sx, fx, implies_true, evBuildSlice, fillE, fillA, Nat.reduceMul, Nat.reducePow, AV.isCell, Nat.reduceSub, here, plain, laid, Nat.reduceBEq, evOp, avOf, avCell, strOf, UInt8.reduceToNat, evBin, evInt, evStr, evUn, Nat.reduceEqDiff, Nat.reduceLT, evResults, evResultsL, reduceCtorEq, AV.isUndef, AV.cells, Nat.reduceAdd, Heap.store, Nat.reduceLeDiff]
      refine callStep (f31_empty (g := g2) n hF5 hB5.r _ fun H6 hU6 hF6 => ?_)
      have hB6 := hB5.up hU6
      simp (maxSteps := 1000000) only [sx, fx, implies_true, evBuildSlice, fillE, fillA, Nat.reduceMul, Nat.reducePow, AV.isCell, Nat.reduceSub, here, plain, laid, Nat.reduceBEq, evOp, avOf, avCell, strOf, UInt8.reduceToNat, evBin, evInt, evStr, evUn, Nat.reduceEqDiff, Nat.reduceLT, evResults, evResultsL, reduceCtorEq, AV.isUndef, AV.cells, Nat.reduceAdd, Heap.store, Nat.reduceLeDiff, bne_self_eq_false]
      refine callStep (f19_ok hF6 hB6.c _ fun ks T1 hT1 hfT1 hO1 => ?_)
      simp (maxSteps := 1000000) only [sx, fx, implies_true, evBuildSlice, fillE, fillA, Nat.reduceMul, Nat.reducePow, AV.isCell, Nat.reduceSub, here, plain, laid, Nat.reduceBEq, evOp, avOf, avCell, strOf, UInt8.reduceToNat, evBin, evInt, evStr, evUn, Nat.reduceEqDiff, Nat.reduceLT, evResults, evResultsL, reduceCtorEq, AV.isUndef, AV.cells, Nat.reduceAdd, Heap.store, Nat.reduceLeDiff]
      refine callStep (f36_ok hfT1 (hB6.r.up hT1) _ fun ks2 T2 hT2 hfT2 hO2 => ?_)
      simp (maxSteps := 1000000) only [sx, fx, implies_true, evBuildSlice, fillE, fillA, Nat.reduceMul, Nat.reducePow, AV.isCell, Nat.reduceSub, here, plain, laid, Nat.reduceBEq, evOp, avOf, avCell, strOf, UInt8.reduceToNat, evBin, evInt, evStr, evUn, Nat.reduceEqDiff, Nat.reduceLT, evResults, evResultsL, reduceCtorEq, AV.isUndef, AV.cells, Nat.reduceAdd, Heap.store, Nat.reduceLeDiff]
      refine callStep (f27_ok _ (hO1.holds.up hT2) hO2.holds (by have := hB6.c.len; rw [List.length_map]; omega) _ ?_)
      have hBt := (hB6.up hT1).up hT2
      simp (maxSteps := 1000000) only [sx, fx, implies_true, evBuildSlice, fillE, fillA, Nat.reduceMul, Nat.reducePow, AV.isCell, Nat.reduceSub, here, plain, laid, Nat.reduceBEq, evOp, avOf, avCell, strOf, UInt8.reduceToNat, evBin, evInt, evStr, evUn, Nat.reduceEqDiff, Nat.reduceLT, evResults, evResultsL, reduceCtorEq, AV.isUndef, AV.cells, Nat.reduceAdd, Heap.store, Nat.reduceLeDiff]
      refine callStep (f10_ok hfT2 hBt.c _ fun T3 hT3 hfT3 => ?_)
      simp (maxSteps := 1000000) only [sx, fx, implies_true, evBuildSlice, fillE, fillA, Nat.reduceMul, Nat.reducePow, AV.isCell, Nat.reduceSub, here, plain, laid, Nat.reduceBEq, evOp, avOf, avCell, strOf, UInt8.reduceToNat, evBin, evInt, evStr, evUn, Nat.reduceEqDiff, Nat.reduceLT, evResults, evResultsL, reduceCtorEq, AV.isUndef, AV.cells, Nat.reduceAdd, Heap.store, Nat.reduceLeDiff]
      refine callStep (f37_ok hfT3 (hBt.up hT3).r _ fun T4 hT4 hfT4 => ?_)
      have hB4 := (hBt.up hT3).up hT4
      simp (maxSteps := 1000000) only [sx, fx, implies_true, evBuildSlice, fillE, fillA, Nat.reduceMul, Nat.reducePow, AV.isCell, Nat.reduceSub, here, plain, laid, Nat.reduceBEq, evOp, avOf, avCell, strOf, UInt8.reduceToNat, evBin, evInt, evStr, evUn, Nat.reduceEqDiff, Nat.reduceLT, evResults, evResultsL, reduceCtorEq, AV.isUndef, AV.cells, Nat.reduceAdd, Heap.store, Nat.reduceLeDiff, BEq.rfl]
      refine callStep (f14_ok hB4.c _ ?_)
      simp (maxSteps := 1000000) only [sx, fx, implies_true, evBuildSlice, fillE, fillA, Nat.reduceMul, Nat.reducePow, AV.isCell, Nat.reduceSub, here, plain, laid, Nat.reduceBEq, evOp, avOf, avCell, strOf, UInt8.reduceToNat, evBin, evInt, evStr, evUn, Nat.reduceEqDiff, Nat.reduceLT, evResults, evResultsL, reduceCtorEq, AV.isUndef, AV.cells, Nat.reduceAdd, Heap.store, Nat.reduceLeDiff, BEq.rfl]
      refine callStep (f38_ok hB4.r _ ?_)
      simp (maxSteps := 1000000) only [sx, fx, implies_true, evBuildSlice, fillE, fillA, Nat.reduceMul, Nat.reducePow, AV.isCell, Nat.reduceSub, here, plain, laid, Nat.reduceBEq, evOp, avOf, avCell, strOf, UInt8.reduceToNat, evBin, evInt, evStr, evUn, Nat.reduceEqDiff, Nat.reduceLT, evResults, evResultsL, reduceCtorEq, AV.isUndef, AV.cells, Nat.reduceAdd, Heap.store, Nat.reduceLeDiff, BEq.rfl]
      refine callStep (f15_ok hB4.c _ ?_)
      simp (maxSteps := 1000000) only [sx, fx, implies_true, evBuildSlice, fillE, fillA, Nat.reduceMul, Nat.reducePow, AV.isCell, Nat.reduceSub, here, plain, laid, Nat.reduceBEq, evOp, avOf, avCell, strOf, UInt8.reduceToNat, evBin, evInt, evStr, evUn, Nat.reduceEqDiff, Nat.reduceLT, evResults, evResultsL, reduceCtorEq, AV.isUndef, AV.cells, Nat.reduceAdd, Heap.store, Nat.reduceLeDiff, BEq.rfl]
      refine callStep (f39_ok hB4.r _ ?_)
      simp (maxSteps := 1000000) only [sx, fx, implies_true, evBuildSlice, fillE, fillA, Nat.reduceMul, Nat.reducePow, AV.isCell, Nat.reduceSub, here, plain, laid, Nat.reduceBEq, evOp, avOf, avCell, strOf, UInt8.reduceToNat, evBin, evInt, evStr, evUn, Nat.reduceEqDiff, Nat.reduceLT, evResults, evResultsL, reduceCtorEq, AV.isUndef, AV.cells, Nat.reduceAdd, Heap.store, Nat.reduceLeDiff, BEq.rfl]
      exact hQ _ _ _ _ _ _ hB4 hfT4
    · refine callStep_flag (f8_ok key n hkey hF2 hB2.c (by omega) hO2.holds _ fun H3 hP3 => ?_)
      obtain ⟨F3, hC3, hR3, hd3, hF3, keep3⟩ := c_step hB2.r hB2.d hP3
      refine ⟨fun b x hb hx => (keep3 b x hx (by rw [hb]; exact hnF)).1, ?_⟩
      simp (maxSteps := 1000000) only [sx, fx, implies_true, evBuildSlice, fillE, fillA, Nat.reduceMul, Nat.reducePow, AV.isCell, Nat.reduceSub, here, plain, laid, Nat.reduceBEq, evOp, avOf, avCell, strOf, UInt8.reduceToNat, evBin, evInt, evStr, evUn, Nat.reduceEqDiff, Nat.reduceLT, evResults, evResultsL, reduceCtorEq, AV.isUndef, AV.cells, Nat.reduceAdd, Heap.store, Nat.reduceLeDiff, hereStep_K]
      refine callStep_flag (f9_ok n _ hF3 _ fun g2 H4 hU4 hF4 hO4 => ⟨UpO.of_up hU4, ?_⟩)
      simp (maxSteps := 1000000) only [sx, fx, implies_true, evBuildSlice, fillE, fillA, Nat.reduceMul, Nat.reducePow, AV.isCell, Nat.reduceSub, here, plain, laid, Nat.reduceBEq, evOp, avOf, avCell, strOf, UInt8.reduceToNat, evBin, evInt, evStr, evUn, Nat.reduceEqDiff, Nat.reduceLT, evResults, evResultsL, reduceCtorEq, AV.isUndef, AV.cells, Nat.reduceAdd, Heap.store, Nat.reduceLeDiff, hereStep_K]
      refine callStep_flag (f13_ok g2 (holds_shape hO4.holds) n (IntKind.i64.wrap (n.tdiv 2)) n (n.tmod 2 == 1) _ hF4 _ fun H5 hU5 hF5 => ⟨UpO.of_up hU5, ?_⟩)
      have hU35 := hU4.trans hU5
      have hR5 := hR3.up hU35
      simp (maxSteps := 1000000) only [sx, fx, implies_true, evBuildSlice, fillE, fillA, Nat.reduceMul, Nat.reducePow, AV.isCell, Nat.reduceSub, here, plain, laid, Nat.reduceBEq, evOp, avOf, avCell, strOf, UInt8.reduceToNat, evBin, evInt, evStr, evUn, Nat.reduceEqDiff, Nat.reduceLT, evResults, evResultsL, reduceCtorEq, AV.isUndef, AV.cells, Nat.reduceAdd, Heap.store, Nat.reduceLeDiff]
      refine callStep (f31_ok (g := g2) key n hkey hF5 hR5 (hO4.holds.up hU5) (fun b hb => ⟨fun e => ?_, ?_⟩) (by omega) _ fun H6 hP6 => ?_)
      · exact hR3.dom.1 _ hR3.dom.2 (by rw [← e]; exact (own_live hO4 b hb).2)
      · cases hx : H4.blk b with
        | none => exact absurd hx (own_live hO4 b hb).1
        | some y => rw [hU5 _ _ hx]; simp
      obtain ⟨G6, hC6, hR6, hd6, hF6, _⟩ := r_step (hC3.up hU35) hR5 hd3 (fun b hb e => hC3.dom b e (own_live hO4 b hb).2) hP6
      have hB6 : Both H6 F3 G6 cx rx sz h m (putL sz key n L) := ⟨hC6, hR6, hd6, putL_len hB.len⟩
      simp (maxSteps := 1000000) only [sx, fx, implies_true, evBuildSlice, fillE, fillA, Nat.reduceMul, Nat.reducePow, AV.isCell, Nat.reduceSub, here, plain, laid, Nat.reduceBEq, evOp, avOf, avCell, strOf, UInt8.reduceToNat, evBin, evInt, evStr, evUn, Nat.reduceEqDiff, Nat.reduceLT, evResults, evResultsL, reduceCtorEq, AV.isUndef, AV.cells, Nat.reduceAdd, Heap.store, Nat.reduceLeDiff, bne_self_eq_false]
      refine callStep (f19_ok hF6 hB6.c _ fun ks T1 hT1 hfT1 hO1 => ?_)
      simp (maxSteps := 1000000) only [sx, fx, implies_true, evBuildSlice, fillE, fillA, Nat.reduceMul, Nat.reducePow, AV.isCell, Nat.reduceSub, here, plain, laid, Nat.reduceBEq, evOp, avOf, avCell, strOf, UInt8.reduceToNat, evBin, evInt, evStr, evUn, Nat.reduceEqDiff, Nat.reduceLT, evResults, evResultsL, reduceCtorEq, AV.isUndef, AV.cells, Nat.reduceAdd, Heap.store, Nat.reduceLeDiff]
      refine callStep (f36_ok hfT1 (hB6.r.up hT1) _ fun ks2 T2 hT2 hfT2 hO2 => ?_)
      simp (maxSteps := 1000000) only [sx, fx, implies_true, evBuildSlice, fillE, fillA, Nat.reduceMul, Nat.reducePow, AV.isCell, Nat.reduceSub, here, plain, laid, Nat.reduceBEq, evOp, avOf, avCell, strOf, UInt8.reduceToNat, evBin, evInt, evStr, evUn, Nat.reduceEqDiff, Nat.reduceLT, evResults, evResultsL, reduceCtorEq, AV.isUndef, AV.cells, Nat.reduceAdd, Heap.store, Nat.reduceLeDiff]
      refine callStep (f27_ok _ (hO1.holds.up hT2) hO2.holds (by have := hB6.c.len; rw [List.length_map]; omega) _ ?_)
      have hBt := (hB6.up hT1).up hT2
      simp (maxSteps := 1000000) only [sx, fx, implies_true, evBuildSlice, fillE, fillA, Nat.reduceMul, Nat.reducePow, AV.isCell, Nat.reduceSub, here, plain, laid, Nat.reduceBEq, evOp, avOf, avCell, strOf, UInt8.reduceToNat, evBin, evInt, evStr, evUn, Nat.reduceEqDiff, Nat.reduceLT, evResults, evResultsL, reduceCtorEq, AV.isUndef, AV.cells, Nat.reduceAdd, Heap.store, Nat.reduceLeDiff]
      refine callStep (f10_ok hfT2 hBt.c _ fun T3 hT3 hfT3 => ?_)
      simp (maxSteps := 1000000) only [sx, fx, implies_true, evBuildSlice, fillE, fillA, Nat.reduceMul, Nat.reducePow, AV.isCell, Nat.reduceSub, here, plain, laid, Nat.reduceBEq, evOp, avOf, avCell, strOf, UInt8.reduceToNat, evBin, evInt, evStr, evUn, Nat.reduceEqDiff, Nat.reduceLT, evResults, evResultsL, reduceCtorEq, AV.isUndef, AV.cells, Nat.reduceAdd, Heap.store, Nat.reduceLeDiff]
      refine callStep (f37_ok hfT3 (hBt.up hT3).r _ fun T4 hT4 hfT4 => ?_)
      have hB4 := (hBt.up hT3).up hT4
      simp (maxSteps := 1000000) only [sx, fx, implies_true, evBuildSlice, fillE, fillA, Nat.reduceMul, Nat.reducePow, AV.isCell, Nat.reduceSub, here, plain, laid, Nat.reduceBEq, evOp, avOf, avCell, strOf, UInt8.reduceToNat, evBin, evInt, evStr, evUn, Nat.reduceEqDiff, Nat.reduceLT, evResults, evResultsL, reduceCtorEq, AV.isUndef, AV.cells, Nat.reduceAdd, Heap.store, Nat.reduceLeDiff, BEq.rfl]
      refine callStep (f14_ok hB4.c _ ?_)
      simp (maxSteps := 1000000) only [sx, fx, implies_true, evBuildSlice, fillE, fillA, Nat.reduceMul, Nat.reducePow, AV.isCell, Nat.reduceSub, here, plain, laid, Nat.reduceBEq, evOp, avOf, avCell, strOf, UInt8.reduceToNat, evBin, evInt, evStr, evUn, Nat.reduceEqDiff, Nat.reduceLT, evResults, evResultsL, reduceCtorEq, AV.isUndef, AV.cells, Nat.reduceAdd, Heap.store, Nat.reduceLeDiff, BEq.rfl]
      refine callStep (f38_ok hB4.r _ ?_)
      simp (maxSteps := 1000000) only [sx, fx, implies_true, evBuildSlice, fillE, fillA, Nat.reduceMul, Nat.reducePow, AV.isCell, Nat.reduceSub, here, plain, laid, Nat.reduceBEq, evOp, avOf, avCell, strOf, UInt8.reduceToNat, evBin, evInt, evStr, evUn, Nat.reduceEqDiff, Nat.reduceLT, evResults, evResultsL, reduceCtorEq, AV.isUndef, AV.cells, Nat.reduceAdd, Heap.store, Nat.reduceLeDiff, BEq.rfl]
      refine callStep (f15_ok hB4.c _ ?_)
      simp (maxSteps := 1000000) only [sx, fx, implies_true, evBuildSlice, fillE, fillA, Nat.reduceMul, Nat.reducePow, AV.isCell, Nat.reduceSub, here, plain, laid, Nat.reduceBEq, evOp, avOf, avCell, strOf, UInt8.reduceToNat, evBin, evInt, evStr, evUn, Nat.reduceEqDiff, Nat.reduceLT, evResults, evResultsL, reduceCtorEq, AV.isUndef, AV.cells, Nat.reduceAdd, Heap.store, Nat.reduceLeDiff, BEq.rfl]
      refine callStep (f39_ok hB4.r _ ?_)
      simp (maxSteps := 1000000) only [sx, fx, implies_true, evBuildSlice, fillE, fillA, Nat.reduceMul, Nat.reducePow, AV.isCell, Nat.reduceSub, here, plain, laid, Nat.reduceBEq, evOp, avOf, avCell, strOf, UInt8.reduceToNat, evBin, evInt, evStr, evUn, Nat.reduceEqDiff, Nat.reduceLT, evResults, evResultsL, reduceCtorEq, AV.isUndef, AV.cells, Nat.reduceAdd, Heap.store, Nat.reduceLeDiff, BEq.rfl]
      exact hQ _ _ _ _ _ _ hB4 hfT4
  have b0 : (kd == 0) = false := by simpa using k0
  by_cases k1 : kd = 1
  · subst k1
    simp (maxSteps := 1000000) only [sx, fx, implies_true, evBuildSlice, fillE, fillA, Nat.reduceMul, Nat.reducePow, AV.isCell, Nat.reduceSub, here, plain, laid, Nat.reduceBEq, evOp, avOf, avCell, strOf, UInt8.reduceToNat, evBin, evInt, evStr, evUn, Nat.reduceEqDiff, Nat.reduceLT, evResults, evResultsL, reduceCtorEq, AV.isUndef, AV.cells, Nat.reduceAdd, Heap.store, Nat.reduceLeDiff, a1, b0, BEq.rfl]
    refine callStep (f17_ok key hF1 hB1.c (by omega) _ (fun hl u H2 hP2 hO2 => ?_) (fun n' hl u H2 hP2 hO2 => ?_))
    · obtain ⟨F2, hC2, hR2, hd2, hF2, keep2⟩ := c_step hB1.r hB1.d hP2
      have hcl : (pt u 0 0 0 false).all AV.isCell = true := pt_cells (own_isCell hO2)
      have a2 := fun xs => hF2.hpU xs _ _ (keep2 _ _ a1 hnF).1
      have hln0 : ∀ x, (pt x 0 0 0 false).length = 17 := fun _ => rfl
      have htk0 : ∀ x, (pt x 0 0 0 false).take 17 = pt x 0 0 0 false := fun _ => rfl
      have hcl0 : (pt .nilslice 0 0 0 false).all AV.isCell = true := rfl
      simp (maxSteps := 1000000) only [sx, fx, implies_true, evBuildSlice, fillE, fillA, Nat.reduceMul, Nat.reducePow, AV.isCell, Nat.reduceSub, here, plain, laid, Nat.reduceBEq, evOp, avOf, avCell, strOf, UInt8.reduceToNat, evBin, evInt, evStr, evUn, Nat.reduceEqDiff, Nat.reduceLT, evResults, evResultsL, reduceCtorEq, AV.isUndef, AV.cells, Nat.reduceAdd, Heap.store, Nat.reduceLeDiff, hF2.at, hF2.hp, hln0, hcl, a2]
      have p2 : (HP H2 [Blk.row 37 17 [pt u 0 0 0 false] 0 0]).blk H2.next = some (.row 37 17 [pt u 0 0 0 false] 0 0) := by rw [hp_blk0]; rfl
      have hUP := hF2.hpU [Blk.row 37 17 [pt u 0 0 0 false] 0 0]
      have hFP := hF2.hpF [Blk.row 37 17 [pt u 0 0 0 false] 0 0]
      have hrx2 : H2.next ≠ rx := fun e => hR2.dom.1 _ hR2.dom.2 (by rw [← e]; exact hF2.at)
      have hur : ∀ b, blkOf u = some b → b ≠ rx := fun b hb e => hB1.r.dom.1 _ hB1.r.dom.2 (by rw [← e]; exact (own_live hO2 b hb).2)
      have huP := hO2.holds.up hUP
      generalize hP : HP H2 [Blk.row 37 17 [pt u 0 0 0 false] 0 0] = Z at *
      refine callStep (f32_ok key hFP (hR2.up hUP) _ (fun hl2 H3 hP3 => ?_) (fun n' hl2 => by rw [hl] at hl2; cases hl2))
      obtain ⟨G3, hC3, hR3, hd3, hF3, hoff3⟩ := r_step (hC2.up hUP) (hR2.up hUP) hd2 (fun _ => False.elim) hP3.toG
      have p3 := fun xs => hF3.hpU xs _ _ (hoff3 _ _ hrx2 p2)
      have q3 : (HP H3 [Blk.row 43 17 [pt .nilslice 0 0 0 false] 0 0]).blk H3.next = some (.row 43 17 [pt .nilslice 0 0 0 false] 0 0) := by rw [hp_blk0]; rfl
      simp (maxSteps := 1000000) only [sx, fx, implies_true, evBuildSlice, fillE, fillA, Nat.reduceMul, Nat.reducePow, AV.isCell, Nat.reduceSub, here, plain, laid, Nat.reduceBEq, evOp, avOf, avCell, strOf, UInt8.reduceToNat, evBin, evInt, evStr, evUn, Nat.reduceEqDiff, Nat.reduceLT, evResults, evResultsL, reduceCtorEq, AV.isUndef, AV.cells, Nat.reduceAdd, Heap.store, Nat.reduceLeDiff, hF3.at, hF3.hp, hln0, hcl0, p3, q3, htk0, BEq.rfl, bool_ok, bool_eqA]
      have hB3 : Both H3 F2 G3 cx rx sz h (IntKind.i64.wrap (m + 1)) L := ⟨hC3, hR3, hd3, hB.len⟩
      refine callStep (f12_ok (L := []) 0 0 0 false _ (hF3.hpF _) ((huP.off hoff3 hur).up (hF3.hpU _)) Holds.nil (by simp [ViL]) (by simp) _ fun H4 hU4 hF4 => ?_)
      have hB4' := (hB3.up (hF3.hpU [Blk.row 43 17 [pt .nilslice 0 0 0 false] 0 0])).up hU4
      simp (maxSteps := 1000000) only [sx, fx, implies_true, evBuildSlice, fillE, fillA, Nat.reduceMul, Nat.reducePow, AV.isCell, Nat.reduceSub, here, plain, laid, Nat.reduceBEq, evOp, avOf, avCell, strOf, UInt8.reduceToNat, evBin, evInt, evStr, evUn, Nat.reduceEqDiff, Nat.reduceLT, evResults, evResultsL, reduceCtorEq, AV.isUndef, AV.cells, Nat.reduceAdd, Heap.store, Nat.reduceLeDiff]
      refine callStep (f19_ok hF4 hB4'.c _ fun ks T1 hT1 hfT1 hO1 => ?_)
      simp (maxSteps := 1000000) only [sx, fx, implies_true, evBuildSlice, fillE, fillA, Nat.reduceMul, Nat.reducePow, AV.isCell, Nat.reduceSub, here, plain, laid, Nat.reduceBEq, evOp, avOf, avCell, strOf, UInt8.reduceToNat, evBin, evInt, evStr, evUn, Nat.reduceEqDiff, Nat.reduceLT, evResults, evResultsL, reduceCtorEq, AV.isUndef, AV.cells, Nat.reduceAdd, Heap.store, Nat.reduceLeDiff]
      refine callStep (f36_ok hfT1 (hB4'.r.up hT1) _ fun ks2 T2 hT2 hfT2 hO2 => ?_)
      simp (maxSteps := 1000000) only [sx, fx, implies_true, evBuildSlice, fillE, fillA, Nat.reduceMul, Nat.reducePow, AV.isCell, Nat.reduceSub, here, plain, laid, Nat.reduceBEq, evOp, avOf, avCell, strOf, UInt8.reduceToNat, evBin, evInt, evStr, evUn, Nat.reduceEqDiff, Nat.reduceLT, evResults, evResultsL, reduceCtorEq, AV.isUndef, AV.cells, Nat.reduceAdd, Heap.store, Nat.reduceLeDiff]
      refine callStep (f27_ok _ (hO1.holds.up hT2) hO2.holds (by have := hB4'.c.len; rw [List.length_map]; omega) _ ?_)
      have hBt := (hB4'.up hT1).up hT2
      simp (maxSteps := 1000000) only [sx, fx, implies_true, evBuildSlice, fillE, fillA, Nat.reduceMul, Nat.reducePow, AV.isCell, Nat.reduceSub, here, plain, laid, Nat.reduceBEq, evOp, avOf, avCell, strOf, UInt8.reduceToNat, evBin, evInt, evStr, evUn, Nat.reduceEqDiff, Nat.reduceLT, evResults, evResultsL, reduceCtorEq, AV.isUndef, AV.cells, Nat.reduceAdd, Heap.store, Nat.reduceLeDiff]
      refine callStep (f10_ok hfT2 hBt.c _ fun T3 hT3 hfT3 => ?_)
      simp (maxSteps := 1000000) only [sx, fx, implies_true, evBuildSlice, fillE, fillA, Nat.reduceMul, Nat.reducePow, AV.isCell, Nat.reduceSub, here, plain, laid, Nat.reduceBEq, evOp, avOf, avCell, strOf, UInt8.reduceToNat, evBin, evInt, evStr, evUn, Nat.reduceEqDiff, Nat.reduceLT, evResults, evResultsL, reduceCtorEq, AV.isUndef, AV.cells, Nat.reduceAdd, Heap.store, Nat.reduceLeDiff]
      refine callStep (f37_ok hfT3 (hBt.up hT3).r _ fun T4 hT4 hfT4 => ?_)
      have hB4 := (hBt.up hT3).up hT4
      simp (maxSteps := 1000000) only [sx, fx, implies_true, evBuildSlice, fillE, fillA, Nat.reduceMul, Nat.reducePow, AV.isCell, Nat.reduceSub, here, plain, laid, Nat.reduceBEq, evOp, avOf, avCell, strOf, UInt8.reduceToNat, evBin, evInt, evStr, evUn, Nat.reduceEqDiff, Nat.reduceLT, evResults, evResultsL, reduceCtorEq, AV.isUndef, AV.cells, Nat.reduceAdd, Heap.store, Nat.reduceLeDiff, BEq.rfl]
      refine callStep (f14_ok hB4.c _ ?_)
      simp (maxSteps := 1000000) only [sx, fx, implies_true, evBuildSlice, fillE, fillA, Nat.reduceMul, Nat.reducePow, AV.isCell, Nat.reduceSub, here, plain, laid, Nat.reduceBEq, evOp, avOf, avCell, strOf, UInt8.reduceToNat, evBin, evInt, evStr, evUn, Nat.reduceEqDiff, Nat.reduceLT, evResults, evResultsL, reduceCtorEq, AV.isUndef, AV.cells, Nat.reduceAdd, Heap.store, Nat.reduceLeDiff, BEq.rfl]
      refine callStep (f38_ok hB4.r _ ?_)
      simp (maxSteps := 1000000) only [sx, fx, implies_true, evBuildSlice, fillE, fillA, Nat.reduceMul, Nat.reducePow, AV.isCell, Nat.reduceSub, here, plain, laid, Nat.reduceBEq, evOp, avOf, avCell, strOf, UInt8.reduceToNat, evBin, evInt, evStr, evUn, Nat.reduceEqDiff, Nat.reduceLT, evResults, evResultsL, reduceCtorEq, AV.isUndef, AV.cells, Nat.reduceAdd, Heap.store, Nat.reduceLeDiff, BEq.rfl]
      refine callStep (f15_ok hB4.c _ ?_)
      simp (maxSteps := 1000000) only [sx, fx, implies_true, evBuildSlice, fillE, fillA, Nat.reduceMul, Nat.reducePow, AV.isCell, Nat.reduceSub, here, plain, laid, Nat.reduceBEq, evOp, avOf, avCell, strOf, UInt8.reduceToNat, evBin, evInt, evStr, evUn, Nat.reduceEqDiff, Nat.reduceLT, evResults, evResultsL, reduceCtorEq, AV.isUndef, AV.cells, Nat.reduceAdd, Heap.store, Nat.reduceLeDiff, BEq.rfl]
      refine callStep (f39_ok hB4.r _ ?_)
      simp (maxSteps := 1000000) only [sx, fx, implies_true, evBuildSlice, fillE, fillA, Nat.reduceMul, Nat.reducePow, AV.isCell, Nat.reduceSub, here, plain, laid, Nat.reduceBEq, evOp, avOf, avCell, strOf, UInt8.reduceToNat, evBin, evInt, evStr, evUn, Nat.reduceEqDiff, Nat.reduceLT, evResults, evResultsL, reduceCtorEq, AV.isUndef, AV.cells, Nat.reduceAdd, Heap.store, Nat.reduceLeDiff, BEq.rfl]
      exact hQ _ _ _ _ _ _ hB4 hfT4
    · obtain ⟨F2, hC2, hR2, hd2, hF2, keep2⟩ := c_step hB1.r hB1.d hP2.toPost
      have hlnN : ∀ x, (ptN x n').length = 17 := fun _ => rfl
      have htkN : ∀ x, (ptN x n').take 17 = ptN x n' := fun _ => rfl
      have hcl : (ptN u n').all AV.isCell = true := pt_cells (own_isCell hO2)
      have a2 := fun xs => hF2.hpU xs _ _ (keep2 _ _ a1 hnF).1
      simp (maxSteps := 1000000) only [sx, fx, implies_true, evBuildSlice, fillE, fillA, Nat.reduceMul, Nat.reducePow, AV.isCell, Nat.reduceSub, here, plain, laid, Nat.reduceBEq, evOp, avOf, avCell, strOf, UInt8.reduceToNat, evBin, evInt, evStr, evUn, Nat.reduceEqDiff, Nat.reduceLT, evResults, evResultsL, reduceCtorEq, AV.isUndef, AV.cells, Nat.reduceAdd, Heap.store, Nat.reduceLeDiff, hF2.at, hF2.hp, hlnN, hcl, a2]
      have p2 : (HP H2 [Blk.row 37 17 [ptN u n'] 0 0]).blk H2.next = some (.row 37 17 [ptN u n'] 0 0) := by rw [hp_blk0]; rfl
      have hUP := hF2.hpU [Blk.row 37 17 [ptN u n'] 0 0]
      have hFP := hF2.hpF [Blk.row 37 17 [ptN u n'] 0 0]
      have hrx2 : H2.next ≠ rx := fun e => hR2.dom.1 _ hR2.dom.2 (by rw [← e]; exact hF2.at)
      have hur : ∀ b, blkOf u = some b → b ≠ rx := fun b hb e => hB1.r.dom.1 _ hB1.r.dom.2 (by rw [← e]; exact (own_live hO2 b hb).2)
      have huP := hO2.holds.up hUP
      generalize hP : HP H2 [Blk.row 37 17 [ptN u n'] 0 0] = Z at *
      refine callStep (f32_ok key hFP (hR2.up hUP) _ (fun hl2 => by rw [hl] at hl2; cases hl2) (fun n2 hl2 g H3 hP3 hg3 => ?_))
      obtain rfl : n2 = n' := by rw [hl] at hl2; exact (Option.some.inj hl2).symm
      obtain ⟨G3, hC3, hR3, hd3, hF3, hoff3⟩ := r_step (hC2.up hUP) (hR2.up hUP) hd2 (fun _ => False.elim) hP3.toG
      have p3 := fun xs => hF3.hpU xs _ _ (hoff3 _ _ hrx2 p2)
      have hclg : (ptN g n2).all AV.isCell = true := pt_cells (holds_isCell hg3)
      have q3 : (HP H3 [Blk.row 43 17 [ptN g n2] 0 0]).blk H3.next = some (.row 43 17 [ptN g n2] 0 0) := by rw [hp_blk0]; rfl
      simp (maxSteps := 1000000) only [sx, fx, implies_true, evBuildSlice, fillE, fillA, Nat.reduceMul, Nat.reducePow, AV.isCell, Nat.reduceSub, here, plain, laid, Nat.reduceBEq, evOp, avOf, avCell, strOf, UInt8.reduceToNat, evBin, evInt, evStr, evUn, Nat.reduceEqDiff, Nat.reduceLT, evResults, evResultsL, reduceCtorEq, AV.isUndef, AV.cells, Nat.reduceAdd, Heap.store, Nat.reduceLeDiff, hF3.at, hF3.hp, hlnN, hclg, p3, q3, htkN, BEq.rfl, bool_ok, bool_eqA]
      have hB3 : Both H3 F2 G3 cx rx sz (IntKind.i64.wrap (h + 1)) m (without key L ++ [(key, n2)]) := ⟨hC3, hR3, hd3, use_len' hl hB.len⟩
      refine callStep (f12_ok (L := [vi 2 n2]) n2 (IntKind.i64.wrap (n2.tdiv 2)) n2 (n2.tmod 2 == 1) _ (hF3.hpF _) ((huP.off hoff3 hur).up (hF3.hpU _)) (hg3.up (hF3.hpU _)) (ViL.one n2) (by simp) _ fun H4 hU4 hF4 => ?_)
      have hB4' := (hB3.up (hF3.hpU [Blk.row 43 17 [ptN g n2] 0 0])).up hU4
      simp (maxSteps := 1000000) only [sx, fx, implies_true, evBuildSlice, fillE, fillA, Nat.reduceMul, Nat.reducePow, AV.isCell, Nat.reduceSub, here, plain, laid, Nat.reduceBEq, evOp, avOf, avCell, strOf, UInt8.reduceToNat, evBin, evInt, evStr, evUn, Nat.reduceEqDiff, Nat.reduceLT, evResults, evResultsL, reduceCtorEq, AV.isUndef, AV.cells, Nat.reduceAdd, Heap.store, Nat.reduceLeDiff]
      refine callStep (f19_ok hF4 hB4'.c _ fun ks T1 hT1 hfT1 hO1 => ?_)
      simp (maxSteps := 1000000) only [sx, fx, implies_true, evBuildSlice, fillE, fillA, Nat.reduceMul, Nat.reducePow, AV.isCell, Nat.reduceSub, here, plain, laid, Nat.reduceBEq, evOp, avOf, avCell, strOf, UInt8.reduceToNat, evBin, evInt, evStr, evUn, Nat.reduceEqDiff, Nat.reduceLT, evResults, evResultsL, reduceCtorEq, AV.isUndef, AV.cells, Nat.reduceAdd, Heap.store, Nat.reduceLeDiff]
      refine callStep (f36_ok hfT1 (hB4'.r.up hT1) _ fun ks2 T2 hT2 hfT2 hO2 => ?_)
      simp (maxSteps := 1000000) only [sx, fx, implies_true, evBuildSlice, fillE, fillA, Nat.reduceMul, Nat.reducePow, AV.isCell, Nat.reduceSub, here, plain, laid, Nat.reduceBEq, evOp, avOf, avCell, strOf, UInt8.reduceToNat, evBin, evInt, evStr, evUn, Nat.reduceEqDiff, Nat.reduceLT, evResults, evResultsL, reduceCtorEq, AV.isUndef, AV.cells, Nat.reduceAdd, Heap.store, Nat.reduceLeDiff]
      refine callStep (f27_ok _ (hO1.holds.up hT2) hO2.holds (by have := hB4'.c.len; rw [List.length_map]; omega) _ ?_)
      have hBt := (hB4'.up hT1).up hT2
      simp (maxSteps := 1000000) only [sx, fx, implies_true, evBuildSlice, fillE, fillA, Nat.reduceMul, Nat.reducePow, AV.isCell, Nat.reduceSub, here, plain, laid, Nat.reduceBEq, evOp, avOf, avCell, strOf, UInt8.reduceToNat, evBin, evInt, evStr, evUn, Nat.reduceEqDiff, Nat.reduceLT, evResults, evResultsL, reduceCtorEq, AV.isUndef, AV.cells, Nat.reduceAdd, Heap.store, Nat.reduceLeDiff]
      refine callStep (f10_ok hfT2 hBt.c _ fun T3 hT3 hfT3 => ?_)
      simp (maxSteps := 1000000) only [sx, fx, implies_true, evBuildSlice, fillE, fillA, Nat.reduceMul, Nat.reducePow, AV.isCell, Nat.reduceSub, here, plain, laid, Nat.reduceBEq, evOp, avOf, avCell, strOf, UInt8.reduceToNat, evBin, evInt, evStr, evUn, Nat.reduceEqDiff, Nat.reduceLT, evResults, evResultsL, reduceCtorEq, AV.isUndef, AV.cells, Nat.reduceAdd, Heap.store, Nat.reduceLeDiff]
      refine callStep (f37_ok hfT3 (hBt.up hT3).r _ fun T4 hT4 hfT4 => ?_)
      have hB4 := (hBt.up hT3).up hT4
      simp (maxSteps := 1000000) only [sx, fx, implies_true, evBuildSlice, fillE, fillA, Nat.reduceMul, Nat.reducePow, AV.isCell, Nat.reduceSub, here, plain, laid, Nat.reduceBEq, evOp, avOf, avCell, strOf, UInt8.reduceToNat, evBin, evInt, evStr, evUn, Nat.reduceEqDiff, Nat.reduceLT, evResults, evResultsL, reduceCtorEq, AV.isUndef, AV.cells, Nat.reduceAdd, Heap.store, Nat.reduceLeDiff, BEq.rfl]
      refine callStep (f14_ok hB4.c _ ?_)
      simp (maxSteps := 1000000) only [sx, fx, implies_true, evBuildSlice, fillE, fillA, Nat.reduceMul, Nat.reducePow, AV.isCell, Nat.reduceSub, here, plain, laid, Nat.reduceBEq, evOp, avOf, avCell, strOf, UInt8.reduceToNat, evBin, evInt, evStr, evUn, Nat.reduceEqDiff, Nat.reduceLT, evResults, evResultsL, reduceCtorEq, AV.isUndef, AV.cells, Nat.reduceAdd, Heap.store, Nat.reduceLeDiff, BEq.rfl]
      refine callStep (f38_ok hB4.r _ ?_)
      simp (maxSteps := 1000000) only [sx, fx, implies_true, evBuildSlice, fillE, fillA, Nat.reduceMul, Nat.reducePow, AV.isCell, Nat.reduceSub, here, plain, laid, Nat.reduceBEq, evOp, avOf, avCell, strOf, UInt8.reduceToNat, evBin, evInt, evStr, evUn, Nat.reduceEqDiff, Nat.reduceLT, evResults, evResultsL, reduceCtorEq, AV.isUndef, AV.cells, Nat.reduceAdd, Heap.store, Nat.reduceLeDiff, BEq.rfl]
      refine callStep (f15_ok hB4.c _ ?_)
      simp (maxSteps := 1000000) only [sx, fx, implies_true, evBuildSlice, fillE, fillA, Nat.reduceMul, Nat.reducePow, AV.isCell, Nat.reduceSub, here, plain, laid, Nat.reduceBEq, evOp, avOf, avCell, strOf, UInt8.reduceToNat, evBin, evInt, evStr, evUn, Nat.reduceEqDiff, Nat.reduceLT, evResults, evResultsL, reduceCtorEq, AV.isUndef, AV.cells, Nat.reduceAdd, Heap.store, Nat.reduceLeDiff, BEq.rfl]
      refine callStep (f39_ok hB4.r _ ?_)
      simp (maxSteps := 1000000) only [sx, fx, implies_true, evBuildSlice, fillE, fillA, Nat.reduceMul, Nat.reducePow, AV.isCell, Nat.reduceSub, here, plain, laid, Nat.reduceBEq, evOp, avOf, avCell, strOf, UInt8.reduceToNat, evBin, evInt, evStr, evUn, Nat.reduceEqDiff, Nat.reduceLT, evResults, evResultsL, reduceCtorEq, AV.isUndef, AV.cells, Nat.reduceAdd, Heap.store, Nat.reduceLeDiff, BEq.rfl]
      exact hQ _ _ _ _ _ _ hB4 hfT4
  have b1 : (kd == 1) = false := by simpa using k1
  by_cases k2 : kd = 2
  · subst k2
    simp (maxSteps := 1000000) only [sx, fx, implies_true, evBuildSlice, fillE, fillA, Nat.reduceMul, Nat.reducePow, AV.isCell, Nat.reduceSub, here, plain, laid, Nat.reduceBEq, evOp, avOf, avCell, strOf, UInt8.reduceToNat, evBin, evInt, evStr, evUn, Nat.reduceEqDiff, Nat.reduceLT, evResults, evResultsL, reduceCtorEq, AV.isUndef, AV.cells, Nat.reduceAdd, Heap.store, Nat.reduceLeDiff, a1, b0, b1, BEq.rfl]
    refine callStep (f11_ok key hF1 hB1.c _ (fun hl u H2 hU2 hF2 hO2 => ?_) (fun n' hl u H2 hU2 hF2 hO2 => ?_))
    · have hcl : (pt u 0 0 0 false).all AV.isCell = true := pt_cells (own_isCell hO2)
      have a2 := fun xs => hF2.hpU xs _ _ (hU2 _ _ a1)
      have hln0 : ∀ x, (pt x 0 0 0 false).length = 17 := fun _ => rfl
      have htk0 : ∀ x, (pt x 0 0 0 false).take 17 = pt x 0 0 0 false := fun _ => rfl
      have hcl0 : (pt .nilslice 0 0 0 false).all AV.isCell = true := rfl
      simp (maxSteps := 1000000) only [sx, fx, implies_true, evBuildSlice, fillE, fillA, Nat.reduceMul, Nat.reducePow, AV.isCell, Nat.reduceSub, here, plain, laid, Nat.reduceBEq, evOp, avOf, avCell, strOf, UInt8.reduceToNat, evBin, evInt, evStr, evUn, Nat.reduceEqDiff, Nat.reduceLT, evResults, evResultsL, reduceCtorEq, AV.isUndef, AV.cells, Nat.reduceAdd, Heap.store, Nat.reduceLeDiff, hF2.at, hF2.hp, hln0, hcl, a2]
      have p2 : (HP H2 [Blk.row 37 17 [pt u 0 0 0 false] 0 0]).blk H2.next = some (.row 37 17 [pt u 0 0 0 false] 0 0) := by rw [hp_blk0]; rfl
      have hUP := hF2.hpU [Blk.row 37 17 [pt u 0 0 0 false] 0 0]
      have hFP := hF2.hpF [Blk.row 37 17 [pt u 0 0 0 false] 0 0]
      have huP := hO2.holds.up hUP
      generalize hP : HP H2 [Blk.row 37 17 [pt u 0 0 0 false] 0 0] = Z at *
      have hBZ := (hB1.up hU2).up hUP
      refine callStep (f33_ok key hFP hBZ.r _ (fun hl2 H3 hU3 hF3 => ?_) (fun n' hl2 => by rw [hl] at hl2; cases hl2))
      have p3 := fun xs => hF3.hpU xs _ _ (hU3 _ _ p2)
      have q3 : (HP H3 [Blk.row 43 17 [pt .nilslice 0 0 0 false] 0 0]).blk H3.next = some (.row 43 17 [pt .nilslice 0 0 0 false] 0 0) := by rw [hp_blk0]; rfl
      simp (maxSteps := 1000000) only [sx, fx, implies_true, evBuildSlice, fillE, fillA, Nat.reduceMul, Nat.reducePow, AV.isCell, Nat.reduceSub, here, plain, laid, Nat.reduceBEq, evOp, avOf, avCell, strOf, UInt8.reduceToNat, evBin, evInt, evStr, evUn, Nat.reduceEqDiff, Nat.reduceLT, evResults, evResultsL, reduceCtorEq, AV.isUndef, AV.cells, Nat.reduceAdd, Heap.store, Nat.reduceLeDiff, hF3.at, hF3.hp, hln0, hcl0, p3, q3, htk0, BEq.rfl, bool_ok, bool_eqA]
      refine callStep (f12_ok (L := []) 0 0 0 false _ (hF3.hpF _) ((huP.up hU3).up (hF3.hpU _)) Holds.nil (by simp [ViL]) (by simp) _ fun H4 hU4 hF4 => ?_)
      have hB4' := ((hBZ.up hU3).up (hF3.hpU [Blk.row 43 17 [pt .nilslice 0 0 0 false] 0 0])).up hU4
      simp (maxSteps := 1000000) only [sx, fx, implies_true, evBuildSlice, fillE, fillA, Nat.reduceMul, Nat.reducePow, AV.isCell, Nat.reduceSub, here, plain, laid, Nat.reduceBEq, evOp, avOf, avCell, strOf, UInt8.reduceToNat, evBin, evInt, evStr, evUn, Nat.reduceEqDiff, Nat.reduceLT, evResults, evResultsL, reduceCtorEq, AV.isUndef, AV.cells, Nat.reduceAdd, Heap.store, Nat.reduceLeDiff]
      refine callStep (f19_ok hF4 hB4'.c _ fun ks T1 hT1 hfT1 hO1 => ?_)
      simp (maxSteps := 1000000) only [sx, fx, implies_true, evBuildSlice, fillE, fillA, Nat.reduceMul, Nat.reducePow, AV.isCell, Nat.reduceSub, here, plain, laid, Nat.reduceBEq, evOp, avOf, avCell, strOf, UInt8.reduceToNat, evBin, evInt, evStr, evUn, Nat.reduceEqDiff, Nat.reduceLT, evResults, evResultsL, reduceCtorEq, AV.isUndef, AV.cells, Nat.reduceAdd, Heap.store, Nat.reduceLeDiff]
      refine callStep (f36_ok hfT1 (hB4'.r.up hT1) _ fun ks2 T2 hT2 hfT2 hO2 => ?_)
      simp (maxSteps := 1000000) only [sx, fx, implies_true, evBuildSlice, fillE, fillA, Nat.reduceMul, Nat.reducePow, AV.isCell, Nat.reduceSub, here, plain, laid, Nat.reduceBEq, evOp, avOf, avCell, strOf, UInt8.reduceToNat, evBin, evInt, evStr, evUn, Nat.reduceEqDiff, Nat.reduceLT, evResults, evResultsL, reduceCtorEq, AV.isUndef, AV.cells, Nat.reduceAdd, Heap.store, Nat.reduceLeDiff]
      refine callStep (f27_ok _ (hO1.holds.up hT2) hO2.holds (by have := hB4'.c.len; rw [List.length_map]; omega) _ ?_)
      have hBt := (hB4'.up hT1).up hT2
      simp (maxSteps := 1000000) only [sx, fx, implies_true, evBuildSlice, fillE, fillA, Nat.reduceMul, Nat.reducePow, AV.isCell, Nat.reduceSub, here, plain, laid, Nat.reduceBEq, evOp, avOf, avCell, strOf, UInt8.reduceToNat, evBin, evInt, evStr, evUn, Nat.reduceEqDiff, Nat.reduceLT, evResults, evResultsL, reduceCtorEq, AV.isUndef, AV.cells, Nat.reduceAdd, Heap.store, Nat.reduceLeDiff]
      refine callStep (f10_ok hfT2 hBt.c _ fun T3 hT3 hfT3 => ?_)
      simp (maxSteps := 1000000) only [sx, fx, implies_true, evBuildSlice, fillE, fillA, Nat.reduceMul, Nat.reducePow, AV.isCell, Nat.reduceSub, here, plain, laid, Nat.reduceBEq, evOp, avOf, avCell, strOf, UInt8.reduceToNat, evBin, evInt, evStr, evUn, Nat.reduceEqDiff, Nat.reduceLT, evResults, evResultsL, reduceCtorEq, AV.isUndef, AV.cells, Nat.reduceAdd, Heap.store, Nat.reduceLeDiff]
      refine callStep (f37_ok hfT3 (hBt.up hT3).r _ fun T4 hT4 hfT4 => ?_)
      have hB4 := (hBt.up hT3).up hT4
      simp (maxSteps := 1000000) only [sx, fx, implies_true, evBuildSlice, fillE, fillA, Nat.reduceMul, Nat.reducePow, AV.isCell, Nat.reduceSub, here, plain, laid, Nat.reduceBEq, evOp, avOf, avCell, strOf, UInt8.reduceToNat, evBin, evInt, evStr, evUn, Nat.reduceEqDiff, Nat.reduceLT, evResults, evResultsL, reduceCtorEq, AV.isUndef, AV.cells, Nat.reduceAdd, Heap.store, Nat.reduceLeDiff, BEq.rfl]
      refine callStep (f14_ok hB4.c _ ?_)
      simp (maxSteps := 1000000) only [sx, fx, implies_true, evBuildSlice, fillE, fillA, Nat.reduceMul, Nat.reducePow, AV.isCell, Nat.reduceSub, here, plain, laid, Nat.reduceBEq, evOp, avOf, avCell, strOf, UInt8.reduceToNat, evBin, evInt, evStr, evUn, Nat.reduceEqDiff, Nat.reduceLT, evResults, evResultsL, reduceCtorEq, AV.isUndef, AV.cells, Nat.reduceAdd, Heap.store, Nat.reduceLeDiff, BEq.rfl]
      refine callStep (f38_ok hB4.r _ ?_)
      simp (maxSteps := 1000000) only [sx, fx, implies_true, evBuildSlice, fillE, fillA, Nat.reduceMul, Nat.reducePow, AV.isCell, Nat.reduceSub, here, plain, laid, Nat.reduceBEq, evOp, avOf, avCell, strOf, UInt8.reduceToNat, evBin, evInt, evStr, evUn, Nat.reduceEqDiff, Nat.reduceLT, evResults, evResultsL, reduceCtorEq, AV.isUndef, AV.cells, Nat.reduceAdd, Heap.store, Nat.reduceLeDiff, BEq.rfl]
      refine callStep (f15_ok hB4.c _ ?_)
      simp (maxSteps := 1000000) only [sx, fx, implies_true, evBuildSlice, fillE, fillA, Nat.reduceMul, Nat.reducePow, AV.isCell, Nat.reduceSub, here, plain, laid, Nat.reduceBEq, evOp, avOf, avCell, strOf, UInt8.reduceToNat, evBin, evInt, evStr, evUn, Nat.reduceEqDiff, Nat.reduceLT, evResults, evResultsL, reduceCtorEq, AV.isUndef, AV.cells, Nat.reduceAdd, Heap.store, Nat.reduceLeDiff, BEq.rfl]
      refine callStep (f39_ok hB4.r _ ?_)
      simp (maxSteps := 1000000) only [sx, fx, implies_true, evBuildSlice, fillE, fillA, Nat.reduceMul, Nat.reducePow, AV.isCell, Nat.reduceSub, here, plain, laid, Nat.reduceBEq, evOp, avOf, avCell, strOf, UInt8.reduceToNat, evBin, evInt, evStr, evUn, Nat.reduceEqDiff, Nat.reduceLT, evResults, evResultsL, reduceCtorEq, AV.isUndef, AV.cells, Nat.reduceAdd, Heap.store, Nat.reduceLeDiff, BEq.rfl]
      exact hQ _ _ _ _ _ _ hB4 hfT4
    · have hlnN : ∀ x, (ptN x n').length = 17 := fun _ => rfl
      have htkN : ∀ x, (ptN x n').take 17 = ptN x n' := fun _ => rfl
      have hcl : (ptN u n').all AV.isCell = true := pt_cells (own_isCell hO2)
      have a2 := fun xs => hF2.hpU xs _ _ (hU2 _ _ a1)
      simp (maxSteps := 1000000) only [sx, fx, implies_true, evBuildSlice, fillE, fillA, Nat.reduceMul, Nat.reducePow, AV.isCell, Nat.reduceSub, here, plain, laid, Nat.reduceBEq, evOp, avOf, avCell, strOf, UInt8.reduceToNat, evBin, evInt, evStr, evUn, Nat.reduceEqDiff, Nat.reduceLT, evResults, evResultsL, reduceCtorEq, AV.isUndef, AV.cells, Nat.reduceAdd, Heap.store, Nat.reduceLeDiff, hF2.at, hF2.hp, hlnN, hcl, a2]
      have p2 : (HP H2 [Blk.row 37 17 [ptN u n'] 0 0]).blk H2.next = some (.row 37 17 [ptN u n'] 0 0) := by rw [hp_blk0]; rfl
      have hUP := hF2.hpU [Blk.row 37 17 [ptN u n'] 0 0]
      have hFP := hF2.hpF [Blk.row 37 17 [ptN u n'] 0 0]
      have huP := hO2.holds.up hUP
      generalize hP : HP H2 [Blk.row 37 17 [ptN u n'] 0 0] = Z at *
      have hBZ := (hB1.up hU2).up hUP
      refine callStep (f33_ok key hFP hBZ.r _ (fun hl2 => by rw [hl] at hl2; cases hl2) (fun n2 hl2 g H3 hU3 hF3 hg3 => ?_))
      obtain rfl : n2 = n' := by rw [hl] at hl2; exact (Option.some.inj hl2).symm
      have p3 := fun xs => hF3.hpU xs _ _ (hU3 _ _ p2)
      have hclg : (ptN g n2).all AV.isCell = true := pt_cells (holds_isCell hg3)
      have q3 : (HP H3 [Blk.row 43 17 [ptN g n2] 0 0]).blk H3.next = some (.row 43 17 [ptN g n2] 0 0) := by rw [hp_blk0]; rfl
      simp (maxSteps := 1000000) only [sx, fx, implies_true, evBuildSlice, fillE, fillA, Nat.reduceMul, Nat.reducePow, AV.isCell, Nat.reduceSub, here, plain, laid, Nat.reduceBEq, evOp, avOf, avCell, strOf, UInt8.reduceToNat, evBin, evInt, evStr, evUn, Nat.reduceEqDiff, Nat.reduceLT, evResults, evResultsL, reduceCtorEq, AV.isUndef, AV.cells, Nat.reduceAdd, Heap.store, Nat.reduceLeDiff, hF3.at, hF3.hp, hlnN, hclg, p3, q3, htkN, BEq.rfl, bool_ok, bool_eqA]
      refine callStep (f12_ok (L := [vi 2 n2]) n2 (IntKind.i64.wrap (n2.tdiv 2)) n2 (n2.tmod 2 == 1) _ (hF3.hpF _) ((huP.up hU3).up (hF3.hpU _)) (hg3.up (hF3.hpU _)) (ViL.one n2) (by simp) _ fun H4 hU4 hF4 => ?_)
      have hB4' := ((hBZ.up hU3).up (hF3.hpU [Blk.row 43 17 [ptN g n2] 0 0])).up hU4
      simp (maxSteps := 1000000) only [sx, fx, implies_true, evBuildSlice, fillE, fillA, Nat.reduceMul, Nat.reducePow, AV.isCell, Nat.reduceSub, here, plain, laid, Nat.reduceBEq, evOp, avOf, avCell, strOf, UInt8.reduceToNat, evBin, evInt, evStr, evUn, Nat.reduceEqDiff, Nat.reduceLT, evResults, evResultsL, reduceCtorEq, AV.isUndef, AV.cells, Nat.reduceAdd, Heap.store, Nat.reduceLeDiff]
      refine callStep (f19_ok hF4 hB4'.c _ fun ks T1 hT1 hfT1 hO1 => ?_)
      simp (maxSteps := 1000000) only [sx, fx, implies_true, evBuildSlice, fillE, fillA, Nat.reduceMul, Nat.reducePow, AV.isCell, Nat.reduceSub, here, plain, laid, Nat.reduceBEq, evOp, avOf, avCell, strOf, UInt8.reduceToNat, evBin, evInt, evStr, evUn, Nat.reduceEqDiff, Nat.reduceLT, evResults, evResultsL, reduceCtorEq, AV.isUndef, AV.cells, Nat.reduceAdd, Heap.store, Nat.reduceLeDiff]
      refine callStep (f36_ok hfT1 (hB4'.r.up hT1) _ fun ks2 T2 hT2 hfT2 hO2 => ?_)
      simp (maxSteps := 1000000) only [sx, fx, implies_true, evBuildSlice, fillE, fillA, Nat.reduceMul, Nat.reducePow, AV.isCell, Nat.reduceSub, here, plain, laid, Nat.reduceBEq, evOp, avOf, avCell, strOf, UInt8.reduceToNat, evBin, evInt, evStr, evUn, Nat.reduceEqDiff, Nat.reduceLT, evResults, evResultsL, reduceCtorEq, AV.isUndef, AV.cells, Nat.reduceAdd, Heap.store, Nat.reduceLeDiff]
      refine callStep (f27_ok _ (hO1.holds.up hT2) hO2.holds (by have := hB4'.c.len; rw [List.length_map]; omega) _ ?_)
      have hBt := (hB4'.up hT1).up hT2
      simp (maxSteps := 1000000) only [sx, fx, implies_true, evBuildSlice, fillE, fillA, Nat.reduceMul, Nat.reducePow, AV.isCell, Nat.reduceSub, here, plain, laid, Nat.reduceBEq, evOp, avOf, avCell, strOf, UInt8.reduceToNat, evBin, evInt, evStr, evUn, Nat.reduceEqDiff, Nat.reduceLT, evResults, evResultsL, reduceCtorEq, AV.isUndef, AV.cells, Nat.reduceAdd, Heap.store, Nat.reduceLeDiff]
      refine callStep (f10_ok hfT2 hBt.c _ fun T3 hT3 hfT3 => ?_)
      simp (maxSteps := 1000000) only [sx, fx, implies_true, evBuildSlice, fillE, fillA, Nat.reduceMul, Nat.reducePow, AV.isCell, Nat.reduceSub, here, plain, laid, Nat.reduceBEq, evOp, avOf, avCell, strOf, UInt8.reduceToNat, evBin, evInt, evStr, evUn, Nat.reduceEqDiff, Nat.reduceLT, evResults, evResultsL, reduceCtorEq, AV.isUndef, AV.cells, Nat.reduceAdd, Heap.store, Nat.reduceLeDiff]
      refine callStep (f37_ok hfT3 (hBt.up hT3).r _ fun T4 hT4 hfT4 => ?_)
      have hB4 := (hBt.up hT3).up hT4
      simp (maxSteps := 1000000) only [sx, fx, implies_true, evBuildSlice, fillE, fillA, Nat.reduceMul, Nat.reducePow, AV.isCell, Nat.reduceSub, here, plain, laid, Nat.reduceBEq, evOp, avOf, avCell, strOf, UInt8.reduceToNat, evBin, evInt, evStr, evUn, Nat.reduceEqDiff, Nat.reduceLT, evResults, evResultsL, reduceCtorEq, AV.isUndef, AV.cells, Nat.reduceAdd, Heap.store, Nat.reduceLeDiff, BEq.rfl]
      refine callStep (f14_ok hB4.c _ ?_)
      simp (maxSteps := 1000000) only [sx, fx, implies_true, evBuildSlice, fillE, fillA, Nat.reduceMul, Nat.reducePow, AV.isCell, Nat.reduceSub, here, plain, laid, Nat.reduceBEq, evOp, avOf, avCell, strOf, UInt8.reduceToNat, evBin, evInt, evStr, evUn, Nat.reduceEqDiff, Nat.reduceLT, evResults, evResultsL, reduceCtorEq, AV.isUndef, AV.cells, Nat.reduceAdd, Heap.store, Nat.reduceLeDiff, BEq.rfl]
      refine callStep (f38_ok hB4.r _ ?_)
      simp (maxSteps := 1000000) only [sx, fx, implies_true, evBuildSlice, fillE, fillA, Nat.reduceMul, Nat.reducePow, AV.isCell, Nat.reduceSub, here, plain, laid, Nat.reduceBEq, evOp, avOf, avCell, strOf, UInt8.reduceToNat, evBin, evInt, evStr, evUn, Nat.reduceEqDiff, Nat.reduceLT, evResults, evResultsL, reduceCtorEq, AV.isUndef, AV.cells, Nat.reduceAdd, Heap.store, Nat.reduceLeDiff, BEq.rfl]
      refine callStep (f15_ok hB4.c _ ?_)
      simp (maxSteps := 1000000) only [sx, fx, implies_true, evBuildSlice, fillE, fillA, Nat.reduceMul, Nat.reducePow, AV.isCell, Nat.reduceSub, here, plain, laid, Nat.reduceBEq, evOp, avOf, avCell, strOf, UInt8.reduceToNat, evBin, evInt, evStr, evUn, Nat.reduceEqDiff, Nat.reduceLT, evResults, evResultsL, reduceCtorEq, AV.isUndef, AV.cells, Nat.reduceAdd, Heap.store, Nat.reduceLeDiff, BEq.rfl]
      refine callStep (f39_ok hB4.r _ ?_)
      simp (maxSteps := 1000000) only [sx, fx, implies_true, evBuildSlice, fillE, fillA, Nat.reduceMul, Nat.reducePow, AV.isCell, Nat.reduceSub, here, plain, laid, Nat.reduceBEq, evOp, avOf, avCell, strOf, UInt8.reduceToNat, evBin, evInt, evStr, evUn, Nat.reduceEqDiff, Nat.reduceLT, evResults, evResultsL, reduceCtorEq, AV.isUndef, AV.cells, Nat.reduceAdd, Heap.store, Nat.reduceLeDiff, BEq.rfl]
      exact hQ _ _ _ _ _ _ hB4 hfT4
  have b2 : (kd == 2) = false := by simpa using k2
  by_cases k3 : kd = 3
  · subst k3
    simp (maxSteps := 1000000) only [sx, fx, implies_true, evBuildSlice, fillE, fillA, Nat.reduceMul, Nat.reducePow, AV.isCell, Nat.reduceSub, here, plain, laid, Nat.reduceBEq, evOp, avOf, avCell, strOf, UInt8.reduceToNat, evBin, evInt, evStr, evUn, Nat.reduceEqDiff, Nat.reduceLT, evResults, evResultsL, reduceCtorEq, AV.isUndef, AV.cells, Nat.reduceAdd, Heap.store, Nat.reduceLeDiff, a1, b0, b1, b2, BEq.rfl]
    refine drawStepK (fun b => b = H.next) [6, 3] [0, 1, 2, 4, 5, 6, 3, 7, 8] _ rfl (by kernel_rfl) ?_
    simp (maxSteps := 1000000) only [sx, fx, implies_true, evBuildSlice, fillE, fillA, Nat.reduceMul, Nat.reducePow, AV.isCell, Nat.reduceSub, here, plain, laid, Nat.reduceBEq, evOp, avOf, avCell, strOf, UInt8.reduceToNat, evBin, evInt, evStr, evUn, Nat.reduceEqDiff, Nat.reduceLT, evResults, evResultsL, reduceCtorEq, AV.isUndef, AV.cells, Nat.reduceAdd, Heap.store, Nat.reduceLeDiff, hereStep_K, a1]
    refine opStepK_read (.str key) (fun Z mz hZ => ?_) ?_
    · have hz' : Z H.next = some (.row 49 3 [[.int .i64 3, .str key, .int .i64 n]] 0 0) := hZ _ _ rfl a1
      simp (maxSteps := 1000000) only [sx, fx, implies_true, evBuildSlice, fillE, fillA, Nat.reduceMul, Nat.reducePow, AV.isCell, Nat.reduceSub, here, plain, laid, Nat.reduceBEq, evOp, avOf, avCell, strOf, UInt8.reduceToNat, evBin, evInt, evStr, evUn, Nat.reduceEqDiff, Nat.reduceLT, evResults, evResultsL, reduceCtorEq, AV.isUndef, AV.cells, Nat.reduceAdd, Heap.store, Nat.reduceLeDiff, hz']
    simp (maxSteps := 1000000) only [sx, fx, implies_true, evBuildSlice, fillE, fillA, Nat.reduceMul, Nat.reducePow, AV.isCell, Nat.reduceSub, here, plain, laid, Nat.reduceBEq, evOp, avOf, avCell, strOf, UInt8.reduceToNat, evBin, evInt, evStr, evUn, Nat.reduceEqDiff, Nat.reduceLT, evResults, evResultsL, reduceCtorEq, AV.isUndef, AV.cells, Nat.reduceAdd, Heap.store, Nat.reduceLeDiff, hereStep_K, a1]
    refine callStep_flag (f18_ok key hF1 hB1.c _ (fun hl H2 hU2 hF2 => ⟨UpO.of_up hU2, ?_⟩) (fun n' hl H2 hP2 => ?_))
    · have hB2 := hB1.up hU2
      simp (maxSteps := 1000000) only [sx, fx, implies_true, evBuildSlice, fillE, fillA, Nat.reduceMul, Nat.reducePow, AV.isCell, Nat.reduceSub, here, plain, laid, Nat.reduceBEq, evOp, avOf, avCell, strOf, UInt8.reduceToNat, evBin, evInt, evStr, evUn, Nat.reduceEqDiff, Nat.reduceLT, evResults, evResultsL, reduceCtorEq, AV.isUndef, AV.cells, Nat.reduceAdd, Heap.store, Nat.reduceLeDiff]
      refine callStep (f34_ok key hF2 hB2.r _ fun H3 hP3 => ?_)
      have hno : without key L = L := keepL hl
      rw [hno] at hP3
      obtain ⟨G3, hC3, hR3, hd3, hF3, _⟩ := r_step hB2.c hB2.r hB2.d (fun _ => False.elim) hP3.toG
      have hB3 : Both H3 F G3 cx rx sz h m L := ⟨hC3, hR3, hd3, hB.len⟩
      simp (maxSteps := 1000000) only [sx, fx, implies_true, evBuildSlice, fillE, fillA, Nat.reduceMul, Nat.reducePow, AV.isCell, Nat.reduceSub, here, plain, laid, Nat.reduceBEq, evOp, avOf, avCell, strOf, UInt8.reduceToNat, evBin, evInt, evStr, evUn, Nat.reduceEqDiff, Nat.reduceLT, evResults, evResultsL, reduceCtorEq, AV.isUndef, AV.cells, Nat.reduceAdd, Heap.store, Nat.reduceLeDiff, hl, Option.isSome_none, BEq.rfl, bool_ok, bool_eqA]
      refine callStep (f19_ok hF3 hB3.c _ fun ks T1 hT1 hfT1 hO1 => ?_)
      simp (maxSteps := 1000000) only [sx, fx, implies_true, evBuildSlice, fillE, fillA, Nat.reduceMul, Nat.reducePow, AV.isCell, Nat.reduceSub, here, plain, laid, Nat.reduceBEq, evOp, avOf, avCell, strOf, UInt8.reduceToNat, evBin, evInt, evStr, evUn, Nat.reduceEqDiff, Nat.reduceLT, evResults, evResultsL, reduceCtorEq, AV.isUndef, AV.cells, Nat.reduceAdd, Heap.store, Nat.reduceLeDiff]
      refine callStep (f36_ok hfT1 (hB3.r.up hT1) _ fun ks2 T2 hT2 hfT2 hO2 => ?_)
      simp (maxSteps := 1000000) only [sx, fx, implies_true, evBuildSlice, fillE, fillA, Nat.reduceMul, Nat.reducePow, AV.isCell, Nat.reduceSub, here, plain, laid, Nat.reduceBEq, evOp, avOf, avCell, strOf, UInt8.reduceToNat, evBin, evInt, evStr, evUn, Nat.reduceEqDiff, Nat.reduceLT, evResults, evResultsL, reduceCtorEq, AV.isUndef, AV.cells, Nat.reduceAdd, Heap.store, Nat.reduceLeDiff]
      refine callStep (f27_ok _ (hO1.holds.up hT2) hO2.holds (by have := hB3.c.len; rw [List.length_map]; omega) _ ?_)
      have hBt := (hB3.up hT1).up hT2
      simp (maxSteps := 1000000) only [sx, fx, implies_true, evBuildSlice, fillE, fillA, Nat.reduceMul, Nat.reducePow, AV.isCell, Nat.reduceSub, here, plain, laid, Nat.reduceBEq, evOp, avOf, avCell, strOf, UInt8.reduceToNat, evBin, evInt, evStr, evUn, Nat.reduceEqDiff, Nat.reduceLT, evResults, evResultsL, reduceCtorEq, AV.isUndef, AV.cells, Nat.reduceAdd, Heap.store, Nat.reduceLeDiff]
      refine callStep (f10_ok hfT2 hBt.c _ fun T3 hT3 hfT3 => ?_)
      simp (maxSteps := 1000000) only [sx, fx, implies_true, evBuildSlice, fillE, fillA, Nat.reduceMul, Nat.reducePow, AV.isCell, Nat.reduceSub, here, plain, laid, Nat.reduceBEq, evOp, avOf, avCell, strOf, UInt8.reduceToNat, evBin, evInt, evStr, evUn, Nat.reduceEqDiff, Nat.reduceLT, evResults, evResultsL, reduceCtorEq, AV.isUndef, AV.cells, Nat.reduceAdd, Heap.store, Nat.reduceLeDiff]
      refine callStep (f37_ok hfT3 (hBt.up hT3).r _ fun T4 hT4 hfT4 => ?_)
      have hB4 := (hBt.up hT3).up hT4
      simp (maxSteps := 1000000) only [sx, fx, implies_true, evBuildSlice, fillE, fillA, Nat.reduceMul, Nat.reducePow, AV.isCell, Nat.reduceSub, here, plain, laid, Nat.reduceBEq, evOp, avOf, avCell, strOf, UInt8.reduceToNat, evBin, evInt, evStr, evUn, Nat.reduceEqDiff, Nat.reduceLT, evResults, evResultsL, reduceCtorEq, AV.isUndef, AV.cells, Nat.reduceAdd, Heap.store, Nat.reduceLeDiff, BEq.rfl]
      refine callStep (f14_ok hB4.c _ ?_)
      simp (maxSteps := 1000000) only [sx, fx, implies_true, evBuildSlice, fillE, fillA, Nat.reduceMul, Nat.reducePow, AV.isCell, Nat.reduceSub, here, plain, laid, Nat.reduceBEq, evOp, avOf, avCell, strOf, UInt8.reduceToNat, evBin, evInt, evStr, evUn, Nat.reduceEqDiff, Nat.reduceLT, evResults, evResultsL, reduceCtorEq, AV.isUndef, AV.cells, Nat.reduceAdd, Heap.store, Nat.reduceLeDiff, BEq.rfl]
      refine callStep (f38_ok hB4.r _ ?_)
      simp (maxSteps := 1000000) only [sx, fx, implies_true, evBuildSlice, fillE, fillA, Nat.reduceMul, Nat.reducePow, AV.isCell, Nat.reduceSub, here, plain, laid, Nat.reduceBEq, evOp, avOf, avCell, strOf, UInt8.reduceToNat, evBin, evInt, evStr, evUn, Nat.reduceEqDiff, Nat.reduceLT, evResults, evResultsL, reduceCtorEq, AV.isUndef, AV.cells, Nat.reduceAdd, Heap.store, Nat.reduceLeDiff, BEq.rfl]
      refine callStep (f15_ok hB4.c _ ?_)
      simp (maxSteps := 1000000) only [sx, fx, implies_true, evBuildSlice, fillE, fillA, Nat.reduceMul, Nat.reducePow, AV.isCell, Nat.reduceSub, here, plain, laid, Nat.reduceBEq, evOp, avOf, avCell, strOf, UInt8.reduceToNat, evBin, evInt, evStr, evUn, Nat.reduceEqDiff, Nat.reduceLT, evResults, evResultsL, reduceCtorEq, AV.isUndef, AV.cells, Nat.reduceAdd, Heap.store, Nat.reduceLeDiff, BEq.rfl]
      refine callStep (f39_ok hB4.r _ ?_)
      simp (maxSteps := 1000000) only [sx, fx, implies_true, evBuildSlice, fillE, fillA, Nat.reduceMul, Nat.reducePow, AV.isCell, Nat.reduceSub, here, plain, laid, Nat.reduceBEq, evOp, avOf, avCell, strOf, UInt8.reduceToNat, evBin, evInt, evStr, evUn, Nat.reduceEqDiff, Nat.reduceLT, evResults, evResultsL, reduceCtorEq, AV.isUndef, AV.cells, Nat.reduceAdd, Heap.store, Nat.reduceLeDiff, BEq.rfl]
      exact hQ _ _ _ _ _ _ hB4 hfT4
    · obtain ⟨F2, hC2, hR2, hd2, hF2, keep2⟩ := c_step hB1.r hB1.d hP2
      refine ⟨fun b x hb hx => (keep2 b x hx (by rw [hb]; exact hnF)).1, ?_⟩
      simp (maxSteps := 1000000) only [sx, fx, implies_true, evBuildSlice, fillE, fillA, Nat.reduceMul, Nat.reducePow, AV.isCell, Nat.reduceSub, here, plain, laid, Nat.reduceBEq, evOp, avOf, avCell, strOf, UInt8.reduceToNat, evBin, evInt, evStr, evUn, Nat.reduceEqDiff, Nat.reduceLT, evResults, evResultsL, reduceCtorEq, AV.isUndef, AV.cells, Nat.reduceAdd, Heap.store, Nat.reduceLeDiff]
      refine callStep (f34_ok key hF2 hR2 _ fun H3 hP3 => ?_)
      obtain ⟨G3, hC3, hR3, hd3, hF3, _⟩ := r_step hC2 hR2 hd2 (fun _ => False.elim) hP3.toG
      have hB3 : Both H3 F2 G3 cx rx sz h m (without key L) := ⟨hC3, hR3, hd3, without_len' key hB.len⟩
      simp (maxSteps := 1000000) only [sx, fx, implies_true, evBuildSlice, fillE, fillA, Nat.reduceMul, Nat.reducePow, AV.isCell, Nat.reduceSub, here, plain, laid, Nat.reduceBEq, evOp, avOf, avCell, strOf, UInt8.reduceToNat, evBin, evInt, evStr, evUn, Nat.reduceEqDiff, Nat.reduceLT, evResults, evResultsL, reduceCtorEq, AV.isUndef, AV.cells, Nat.reduceAdd, Heap.store, Nat.reduceLeDiff, hl, Option.isSome_some, BEq.rfl, bool_ok, bool_eqA]
      refine callStep (f19_ok hF3 hB3.c _ fun ks T1 hT1 hfT1 hO1 => ?_)
      simp (maxSteps := 1000000) only [sx, fx, implies_true, evBuildSlice, fillE, fillA, Nat.reduceMul, Nat.reducePow, AV.isCell, Nat.reduceSub, here, plain, laid, Nat.reduceBEq, evOp, avOf, avCell, strOf, UInt8.reduceToNat, evBin, evInt, evStr, evUn, Nat.reduceEqDiff, Nat.reduceLT, evResults, evResultsL, reduceCtorEq, AV.isUndef, AV.cells, Nat.reduceAdd, Heap.store, Nat.reduceLeDiff]
      refine callStep (f36_ok hfT1 (hB3.r.up hT1) _ fun ks2 T2 hT2 hfT2 hO2 => ?_)
      simp (maxSteps := 1000000) only [sx, fx, implies_true, evBuildSlice, fillE, fillA, Nat.reduceMul, Nat.reducePow, AV.isCell, Nat.reduceSub, here, plain, laid, Nat.reduceBEq, evOp, avOf, avCell, strOf, UInt8.reduceToNat, evBin, evInt, evStr, evUn, Nat.reduceEqDiff, Nat.reduceLT, evResults, evResultsL, reduceCtorEq, AV.isUndef, AV.cells, Nat.reduceAdd, Heap.store, Nat.reduceLeDiff]
      refine callStep (f27_ok _ (hO1.holds.up hT2) hO2.holds (by have := hB3.c.len; rw [List.length_map]; omega) _ ?_)
      have hBt := (hB3.up hT1).up hT2
      simp (maxSteps := 1000000) only [sx, fx, implies_true, evBuildSlice, fillE, fillA, Nat.reduceMul, Nat.reducePow, AV.isCell, Nat.reduceSub, here, plain, laid, Nat.reduceBEq, evOp, avOf, avCell, strOf, UInt8.reduceToNat, evBin, evInt, evStr, evUn, Nat.reduceEqDiff, Nat.reduceLT, evResults, evResultsL, reduceCtorEq, AV.isUndef, AV.cells, Nat.reduceAdd, Heap.store, Nat.reduceLeDiff]
      refine callStep (f10_ok hfT2 hBt.c _ fun T3 hT3 hfT3 => ?_)
      simp (maxSteps := 1000000) only [sx, fx, implies_true, evBuildSlice, fillE, fillA, Nat.reduceMul, Nat.reducePow, AV.isCell, Nat.reduceSub, here, plain, laid, Nat.reduceBEq, evOp, avOf, avCell, strOf, UInt8.reduceToNat, evBin, evInt, evStr, evUn, Nat.reduceEqDiff, Nat.reduceLT, evResults, evResultsL, reduceCtorEq, AV.isUndef, AV.cells, Nat.reduceAdd, Heap.store, Nat.reduceLeDiff]
      refine callStep (f37_ok hfT3 (hBt.up hT3).r _ fun T4 hT4 hfT4 => ?_)
      have hB4 := (hBt.up hT3).up hT4
      simp (maxSteps := 1000000) only [sx, fx, implies_true, evBuildSlice, fillE, fillA, Nat.reduceMul, Nat.reducePow, AV.isCell, Nat.reduceSub, here, plain, laid, Nat.reduceBEq, evOp, avOf, avCell, strOf, UInt8.reduceToNat, evBin, evInt, evStr, evUn, Nat.reduceEqDiff, Nat.reduceLT, evResults, evResultsL, reduceCtorEq, AV.isUndef, AV.cells, Nat.reduceAdd, Heap.store, Nat.reduceLeDiff, BEq.rfl]
      refine callStep (f14_ok hB4.c _ ?_)
      simp (maxSteps := 1000000) only [sx, fx, implies_true, evBuildSlice, fillE, fillA, Nat.reduceMul, Nat.reducePow, AV.isCell, Nat.reduceSub, here, plain, laid, Nat.reduceBEq, evOp, avOf, avCell, strOf, UInt8.reduceToNat, evBin, evInt, evStr, evUn, Nat.reduceEqDiff, Nat.reduceLT, evResults, evResultsL, reduceCtorEq, AV.isUndef, AV.cells, Nat.reduceAdd, Heap.store, Nat.reduceLeDiff, BEq.rfl]
      refine callStep (f38_ok hB4.r _ ?_)
      simp (maxSteps := 1000000) only [sx, fx, implies_true, evBuildSlice, fillE, fillA, Nat.reduceMul, Nat.reducePow, AV.isCell, Nat.reduceSub, here, plain, laid, Nat.reduceBEq, evOp, avOf, avCell, strOf, UInt8.reduceToNat, evBin, evInt, evStr, evUn, Nat.reduceEqDiff, Nat.reduceLT, evResults, evResultsL, reduceCtorEq, AV.isUndef, AV.cells, Nat.reduceAdd, Heap.store, Nat.reduceLeDiff, BEq.rfl]
      refine callStep (f15_ok hB4.c _ ?_)
      simp (maxSteps := 1000000) only [sx, fx, implies_true, evBuildSlice, fillE, fillA, Nat.reduceMul, Nat.reducePow, AV.isCell, Nat.reduceSub, here, plain, laid, Nat.reduceBEq, evOp, avOf, avCell, strOf, UInt8.reduceToNat, evBin, evInt, evStr, evUn, Nat.reduceEqDiff, Nat.reduceLT, evResults, evResultsL, reduceCtorEq, AV.isUndef, AV.cells, Nat.reduceAdd, Heap.store, Nat.reduceLeDiff, BEq.rfl]
      refine callStep (f39_ok hB4.r _ ?_)
      simp (maxSteps := 1000000) only [sx, fx, implies_true, evBuildSlice, fillE, fillA, Nat.reduceMul, Nat.reducePow, AV.isCell, Nat.reduceSub, here, plain, laid, Nat.reduceBEq, evOp, avOf, avCell, strOf, UInt8.reduceToNat, evBin, evInt, evStr, evUn, Nat.reduceEqDiff, Nat.reduceLT, evResults, evResultsL, reduceCtorEq, AV.isUndef, AV.cells, Nat.reduceAdd, Heap.store, Nat.reduceLeDiff, BEq.rfl]
      exact hQ _ _ _ _ _ _ hB4 hfT4
  have b3 : (kd == 3) = false := by simpa using k3
  by_cases k4 : kd = 4
  · subst k4
    simp (maxSteps := 1000000) only [sx, fx, implies_true, evBuildSlice, fillE, fillA, Nat.reduceMul, Nat.reducePow, AV.isCell, Nat.reduceSub, here, plain, laid, Nat.reduceBEq, evOp, avOf, avCell, strOf, UInt8.reduceToNat, evBin, evInt, evStr, evUn, Nat.reduceEqDiff, Nat.reduceLT, evResults, evResultsL, reduceCtorEq, AV.isUndef, AV.cells, Nat.reduceAdd, Heap.store, Nat.reduceLeDiff, a1, b0, b1, b2, b3, BEq.rfl]
    refine callStep (f22_ok hF1 hB1.c _ fun r2 H2 hP2 => ?_)
    obtain ⟨F2, hC2, hR2, hd2, hF2, keep2⟩ := c_step hB1.r hB1.d hP2
    simp (maxSteps := 1000000) only [sx, fx, implies_true, evBuildSlice, fillE, fillA, Nat.reduceMul, Nat.reducePow, AV.isCell, Nat.reduceSub, here, plain, laid, Nat.reduceBEq, evOp, avOf, avCell, strOf, UInt8.reduceToNat, evBin, evInt, evStr, evUn, Nat.reduceEqDiff, Nat.reduceLT, evResults, evResultsL, reduceCtorEq, AV.isUndef, AV.cells, Nat.reduceAdd, Heap.store, Nat.reduceLeDiff]
    refine callStep (f35_ok hF2 hR2 _ fun r3 H3 hP3 => ?_)
    obtain ⟨G3, hC3, hR3, hd3, hF3, _⟩ := r_step hC2 hR2 hd2 (fun _ => False.elim) hP3.toG
    have hz : ((([] : Stored).length : Nat) : Int) ≤ sz := by have := hB.len; rw [List.length_nil]; omega
    have hB3 : Both H3 F2 G3 cx rx sz h m [] := ⟨hC3, hR3, hd3, hz⟩
    simp (maxSteps := 1000000) only [sx, fx, implies_true, evBuildSlice, fillE, fillA, Nat.reduceMul, Nat.reducePow, AV.isCell, Nat.reduceSub, here, plain, laid, Nat.reduceBEq, evOp, avOf, avCell, strOf, UInt8.reduceToNat, evBin, evInt, evStr, evUn, Nat.reduceEqDiff, Nat.reduceLT, evResults, evResultsL, reduceCtorEq, AV.isUndef, AV.cells, Nat.reduceAdd, Heap.store, Nat.reduceLeDiff]
    refine callStep (f19_ok hF3 hB3.c _ fun ks T1 hT1 hfT1 hO1 => ?_)
    simp (maxSteps := 1000000) only [sx, fx, implies_true, evBuildSlice, fillE, fillA, Nat.reduceMul, Nat.reducePow, AV.isCell, Nat.reduceSub, here, plain, laid, Nat.reduceBEq, evOp, avOf, avCell, strOf, UInt8.reduceToNat, evBin, evInt, evStr, evUn, Nat.reduceEqDiff, Nat.reduceLT, evResults, evResultsL, reduceCtorEq, AV.isUndef, AV.cells, Nat.reduceAdd, Heap.store, Nat.reduceLeDiff]
    refine callStep (f36_ok hfT1 (hB3.r.up hT1) _ fun ks2 T2 hT2 hfT2 hO2 => ?_)
    simp (maxSteps := 1000000) only [sx, fx, implies_true, evBuildSlice, fillE, fillA, Nat.reduceMul, Nat.reducePow, AV.isCell, Nat.reduceSub, here, plain, laid, Nat.reduceBEq, evOp, avOf, avCell, strOf, UInt8.reduceToNat, evBin, evInt, evStr, evUn, Nat.reduceEqDiff, Nat.reduceLT, evResults, evResultsL, reduceCtorEq, AV.isUndef, AV.cells, Nat.reduceAdd, Heap.store, Nat.reduceLeDiff]
    refine callStep (f27_ok _ (hO1.holds.up hT2) hO2.holds (by have := hB3.c.len; rw [List.length_map]; omega) _ ?_)
    have hBt := (hB3.up hT1).up hT2
    simp (maxSteps := 1000000) only [sx, fx, implies_true, evBuildSlice, fillE, fillA, Nat.reduceMul, Nat.reducePow, AV.isCell, Nat.reduceSub, here, plain, laid, Nat.reduceBEq, evOp, avOf, avCell, strOf, UInt8.reduceToNat, evBin, evInt, evStr, evUn, Nat.reduceEqDiff, Nat.reduceLT, evResults, evResultsL, reduceCtorEq, AV.isUndef, AV.cells, Nat.reduceAdd, Heap.store, Nat.reduceLeDiff]
    refine callStep (f10_ok hfT2 hBt.c _ fun T3 hT3 hfT3 => ?_)
    simp (maxSteps := 1000000) only [sx, fx, implies_true, evBuildSlice, fillE, fillA, Nat.reduceMul, Nat.reducePow, AV.isCell, Nat.reduceSub, here, plain, laid, Nat.reduceBEq, evOp, avOf, avCell, strOf, UInt8.reduceToNat, evBin, evInt, evStr, evUn, Nat.reduceEqDiff, Nat.reduceLT, evResults, evResultsL, reduceCtorEq, AV.isUndef, AV.cells, Nat.reduceAdd, Heap.store, Nat.reduceLeDiff]
    refine callStep (f37_ok hfT3 (hBt.up hT3).r _ fun T4 hT4 hfT4 => ?_)
    have hB4 := (hBt.up hT3).up hT4
    simp (maxSteps := 1000000) only [sx, fx, implies_true, evBuildSlice, fillE, fillA, Nat.reduceMul, Nat.reducePow, AV.isCell, Nat.reduceSub, here, plain, laid, Nat.reduceBEq, evOp, avOf, avCell, strOf, UInt8.reduceToNat, evBin, evInt, evStr, evUn, Nat.reduceEqDiff, Nat.reduceLT, evResults, evResultsL, reduceCtorEq, AV.isUndef, AV.cells, Nat.reduceAdd, Heap.store, Nat.reduceLeDiff, BEq.rfl]
    refine callStep (f14_ok hB4.c _ ?_)
    simp (maxSteps := 1000000) only [sx, fx, implies_true, evBuildSlice, fillE, fillA, Nat.reduceMul, Nat.reducePow, AV.isCell, Nat.reduceSub, here, plain, laid, Nat.reduceBEq, evOp, avOf, avCell, strOf, UInt8.reduceToNat, evBin, evInt, evStr, evUn, Nat.reduceEqDiff, Nat.reduceLT, evResults, evResultsL, reduceCtorEq, AV.isUndef, AV.cells, Nat.reduceAdd, Heap.store, Nat.reduceLeDiff, BEq.rfl]
    refine callStep (f38_ok hB4.r _ ?_)
    simp (maxSteps := 1000000) only [sx, fx, implies_true, evBuildSlice, fillE, fillA, Nat.reduceMul, Nat.reducePow, AV.isCell, Nat.reduceSub, here, plain, laid, Nat.reduceBEq, evOp, avOf, avCell, strOf, UInt8.reduceToNat, evBin, evInt, evStr, evUn, Nat.reduceEqDiff, Nat.reduceLT, evResults, evResultsL, reduceCtorEq, AV.isUndef, AV.cells, Nat.reduceAdd, Heap.store, Nat.reduceLeDiff, BEq.rfl]
    refine callStep (f15_ok hB4.c _ ?_)
    simp (maxSteps := 1000000) only [sx, fx, implies_true, evBuildSlice, fillE, fillA, Nat.reduceMul, Nat.reducePow, AV.isCell, Nat.reduceSub, here, plain, laid, Nat.reduceBEq, evOp, avOf, avCell, strOf, UInt8.reduceToNat, evBin, evInt, evStr, evUn, Nat.reduceEqDiff, Nat.reduceLT, evResults, evResultsL, reduceCtorEq, AV.isUndef, AV.cells, Nat.reduceAdd, Heap.store, Nat.reduceLeDiff, BEq.rfl]
    refine callStep (f39_ok hB4.r _ ?_)
    simp (maxSteps := 1000000) only [sx, fx, implies_true, evBuildSlice, fillE, fillA, Nat.reduceMul, Nat.reducePow, AV.isCell, Nat.reduceSub, here, plain, laid, Nat.reduceBEq, evOp, avOf, avCell, strOf, UInt8.reduceToNat, evBin, evInt, evStr, evUn, Nat.reduceEqDiff, Nat.reduceLT, evResults, evResultsL, reduceCtorEq, AV.isUndef, AV.cells, Nat.reduceAdd, Heap.store, Nat.reduceLeDiff, BEq.rfl]
    exact hQ _ _ _ _ _ _ hB4 hfT4
  have b4 : (kd == 4) = false := by simpa using k4
  simp (maxSteps := 1000000) only [sx, fx, implies_true, evBuildSlice, fillE, fillA, Nat.reduceMul, Nat.reducePow, AV.isCell, Nat.reduceSub, here, plain, laid, Nat.reduceBEq, evOp, avOf, avCell, strOf, UInt8.reduceToNat, evBin, evInt, evStr, evUn, Nat.reduceEqDiff, Nat.reduceLT, evResults, evResultsL, reduceCtorEq, AV.isUndef, AV.cells, Nat.reduceAdd, Heap.store, Nat.reduceLeDiff, a1, b0, b1, b2, b3, b4]
  refine callStep (f19_ok hF1 hB1.c _ fun ks T1 hT1 hfT1 hO1 => ?_)
  simp (maxSteps := 1000000) only [sx, fx, implies_true, evBuildSlice, fillE, fillA, Nat.reduceMul, Nat.reducePow, AV.isCell, Nat.reduceSub, here, plain, laid, Nat.reduceBEq, evOp, avOf, avCell, strOf, UInt8.reduceToNat, evBin, evInt, evStr, evUn, Nat.reduceEqDiff, Nat.reduceLT, evResults, evResultsL, reduceCtorEq, AV.isUndef, AV.cells, Nat.reduceAdd, Heap.store, Nat.reduceLeDiff]
  refine callStep (f36_ok hfT1 (hB1.r.up hT1) _ fun ks2 T2 hT2 hfT2 hO2 => ?_)
  simp (maxSteps := 1000000) only [sx, fx, implies_true, evBuildSlice, fillE, fillA, Nat.reduceMul, Nat.reducePow, AV.isCell, Nat.reduceSub, here, plain, laid, Nat.reduceBEq, evOp, avOf, avCell, strOf, UInt8.reduceToNat, evBin, evInt, evStr, evUn, Nat.reduceEqDiff, Nat.reduceLT, evResults, evResultsL, reduceCtorEq, AV.isUndef, AV.cells, Nat.reduceAdd, Heap.store, Nat.reduceLeDiff]
  refine callStep (f27_ok _ (hO1.holds.up hT2) hO2.holds (by have := hB1.c.len; rw [List.length_map]; omega) _ ?_)
  have hBt := (hB1.up hT1).up hT2
  simp (maxSteps := 1000000) only [sx, fx, implies_true, evBuildSlice, fillE, fillA, Nat.reduceMul, Nat.reducePow, AV.isCell, Nat.reduceSub, here, plain, laid, Nat.reduceBEq, evOp, avOf, avCell, strOf, UInt8.reduceToNat, evBin, evInt, evStr, evUn, Nat.reduceEqDiff, Nat.reduceLT, evResults, evResultsL, reduceCtorEq, AV.isUndef, AV.cells, Nat.reduceAdd, Heap.store, Nat.reduceLeDiff]
  refine callStep (f10_ok hfT2 hBt.c _ fun T3 hT3 hfT3 => ?_)
  simp (maxSteps := 1000000) only [sx, fx, implies_true, evBuildSlice, fillE, fillA, Nat.reduceMul, Nat.reducePow, AV.isCell, Nat.reduceSub, here, plain, laid, Nat.reduceBEq, evOp, avOf, avCell, strOf, UInt8.reduceToNat, evBin, evInt, evStr, evUn, Nat.reduceEqDiff, Nat.reduceLT, evResults, evResultsL, reduceCtorEq, AV.isUndef, AV.cells, Nat.reduceAdd, Heap.store, Nat.reduceLeDiff]
  refine callStep (f37_ok hfT3 (hBt.up hT3).r _ fun T4 hT4 hfT4 => ?_)
  have hB4 := (hBt.up hT3).up hT4
  simp (maxSteps := 1000000) only [sx, fx, implies_true, evBuildSlice, fillE, fillA, Nat.reduceMul, Nat.reducePow, AV.isCell, Nat.reduceSub, here, plain, laid, Nat.reduceBEq, evOp, avOf, avCell, strOf, UInt8.reduceToNat, evBin, evInt, evStr, evUn, Nat.reduceEqDiff, Nat.reduceLT, evResults, evResultsL, reduceCtorEq, AV.isUndef, AV.cells, Nat.reduceAdd, Heap.store, Nat.reduceLeDiff, BEq.rfl]
  refine callStep (f14_ok hB4.c _ ?_)
  simp (maxSteps := 1000000) only [sx, fx, implies_true, evBuildSlice, fillE, fillA, Nat.reduceMul, Nat.reducePow, AV.isCell, Nat.reduceSub, here, plain, laid, Nat.reduceBEq, evOp, avOf, avCell, strOf, UInt8.reduceToNat, evBin, evInt, evStr, evUn, Nat.reduceEqDiff, Nat.reduceLT, evResults, evResultsL, reduceCtorEq, AV.isUndef, AV.cells, Nat.reduceAdd, Heap.store, Nat.reduceLeDiff, BEq.rfl]
  refine callStep (f38_ok hB4.r _ ?_)
  simp (maxSteps := 1000000) only [sx, fx, implies_true, evBuildSlice, fillE, fillA, Nat.reduceMul, Nat.reducePow, AV.isCell, Nat.reduceSub, here, plain, laid, Nat.reduceBEq, evOp, avOf, avCell, strOf, UInt8.reduceToNat, evBin, evInt, evStr, evUn, Nat.reduceEqDiff, Nat.reduceLT, evResults, evResultsL, reduceCtorEq, AV.isUndef, AV.cells, Nat.reduceAdd, Heap.store, Nat.reduceLeDiff, BEq.rfl]
  refine callStep (f15_ok hB4.c _ ?_)
  simp (maxSteps := 1000000) only [sx, fx, implies_true, evBuildSlice, fillE, fillA, Nat.reduceMul, Nat.reducePow, AV.isCell, Nat.reduceSub, here, plain, laid, Nat.reduceBEq, evOp, avOf, avCell, strOf, UInt8.reduceToNat, evBin, evInt, evStr, evUn, Nat.reduceEqDiff, Nat.reduceLT, evResults, evResultsL, reduceCtorEq, AV.isUndef, AV.cells, Nat.reduceAdd, Heap.store, Nat.reduceLeDiff, BEq.rfl]
  refine callStep (f39_ok hB4.r _ ?_)
  simp (maxSteps := 1000000) only [sx, fx, implies_true, evBuildSlice, fillE, fillA, Nat.reduceMul, Nat.reducePow, AV.isCell, Nat.reduceSub, here, plain, laid, Nat.reduceBEq, evOp, avOf, avCell, strOf, UInt8.reduceToNat, evBin, evInt, evStr, evUn, Nat.reduceEqDiff, Nat.reduceLT, evResults, evResultsL, reduceCtorEq, AV.isUndef, AV.cells, Nat.reduceAdd, Heap.store, Nat.reduceLeDiff, BEq.rfl]
  exact hQ _ _ _ _ _ _ hB4 hfT4
end Go.Proofs.T
