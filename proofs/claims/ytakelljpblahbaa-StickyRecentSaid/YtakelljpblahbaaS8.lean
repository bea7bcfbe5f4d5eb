import Derived.Test.YtakelljpblahbaaS7
set_option linter.unusedVariables false
set_option linter.unusedSimpArgs false
set_option maxRecDepth 100000
namespace Go.Proofs.T
open Go.Ev

theorem f7_bad {n : Int} (hb : n < 1 ∨ n > 64) (H : Heap) (Q : AV → Heap → Prop) (hQ : Q (.tuple [.nilptr, .int .i64 2]) H) : WF Try.prog 7 [.int .i64 n] H Q := by
  refine WF_body Try.func7 (by kernel_rfl) rfl Try.ntmps7 (by rw [Try.results7]) (of_decide_eq_true (by kernel_rfl)) ?_
  by_cases h1 : n < 1
  · simp (maxSteps := 1000000) only [sx, fx, implies_true, evBuildSlice, fillE, fillA, Nat.reduceMul, Nat.reducePow, AV.isCell, Nat.reduceSub, here, plain, laid, Nat.reduceBEq, evOp, avOf, avCell, strOf, UInt8.reduceToNat, evBin, evInt, evStr, evUn, Nat.reduceEqDiff, Nat.reduceLT, evResults, evResultsL, reduceCtorEq, AV.isUndef, AV.cells, Nat.reduceAdd, Heap.store, Nat.reduceLeDiff, h1]
    exact hQ
  · have h2 : n > 64 := by omega
    simp (maxSteps := 1000000) only [sx, fx, implies_true, evBuildSlice, fillE, fillA, Nat.reduceMul, Nat.reducePow, AV.isCell, Nat.reduceSub, here, plain, laid, Nat.reduceBEq, evOp, avOf, avCell, strOf, UInt8.reduceToNat, evBin, evInt, evStr, evUn, Nat.reduceEqDiff, Nat.reduceLT, evResults, evResultsL, reduceCtorEq, AV.isUndef, AV.cells, Nat.reduceAdd, Heap.store, Nat.reduceLeDiff, h1, h2]
    exact hQ

theorem f7_ok {n : Int} (hb : 1 ≤ n ∧ n ≤ 64) (H : Heap) (hF : Free H) (Q : AV → Heap → Prop) (hQ : ∀ cx F H', Cache H' F cx n 0 0 [] → (∀ b, F b → H.blk b = none) → Up H H' → Free H' → Q (.tuple [.ptr cx 0 0 0, .int .i64 0]) H') : WF Try.prog 7 [.int .i64 n] H Q := by
  refine WF_body Try.func7 (by kernel_rfl) rfl Try.ntmps7 (by rw [Try.results7]) (of_decide_eq_true (by kernel_rfl)) ?_
  have h1 : (n < 1) = False := by simp; omega
  have h2 : (n > 64) = False := by simp; omega
  simp (maxSteps := 1000000) only [sx, fx, implies_true, evBuildSlice, fillE, fillA, Nat.reduceMul, Nat.reducePow, AV.isCell, Nat.reduceSub, here, plain, laid, Nat.reduceBEq, evOp, avOf, avCell, strOf, UInt8.reduceToNat, evBin, evInt, evStr, evUn, Nat.reduceEqDiff, Nat.reduceLT, evResults, evResultsL, reduceCtorEq, AV.isUndef, AV.cells, Nat.reduceAdd, Heap.store, Nat.reduceLeDiff, h1, h2, hF.at, hF.hp]
  refine hQ (H.next + 1) (fun b => b = H.next + 1 ∨ b = H.next) _ ⟨fun _ => False, H.next, .nilslice, [], 0, ⟨?_, ?_, .inl ⟨rfl, rfl⟩, fun key => rfl, by simp, by simp, by omega, id, id, fun b hb => (by cases hb), fun _ hb => False.elim hb, hb, (by simp)⟩, fun b => ?_⟩ (fun b hb => ?_) (hF.hpU _) (hF.hpF _)
  · rw [hp_blk]; rfl
  · rw [hp_blk0]; rfl
  · simp [blkOf]
  · rcases hb with rfl | rfl
    · exact hF _ (by omega)
    · exact hF.at

theorem f23_nil (H : Heap) (Q : AV → Heap → Prop) (hQ : Q (.bool true) H) : WF Try.prog 23 [.nilptr] H Q := by
  refine WF_body Try.func23 (by kernel_rfl) rfl Try.ntmps23 (by rw [Try.results23]) (of_decide_eq_true (by kernel_rfl)) ?_
  simp (maxSteps := 1000000) only [sx, fx, implies_true, evBuildSlice, fillE, fillA, Nat.reduceMul, Nat.reducePow, AV.isCell, Nat.reduceSub, here, plain, laid, Nat.reduceBEq, evOp, avOf, avCell, strOf, UInt8.reduceToNat, evBin, evInt, evStr, evUn, Nat.reduceEqDiff, Nat.reduceLT, evResults, evResultsL, reduceCtorEq, AV.isUndef, AV.cells, Nat.reduceAdd, Heap.store, Nat.reduceLeDiff, eqOk, eqp22_n]
  exact hQ

theorem f23_row {sz h m : Int} {cm cx : Nat} {kv : AV} (H : Heap) (hrow : H.blk cx = some (cacheRow sz cm kv h m)) (Q : AV → Heap → Prop) (hQ : Q (.bool (sz == 0)) H) : WF Try.prog 23 [.ptr cx 0 0 0] H Q := by
  refine WF_body Try.func23 (by kernel_rfl) rfl Try.ntmps23 (by rw [Try.results23]) (of_decide_eq_true (by kernel_rfl)) ?_
  simp only [cacheRow] at hrow
  simp (maxSteps := 1000000) only [sx, fx, implies_true, evBuildSlice, fillE, fillA, Nat.reduceMul, Nat.reducePow, AV.isCell, Nat.reduceSub, here, plain, laid, Nat.reduceBEq, evOp, avOf, avCell, strOf, UInt8.reduceToNat, evBin, evInt, evStr, evUn, Nat.reduceEqDiff, Nat.reduceLT, evResults, evResultsL, reduceCtorEq, AV.isUndef, AV.cells, Nat.reduceAdd, Heap.store, Nat.reduceLeDiff, eqOk, eqp22_p, hrow]
  exact hQ

theorem CInv.pos {H : Heap} {Fg : Nat → Prop} {cx cm : Nat} {kv : AV} {sz h m : Int} {M : Ents} {cl : Nat} {L : Stored} (hC : CInv H Fg cx cm kv sz h m M cl L) : (sz == 0) = false := by
  have := hC.size.1
  simp; omega

theorem f14_ok {H : Heap} {F : Nat → Prop} {cx : Nat} {sz h m : Int} {L : Stored} (hC : Cache H F cx sz h m L) (Q : AV → Heap → Prop) (hQ : Q (.int .i64 h) H) : WF Try.prog 14 [.ptr cx 0 0 0] H Q := by
  obtain ⟨Fg, cm, kv, M, cl, hC, hF⟩ := hC
  refine WF_body Try.func14 (by kernel_rfl) rfl Try.ntmps14 (by rw [Try.results14]) (of_decide_eq_true (by kernel_rfl)) ?_
  simp (maxSteps := 1000000) only [sx, fx, implies_true, evBuildSlice, fillE, fillA, Nat.reduceMul, Nat.reducePow, AV.isCell, Nat.reduceSub, here, plain, laid, Nat.reduceBEq, evOp, avOf, avCell, strOf, UInt8.reduceToNat, evBin, evInt, evStr, evUn, Nat.reduceEqDiff, Nat.reduceLT, evResults, evResultsL, reduceCtorEq, AV.isUndef, AV.cells, Nat.reduceAdd, Heap.store, Nat.reduceLeDiff]
  refine callStep (f23_row _ hC.row _ ?_)
  have hrow := hC.row
  simp only [cacheRow] at hrow
  simp (maxSteps := 1000000) only [sx, fx, implies_true, evBuildSlice, fillE, fillA, Nat.reduceMul, Nat.reducePow, AV.isCell, Nat.reduceSub, here, plain, laid, Nat.reduceBEq, evOp, avOf, avCell, strOf, UInt8.reduceToNat, evBin, evInt, evStr, evUn, Nat.reduceEqDiff, Nat.reduceLT, evResults, evResultsL, reduceCtorEq, AV.isUndef, AV.cells, Nat.reduceAdd, Heap.store, Nat.reduceLeDiff, hC.pos, hrow]
  exact hQ

theorem f15_ok {H : Heap} {F : Nat → Prop} {cx : Nat} {sz h m : Int} {L : Stored} (hC : Cache H F cx sz h m L) (Q : AV → Heap → Prop) (hQ : Q (.int .i64 m) H) : WF Try.prog 15 [.ptr cx 0 0 0] H Q := by
  obtain ⟨Fg, cm, kv, M, cl, hC, hF⟩ := hC
  refine WF_body Try.func15 (by kernel_rfl) rfl Try.ntmps15 (by rw [Try.results15]) (of_decide_eq_true (by kernel_rfl)) ?_
  simp (maxSteps := 1000000) only [sx, fx, implies_true, evBuildSlice, fillE, fillA, Nat.reduceMul, Nat.reducePow, AV.isCell, Nat.reduceSub, here, plain, laid, Nat.reduceBEq, evOp, avOf, avCell, strOf, UInt8.reduceToNat, evBin, evInt, evStr, evUn, Nat.reduceEqDiff, Nat.reduceLT, evResults, evResultsL, reduceCtorEq, AV.isUndef, AV.cells, Nat.reduceAdd, Heap.store, Nat.reduceLeDiff]
  refine callStep (f23_row _ hC.row _ ?_)
  have hrow := hC.row
  simp only [cacheRow] at hrow
  simp (maxSteps := 1000000) only [sx, fx, implies_true, evBuildSlice, fillE, fillA, Nat.reduceMul, Nat.reducePow, AV.isCell, Nat.reduceSub, here, plain, laid, Nat.reduceBEq, evOp, avOf, avCell, strOf, UInt8.reduceToNat, evBin, evInt, evStr, evUn, Nat.reduceEqDiff, Nat.reduceLT, evResults, evResultsL, reduceCtorEq, AV.isUndef, AV.cells, Nat.reduceAdd, Heap.store, Nat.reduceLeDiff, hC.pos, hrow]
  exact hQ

theorem kcells_cell (K : List (List Nat)) : ∀ cs ∈ K.map kcell, cs.all AV.isCell = true := fun cs hc => by
  obtain ⟨k, _, rfl⟩ := List.mem_map.1 hc; rfl

/-- Clone of a list of strings. -/
theorem f30_ok {kv : AV} {K : List (List Nat)} (H : Heap) (hF : Free H) (hk : Keys H kv K) (hn : K.length ≤ 1000) (Q : AV → Heap → Prop) (hQ : ∀ u H', Up H H' → Free H' → Own H H' 9 1 u (K.map kcell) → Q u H') : WF Try.prog 30 [kv] H Q := by
  rcases hk with ⟨rfl, rfl⟩ | hk'
  · exact f30_nil _ _ (hQ _ _ (Up.refl _) hF Own.nil)
  · have hv : Holds H 1 kv (K.map kcell) := Keys.holds (.inr hk')
    obtain ⟨b, c, els, g, ty, wgen, rfl, h2, h3, h4, h5, h6, h7⟩ := hk'
    refine WF_body Try.func30 (by kernel_rfl) rfl Try.ntmps30 (by rw [Try.results30]) (of_decide_eq_true (by kernel_rfl)) ?_
    simp (maxSteps := 1000000) only [sx, fx, implies_true, evBuildSlice, fillE, fillA, Nat.reduceMul, Nat.reducePow, AV.isCell, Nat.reduceSub, here, plain, laid, Nat.reduceBEq, evOp, avOf, avCell, strOf, UInt8.reduceToNat, evBin, evInt, evStr, evUn, Nat.reduceEqDiff, Nat.reduceLT, evResults, evResultsL, reduceCtorEq, AV.isUndef, AV.cells, Nat.reduceAdd, Heap.store, Nat.reduceLeDiff, eqOk, eqn51_s, hF.hp, hF.at]
    refine opStep_append app51 (L := []) (own_hp (k := 0) hF (Up.refl _) rfl rfl (by simp)) (hF.hpF _) (hF.hpU _) (hv.up (hF.hpU _)) (kcells_cell K) (by simp [maxBytes]; omega) (by simp [maxBytes]; omega) (fun u K' hO hU' hF' => ?_)
    simp (maxSteps := 1000000) only [sx, fx, implies_true, evBuildSlice, fillE, fillA, splice, Nat.reduceMul, Nat.reducePow, AV.isCell, Nat.reduceSub, here, plain, laid, Nat.reduceBEq, evOp, avOf, avCell, strOf, UInt8.reduceToNat, evBin, evInt, evStr, evUn, Nat.reduceEqDiff, Nat.reduceLT, evResults, evResultsL, reduceCtorEq, AV.isUndef, AV.cells, Nat.reduceAdd, Heap.store, Nat.reduceLeDiff]
    exact hQ _ _ hU' hF' (by simpa using hO)

theorem Cache.len {H : Heap} {F : Nat → Prop} {cx : Nat} {sz h m : Int} {L : Stored} (hC : Cache H F cx sz h m L) : L.length ≤ 100 := by
  obtain ⟨Fg, cm, kv, M, cl, hC, hF⟩ := hC
  exact hC.len

theorem f19_ok {H : Heap} {F : Nat → Prop} {cx : Nat} {sz h m : Int} {L : Stored} (hFr : Free H) (hC : Cache H F cx sz h m L) (Q : AV → Heap → Prop) (hQ : ∀ u H', Up H H' → Free H' → Own H H' 9 1 u ((L.map Prod.fst).map kcell) → Q u H') : WF Try.prog 19 [.ptr cx 0 0 0] H Q := by
  have hlen := hC.len
  obtain ⟨Fg, cm, kv, M, cl, hC, hF⟩ := hC
  refine WF_body Try.func19 (by kernel_rfl) rfl Try.ntmps19 (by rw [Try.results19]) (of_decide_eq_true (by kernel_rfl)) ?_
  simp (maxSteps := 1000000) only [sx, fx, implies_true, evBuildSlice, fillE, fillA, Nat.reduceMul, Nat.reducePow, AV.isCell, Nat.reduceSub, here, plain, laid, Nat.reduceBEq, evOp, avOf, avCell, strOf, UInt8.reduceToNat, evBin, evInt, evStr, evUn, Nat.reduceEqDiff, Nat.reduceLT, evResults, evResultsL, reduceCtorEq, AV.isUndef, AV.cells, Nat.reduceAdd, Heap.store, Nat.reduceLeDiff]
  refine callStep (f23_row _ hC.row _ ?_)
  have hrow := hC.row
  simp only [cacheRow] at hrow
  simp (maxSteps := 1000000) only [sx, fx, implies_true, evBuildSlice, fillE, fillA, Nat.reduceMul, Nat.reducePow, AV.isCell, Nat.reduceSub, here, plain, laid, Nat.reduceBEq, evOp, avOf, avCell, strOf, UInt8.reduceToNat, evBin, evInt, evStr, evUn, Nat.reduceEqDiff, Nat.reduceLT, evResults, evResultsL, reduceCtorEq, AV.isUndef, AV.cells, Nat.reduceAdd, Heap.store, Nat.reduceLeDiff, hC.pos, hrow]
  refine callStep (f30_ok _ hFr hC.keys (by simp; omega) _ fun u H2 hU hF2 hO => ?_)
  simp (maxSteps := 1000000) only [sx, fx, implies_true, evBuildSlice, fillE, fillA, Nat.reduceMul, Nat.reducePow, AV.isCell, Nat.reduceSub, here, plain, laid, Nat.reduceBEq, evOp, avOf, avCell, strOf, UInt8.reduceToNat, evBin, evInt, evStr, evUn, Nat.reduceEqDiff, Nat.reduceLT, evResults, evResultsL, reduceCtorEq, AV.isUndef, AV.cells, Nat.reduceAdd, Heap.store, Nat.reduceLeDiff]
  exact hQ _ _ hU hF2 hO

theorem f10_ok {H : Heap} {F : Nat → Prop} {cx : Nat} {sz h m : Int} {L : Stored} (hFr : Free H) (hC : Cache H F cx sz h m L) (Q : AV → Heap → Prop) (hQ : ∀ H', Up H H' → Free H' → Q (.int .i64 L.length) H') : WF Try.prog 10 [.ptr cx 0 0 0] H Q := by
  refine WF_body Try.func10 (by kernel_rfl) rfl Try.ntmps10 (by rw [Try.results10]) (of_decide_eq_true (by kernel_rfl)) ?_
  simp (maxSteps := 1000000) only [sx, fx, implies_true, evBuildSlice, fillE, fillA, Nat.reduceMul, Nat.reducePow, AV.isCell, Nat.reduceSub, here, plain, laid, Nat.reduceBEq, evOp, avOf, avCell, strOf, UInt8.reduceToNat, evBin, evInt, evStr, evUn, Nat.reduceEqDiff, Nat.reduceLT, evResults, evResultsL, reduceCtorEq, AV.isUndef, AV.cells, Nat.reduceAdd, Heap.store, Nat.reduceLeDiff]
  refine callStep (f19_ok hFr hC _ fun u H2 hU hF2 hO => ?_)
  have hl := hO.holds.lenAt und51
  simp only [List.length_map] at hl
  simp (maxSteps := 1000000) only [sx, fx, implies_true, evBuildSlice, fillE, fillA, Nat.reduceMul, Nat.reducePow, AV.isCell, Nat.reduceSub, here, plain, laid, Nat.reduceBEq, evOp, avOf, avCell, strOf, UInt8.reduceToNat, evBin, evInt, evStr, evUn, Nat.reduceEqDiff, Nat.reduceLT, evResults, evResultsL, reduceCtorEq, AV.isUndef, AV.cells, Nat.reduceAdd, Heap.store, Nat.reduceLeDiff, hl]
  exact hQ _ hU hF2
end Go.Proofs.T
