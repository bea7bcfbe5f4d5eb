import Derived.Test.YtlllflmjpclobaaW21
set_option linter.unusedVariables false
set_option linter.unusedSimpArgs false
set_option linter.unusedVariables false
set_option linter.unusedSimpArgs false
set_option maxRecDepth 100000
namespace Go.Proofs.T
open Go.Ev

theorem runC_splice7 {wf rn : List Nat} {pc : List AV} (h : pc.length = 24) : splice ((.str wf : AV) :: .str rn :: [AV.str [], AV.int IntKind.i64 0, AV.nilslice, AV.int IntKind.i64 0, AV.int IntKind.i64 0, AV.int IntKind.i64 0, AV.int IntKind.i64 0, AV.int IntKind.i64 0, AV.int IntKind.i64 0, AV.str [], AV.int IntKind.i64 0, AV.int IntKind.i64 0, AV.str [], AV.nilslice, AV.nilslice, AV.int IntKind.i64 0, AV.int IntKind.i64 0, AV.str [], AV.nilslice, AV.nilslice, AV.bool false, AV.nilslice, AV.nilslice, AV.nilslice, AV.nilslice, AV.nilslice, AV.nilslice, AV.nilslice, AV.nilslice, AV.nilslice, AV.int IntKind.i64 0, AV.int IntKind.i64 0]) 5 pc = runC wf rn pc := by simp [splice, runC, h]
theorem EB.cells {e : ES} (h : EB e) : e.cells.all AV.isCell = true := by
  obtain ⟨n, hn⟩ := h.d
  simp only [ES.cells, List.all_cons, List.all_append, (hn.vr H0).cells, (h.pol H0).cells]; rfl
theorem EB.ev {e : ES} (h : EB e) : Ev e.cells (iAt e.cells 0) (iAt e.cells 1) (iAt e.cells 2) (iAt e.cells 3) (sAt e.cells 14) := by
  refine ⟨h.len, h.cells, rfl, rfl, rfl, rfl, ?_⟩
  obtain ⟨n, hn⟩ := h.d
  obtain ⟨d0, d1, d2, d3, d4, ed⟩ := five hn.len
  obtain ⟨q, i1, i2, i3, i4, i5, i6, i7, i8, w, M, eo, _⟩ := h.o
  simp only [ES.cells, ed, eo]; rfl
theorem fresh_task {e : ES} {p : PS} {q : List Nat} (hp : Post e p) (hst : p.st = 0) : ∀ t ∈ req e.id e.k e.tm e.sq q, ∃ (tid k ev sq due att : Int) (wf rn q : List Nat), t = task tid k ev sq due att wf rn q ∧ voidS p k ev sq att = false := by
  obtain ⟨h2, h7⟩ := hp
  have none_ : ∀ k ev sq att : Int, k ≠ 1 → k ≠ 2 → voidS p k ev sq att = false := fun k ev sq att a b => by
    have a' : (k != 1) = true := by simpa using a
    have b' : (k != 2) = true := by simpa using b
    simp [voidS, a', b']
  intro t ht
  unfold req at ht
  split at ht
  · simp only [List.mem_singleton] at ht
    exact ⟨_, _, _, _, _, _, _, _, _, ht, none_ _ _ _ _ (by decide) (by decide)⟩
  split at ht
  · rename_i hk
    have hk2 : e.k = 2 := by simpa using hk
    obtain ⟨a, b⟩ := h2 hk2
    simp only [List.mem_singleton] at ht
    refine ⟨_, _, _, _, _, _, _, _, _, ht, ?_⟩
    simp [voidS, hst, a, b]
  split at ht
  · rename_i hk
    have hk7 : e.k = 7 := by simpa using hk
    obtain ⟨c, hc, h18⟩ := h7 hk7
    simp only [List.mem_singleton] at ht
    refine ⟨_, _, _, _, _, _, _, _, _, ht, ?_⟩
    have a18 : i18 c = 1 := by
      have := (take2 h18).1
      unfold i18
      cases hd : c.drop 18 with
      | nil => rw [hd] at this; simp at this
      | cons x l => rw [hd] at this; simp at this; rw [this]
    have a19 : i19 c = 1 := by
      have := (take2 h18).2
      unfold i19
      cases hd : c.drop 19 with
      | nil => rw [hd] at this; simp at this
      | cons x l => rw [hd] at this; simp at this; rw [this]
    simp [voidS, hst, hc, a18, a19]
  split at ht
  · simp only [List.mem_singleton] at ht
    exact ⟨_, _, _, _, _, _, _, _, _, ht, none_ _ _ _ _ (by decide) (by decide)⟩
  split at ht
  · simp only [List.mem_singleton] at ht
    exact ⟨_, _, _, _, _, _, _, _, _, ht, none_ _ _ _ _ (by decide) (by decide)⟩
  split at ht
  · simp only [List.mem_cons, List.not_mem_nil, or_false] at ht
    rcases ht with ht | ht
    · exact ⟨_, _, _, _, _, _, _, _, _, ht, none_ _ _ _ _ (by decide) (by decide)⟩
    · exact ⟨_, _, _, _, _, _, _, _, _, ht, none_ _ _ _ _ (by decide) (by decide)⟩
  · simp at ht
theorem fresh_tasks {e : ES} {p : PS} {wf rn : List Nat} (hp : Post e p) (hst : p.st = 0) : ∀ t ∈ tasks wf rn [e.cells], ∃ (tid k ev sq due att : Int) (wf rn q : List Nat), t = task tid k ev sq due att wf rn q ∧ voidS p k ev sq att = false := by
  intro t ht
  simp only [tasks, List.flatMap_cons, List.flatMap_nil, List.append_nil, List.mem_map] at ht
  obtain ⟨t0, h0, rfl⟩ := ht
  obtain ⟨tid, k, ev, sq, due, att, wf', rn', q, rfl, hv⟩ := fresh_task hp hst t0 h0
  exact ⟨tid, k, ev, sq, due, att, wf, rn, q, rfl, hv⟩

set_option maxHeartbeats 16000000 in
theorem f7_ok {v : AV} {L : List (List AV)} {H : Heap} (hF : Free H) (hv : ∀ H, Holds H 24 v L) (hL : ∀ cs ∈ L, ∃ e, cs = ES.cells e ∧ EB e) (hn : L.length < 2 ^ 60) (K : AV → Heap → Prop) (hK : ∀ H', Up H H' → Free H' → K (.bool true) H') : WF Try.prog 7 [v] H K := by
  refine WF_body Try.func7 (by kernel_rfl) rfl Try.ntmps7 (by rw [Try.results7]) (of_decide_eq_true (by kernel_rfl)) ?_
  have lv := (hv H).lenAt (P := Try.prog) und22
  simp (maxSteps := 1000000) only [sx, fx, ux, implies_true, evBuildSlice, fillE, fillA, here, plain, laid, evOp, avOf, avCell, strOf, evBin, evInt, evStr, evUn, evResults, evResultsL, Heap.store, wbool_off, after_scope, Nat.reduceMul, Nat.reducePow, Nat.reduceSub, Nat.reduceBEq, UInt8.reduceToNat, Nat.reduceEqDiff, Nat.reduceLT, reduceCtorEq, Nat.reduceAdd, Nat.reduceLeDiff]
  refine callStep (f8b_ok H hF hv hL hn _ fun b H2 hb hU2 hF2 => ?_)
  cases b with
  | false =>
    simp (maxSteps := 1000000) only [sx, fx, ux, implies_true, evBuildSlice, fillE, fillA, here, plain, laid, evOp, avOf, avCell, strOf, evBin, evInt, evStr, evUn, evResults, evResultsL, Heap.store, wbool_off, after_scope, Nat.reduceMul, Nat.reducePow, Nat.reduceSub, Nat.reduceBEq, UInt8.reduceToNat, Nat.reduceEqDiff, Nat.reduceLT, reduceCtorEq, Nat.reduceAdd, Nat.reduceLeDiff]
    refine callStep (f10_ok _ hF2 _ fun HL hUL hFL => ?_)
    simp (maxSteps := 1000000) only [sx, fx, ux, implies_true, evBuildSlice, fillE, fillA, here, plain, laid, evOp, avOf, avCell, strOf, evBin, evInt, evStr, evUn, evResults, evResultsL, Heap.store, wbool_off, after_scope, Nat.reduceMul, Nat.reducePow, Nat.reduceSub, Nat.reduceBEq, UInt8.reduceToNat, Nat.reduceEqDiff, Nat.reduceLT, reduceCtorEq, Nat.reduceAdd, Nat.reduceLeDiff]
    exact hK _ (hU2.trans hUL) hFL
  | true =>
  obtain ⟨hn60, hall⟩ := hb rfl
  by_cases hpos : (L.length : Int) < 1
  · simp (maxSteps := 1000000) only [sx, fx, ux, implies_true, evBuildSlice, fillE, fillA, here, plain, laid, evOp, avOf, avCell, strOf, evBin, evInt, evStr, evUn, evResults, evResultsL, Heap.store, wbool_off, after_scope, Nat.reduceMul, Nat.reducePow, Nat.reduceSub, Nat.reduceBEq, UInt8.reduceToNat, Nat.reduceEqDiff, Nat.reduceLT, reduceCtorEq, Nat.reduceAdd, Nat.reduceLeDiff, lv, hpos]
    refine callStep (f10_ok _ hF2 _ fun HL hUL hFL => ?_)
    simp (maxSteps := 1000000) only [sx, fx, ux, implies_true, evBuildSlice, fillE, fillA, here, plain, laid, evOp, avOf, avCell, strOf, evBin, evInt, evStr, evUn, evResults, evResultsL, Heap.store, wbool_off, after_scope, Nat.reduceMul, Nat.reducePow, Nat.reduceSub, Nat.reduceBEq, UInt8.reduceToNat, Nat.reduceEqDiff, Nat.reduceLT, reduceCtorEq, Nat.reduceAdd, Nat.reduceLeDiff]
    exact hK _ (hU2.trans hUL) hFL
  · simp (maxSteps := 1000000) only [sx, fx, ux, implies_true, evBuildSlice, fillE, fillA, here, plain, laid, evOp, avOf, avCell, strOf, evBin, evInt, evStr, evUn, evResults, evResultsL, Heap.store, wbool_off, after_scope, Nat.reduceMul, Nat.reducePow, Nat.reduceSub, Nat.reduceBEq, UInt8.reduceToNat, Nat.reduceEqDiff, Nat.reduceLT, reduceCtorEq, Nat.reduceAdd, Nat.reduceLeDiff, lv, hpos]
    have hpos' : 0 < L.length := by omega
    have hLE : ∀ c ∈ L, ∃ e : ES, c = e.cells ∧ ER H2 e := fun c hc => by
      obtain ⟨e, rfl, he⟩ := hL c hc
      exact ⟨e, rfl, he.er (hall e hc he) H2⟩
    refine callStep (f23_ok (B := H2) (Up.refl _) (hv H2) hLE hn60 hF2 _ fun cs er H5 cl cc cp hU5 hF5 => ?_)
    have hU25 := hU2.trans hU5
    have cs24 : cs.take 24 = cs := List.take_of_length_le (by omega)
    have hs33 : splice z33 0 cs = cs := by simp [splice, z33, cl]
    unfold z33 at hs33
    cases her : (er != 0) with
    | true =>
      simp (maxSteps := 1000000) only [sx, fx, ux, implies_true, evBuildSlice, fillE, fillA, here, plain, laid, evOp, avOf, avCell, strOf, evBin, evInt, evStr, evUn, evResults, evResultsL, Heap.store, wbool_off, after_scope, Nat.reduceMul, Nat.reducePow, Nat.reduceSub, Nat.reduceBEq, UInt8.reduceToNat, Nat.reduceEqDiff, Nat.reduceLT, reduceCtorEq, Nat.reduceAdd, Nat.reduceLeDiff, hF5.at, hF5.hp, cl, cc, cs24, hs33, her]
      refine callStep (f10_ok _ (hF5.hpF _) _ fun HL hUL hFL => ?_)
      simp (maxSteps := 1000000) only [sx, fx, ux, implies_true, evBuildSlice, fillE, fillA, here, plain, laid, evOp, avOf, avCell, strOf, evBin, evInt, evStr, evUn, evResults, evResultsL, Heap.store, wbool_off, after_scope, Nat.reduceMul, Nat.reducePow, Nat.reduceSub, Nat.reduceBEq, UInt8.reduceToNat, Nat.reduceEqDiff, Nat.reduceLT, reduceCtorEq, Nat.reduceAdd, Nat.reduceLeDiff]
      exact hK _ ((hU25.trans (hF5.hpU _)).trans hUL) hFL
    | false =>
    obtain rfl : er = 0 := by simpa using her
    obtain ⟨p, e0, rfl, hp, hlast, hpost0⟩ := cp rfl
    obtain ⟨e, hee, heB⟩ := hL _ (List.mem_of_getElem? hlast)
    rw [hee] at hlast
    have hpost : Post e p := by
      simp only [ES.cells, List.cons.injEq, AV.int.injEq, true_and] at hee
      obtain ⟨a1, a2, a3, a4, _⟩ := hee
      unfold Post at hpost0 ⊢
      rw [← a1, ← a2, ← a4]; exact hpost0
    have p1 : (p.cells.drop 1).take 1 = [.int .i64 p.st] := rfl
    have hp5 : PR H5 60 p := hp.up sub_le
    cases hst : (p.st != 0) with
    | true =>
      simp (maxSteps := 1000000) only [sx, fx, ux, implies_true, evBuildSlice, fillE, fillA, here, plain, laid, evOp, avOf, avCell, strOf, evBin, evInt, evStr, evUn, evResults, evResultsL, Heap.store, wbool_off, after_scope, Nat.reduceMul, Nat.reducePow, Nat.reduceSub, Nat.reduceBEq, UInt8.reduceToNat, Nat.reduceEqDiff, Nat.reduceLT, reduceCtorEq, Nat.reduceAdd, Nat.reduceLeDiff, hF5.at, hF5.hp, cl, cc, cs24, hs33, her, p1, hst]
      refine callStep (f10_ok _ (hF5.hpF _) _ fun HL hUL hFL => ?_)
      simp (maxSteps := 1000000) only [sx, fx, ux, implies_true, evBuildSlice, fillE, fillA, here, plain, laid, evOp, avOf, avCell, strOf, evBin, evInt, evStr, evUn, evResults, evResultsL, Heap.store, wbool_off, after_scope, Nat.reduceMul, Nat.reducePow, Nat.reduceSub, Nat.reduceBEq, UInt8.reduceToNat, Nat.reduceEqDiff, Nat.reduceLT, reduceCtorEq, Nat.reduceAdd, Nat.reduceLeDiff]
      exact hK _ ((hU25.trans (hF5.hpU _)).trans hUL) hFL
    | false =>
    have hst0 : p.st = 0 := by simpa using hst
    have ql := hp5.len
    have hrun := runC_splice7 (wf := [119]) (rn := [114, 49]) ql
    have hz37 : splice [AV.str [], AV.str [], AV.str [], AV.int IntKind.i64 0, AV.nilslice, AV.int IntKind.i64 0, AV.int IntKind.i64 0, AV.int IntKind.i64 0, AV.int IntKind.i64 0, AV.int IntKind.i64 0, AV.int IntKind.i64 0, AV.str [], AV.int IntKind.i64 0, AV.int IntKind.i64 0, AV.str [], AV.nilslice, AV.nilslice, AV.int IntKind.i64 0, AV.int IntKind.i64 0, AV.str [], AV.nilslice, AV.nilslice, AV.bool false, AV.nilslice, AV.nilslice, AV.nilslice, AV.nilslice, AV.nilslice, AV.nilslice, AV.nilslice, AV.nilslice, AV.nilslice, AV.int IntKind.i64 0, AV.int IntKind.i64 0] 0 (runC [119] [114, 49] p.cells) = runC [119] [114, 49] p.cells := by simp [splice, runC, ql]
    have hrl : (runC [119] [114, 49] p.cells).length = 34 := by simp [runC, ql]
    have hrt : (runC [119] [114, 49] p.cells).take 34 = runC [119] [114, 49] p.cells := List.take_of_length_le (by omega)
    have hrc : (runC [119] [114, 49] p.cells).all AV.isCell = true := by simp only [runC, List.all_cons, List.all_append, hp5.cells, List.all_nil]; rfl
    simp (maxSteps := 1000000) only [sx, fx, ux, implies_true, evBuildSlice, fillE, fillA, here, plain, laid, evOp, avOf, avCell, strOf, evBin, evInt, evStr, evUn, evResults, evResultsL, Heap.store, wbool_off, after_scope, Nat.reduceMul, Nat.reducePow, Nat.reduceSub, Nat.reduceBEq, UInt8.reduceToNat, Nat.reduceEqDiff, Nat.reduceLT, reduceCtorEq, Nat.reduceAdd, Nat.reduceLeDiff, hF5.at, hF5.hp, cl, cc, cs24, hs33, her, p1, hst, hrun, hz37, hrl, hrt, hrc]
    refine drawStep [] [0, 1, 2, 3, 4, 5, 6, 7] _ rfl (by kernel_rfl) ?_
    generalize hQ : HP H5 _ = Q
    have hQF : Free Q := hQ ▸ hF5.hpF _
    have hQU : Up H5 Q := hQ ▸ hF5.hpU _
    have j0 : Q.blk (H5.next + 1) = some (.row 37 34 [runC [119] [114, 49] p.cells] 0 0) := by rw [← hQ, hp_blk]; rfl
    have lvQ := (hv Q).lenAt (P := Try.prog) und22
    have hwr : IntKind.i64.wrap ((L.length : Int) - 1) = ((L.length - 1 : Nat) : Int) := by rw [IntWalk.i64_in _ (by omega)]; omega
    obtain ⟨u, hu, hhu⟩ := (hv Q).part (P := Try.prog) und22 sz63 (some ((L.length - 1 : Nat) : Int)) none (L.length - 1) L.length rfl rfl (by omega) (Nat.le_refl _)
    have hone : (L.drop (L.length - 1)).take (L.length - (L.length - 1)) = [e.cells] := by
      rw [show L.length - (L.length - 1) = 1 by omega, List.drop_eq_getElem_cons (by omega : L.length - 1 < L.length)]
      have := (List.getElem?_eq_some_iff.1 hlast).2
      simp [this]
    rw [hone] at hhu
    simp (maxSteps := 1000000) only [sx, fx, ux, implies_true, evBuildSlice, fillE, fillA, here, plain, laid, evOp, avOf, avCell, strOf, evBin, evInt, evStr, evUn, evResults, evResultsL, Heap.store, wbool_off, after_scope, Nat.reduceMul, Nat.reducePow, Nat.reduceSub, Nat.reduceBEq, UInt8.reduceToNat, Nat.reduceEqDiff, Nat.reduceLT, reduceCtorEq, Nat.reduceAdd, Nat.reduceLeDiff, hQ, j0, hrl, hrt, lvQ, hwr, hu, optInt]
    refine callStep (f11_ok hrl rfl rfl Q hQF hhu (fun c hc => by rw [List.mem_singleton] at hc; rw [hc]; exact heB.ev) (by simp) _ fun r H6 hU6 hF6 hO6 => ?_)
    have k0 := hU6 _ _ j0
    have hH6 := hO6.holds
    simp (maxSteps := 1000000) only [sx, fx, ux, implies_true, evBuildSlice, fillE, fillA, here, plain, laid, evOp, avOf, avCell, strOf, evBin, evInt, evStr, evUn, evResults, evResultsL, Heap.store, wbool_off, after_scope, Nat.reduceMul, Nat.reducePow, Nat.reduceSub, Nat.reduceBEq, UInt8.reduceToNat, Nat.reduceEqDiff, Nat.reduceLT, reduceCtorEq, Nat.reduceAdd, Nat.reduceLeDiff]
    have htl : (tasks [119] [114, 49] [e.cells]).length < 2 ^ 60 := by
      have := tasks_len [119] [114, 49] [e.cells]
      simp at this ⊢; omega
    refine loopStep' (fun env H' => ∃ (i : Nat), i ≤ (tasks [119] [114, 49] [e.cells]).length ∧ env.at (.tmp 7) = .int .i64 i ∧ env.at (.tmp 6) = r ∧ env.at (.tmp 5) = .ptr (H5.next + 1) 0 0 0 ∧ Up H6 H' ∧ Free H')
      (fun env H' => match env.at (.tmp 7) with | .int _ i => (((tasks [119] [114, 49] [e.cells]).length : Int) - i).toNat | _ => 0) ?_ ?_
    · exact ⟨0, Nat.zero_le _, by simp only [sx, fx, ux, implies_true, evBuildSlice, fillE, fillA, here, plain, laid, evOp, avOf, avCell, strOf, evBin, evInt, evStr, evUn, evResults, evResultsL, Heap.store, wbool_off, after_scope, Nat.reduceMul, Nat.reducePow, Nat.reduceSub, Nat.reduceBEq, UInt8.reduceToNat, Nat.reduceEqDiff, Nat.reduceLT, reduceCtorEq, Nat.reduceAdd, Nat.reduceLeDiff]; rfl, by simp only [sx, fx, ux, implies_true, evBuildSlice, fillE, fillA, here, plain, laid, evOp, avOf, avCell, strOf, evBin, evInt, evStr, evUn, evResults, evResultsL, Heap.store, wbool_off, after_scope, Nat.reduceMul, Nat.reducePow, Nat.reduceSub, Nat.reduceBEq, UInt8.reduceToNat, Nat.reduceEqDiff, Nat.reduceLT, reduceCtorEq, Nat.reduceAdd, Nat.reduceLeDiff], by simp only [sx, fx, ux, implies_true, evBuildSlice, fillE, fillA, here, plain, laid, evOp, avOf, avCell, strOf, evBin, evInt, evStr, evUn, evResults, evResultsL, Heap.store, wbool_off, after_scope, Nat.reduceMul, Nat.reducePow, Nat.reduceSub, Nat.reduceBEq, UInt8.reduceToNat, Nat.reduceEqDiff, Nat.reduceLT, reduceCtorEq, Nat.reduceAdd, Nat.reduceLeDiff], Up.refl _, hF6⟩
    · rintro env H' ⟨i, hi, e7, e6, e5, hU', hF'⟩
      have lr := (hH6.up hU').lenAt (P := Try.prog) und35
      have l0 := hU' _ _ k0
      by_cases hlt : i < (tasks [119] [114, 49] [e.cells]).length
      · obtain ⟨t, ht⟩ : ∃ t, (tasks [119] [114, 49] [e.cells])[i]? = some t := ⟨_, List.getElem?_eq_getElem hlt⟩
        obtain ⟨tid, k, ev, sq, due, att, wf, rn, q, rfl, hvoid⟩ := fresh_tasks hpost hst0 t (List.mem_of_getElem? ht)
        obtain ⟨pt, hpt, hlt', _⟩ := (hH6.up hU').index (P := Try.prog) und35 sz51 .i64 ht
        simp (maxSteps := 1000000) only [sx, fx, ux, implies_true, evBuildSlice, fillE, fillA, here, plain, laid, evOp, avOf, avCell, strOf, evBin, evInt, evStr, evUn, evResults, evResultsL, Heap.store, wbool_off, after_scope, Nat.reduceMul, Nat.reducePow, Nat.reduceSub, Nat.reduceBEq, UInt8.reduceToNat, Nat.reduceEqDiff, Nat.reduceLT, reduceCtorEq, Nat.reduceAdd, Nat.reduceLeDiff, e7, e6, e5, lr, lt_true hlt]
        refine drawStep [] [0, 1, 2, 3, 4, 5] _ rfl (by kernel_rfl) ?_
        simp (maxSteps := 1000000) only [sx, fx, ux, implies_true, evBuildSlice, fillE, fillA, here, plain, laid, evOp, avOf, avCell, strOf, evBin, evInt, evStr, evUn, evResults, evResultsL, Heap.store, wbool_off, after_scope, Nat.reduceMul, Nat.reducePow, Nat.reduceSub, Nat.reduceBEq, UInt8.reduceToNat, Nat.reduceEqDiff, Nat.reduceLT, reduceCtorEq, Nat.reduceAdd, Nat.reduceLeDiff, e7, e6, e5, l0, hrl, hrt, hpt, hlt' _ (Up.refl _)]
        refine callStep (f25_ok (hp5.up (hQU.trans (hU6.trans hU'))) (by omega) (runR_runC hp5) hF' _ fun H7 hU7 hF7 => ?_)
        rw [hvoid]
        simp (maxSteps := 1000000) only [sx, fx, ux, implies_true, evBuildSlice, fillE, fillA, here, plain, laid, evOp, avOf, avCell, strOf, evBin, evInt, evStr, evUn, evResults, evResultsL, Heap.store, wbool_off, after_scope, Nat.reduceMul, Nat.reducePow, Nat.reduceSub, Nat.reduceBEq, UInt8.reduceToNat, Nat.reduceEqDiff, Nat.reduceLT, reduceCtorEq, Nat.reduceAdd, Nat.reduceLeDiff, e7, e6, e5, wrap_succ (i := i) (by omega)]
        refine ⟨⟨i + 1, hlt, rfl, hU'.trans hU7, hF7⟩, ?_⟩
        omega
      · simp (maxSteps := 1000000) only [sx, fx, ux, implies_true, evBuildSlice, fillE, fillA, here, plain, laid, evOp, avOf, avCell, strOf, evBin, evInt, evStr, evUn, evResults, evResultsL, Heap.store, wbool_off, after_scope, Nat.reduceMul, Nat.reducePow, Nat.reduceSub, Nat.reduceBEq, UInt8.reduceToNat, Nat.reduceEqDiff, Nat.reduceLT, reduceCtorEq, Nat.reduceAdd, Nat.reduceLeDiff, e7, e6, e5, lr, lt_false hlt]
        refine callStep (f10_ok _ hF' _ fun HL hUL hFL => ?_)
        simp (maxSteps := 1000000) only [sx, fx, ux, implies_true, evBuildSlice, fillE, fillA, here, plain, laid, evOp, avOf, avCell, strOf, evBin, evInt, evStr, evUn, evResults, evResultsL, Heap.store, wbool_off, after_scope, Nat.reduceMul, Nat.reducePow, Nat.reduceSub, Nat.reduceBEq, UInt8.reduceToNat, Nat.reduceEqDiff, Nat.reduceLT, reduceCtorEq, Nat.reduceAdd, Nat.reduceLeDiff]
        exact hK _ ((hU25.trans (hQU.trans (hU6.trans hU'))).trans hUL) hFL
end Go.Proofs.T
