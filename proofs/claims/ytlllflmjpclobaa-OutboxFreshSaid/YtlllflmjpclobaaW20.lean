import Derived.Test.YtlllflmjpclobaaW19
set_option linter.unusedVariables false
set_option linter.unusedSimpArgs false
set_option linter.unusedVariables false
set_option linter.unusedSimpArgs false
set_option maxRecDepth 100000
namespace Go.Proofs.T
open Go.Ev

set_option maxHeartbeats 8000000 in
theorem f43_ok {H : Heap} {sq : Int} {a : List AV} (ha : ActR H sq a) (hF : Free H) (K : AV → Heap → Prop) (hK : ∀ a' H', a'.length = 32 → a'.all AV.isCell = true → (a'.drop 18).take 2 = (a.drop 18).take 2 → Up H H' → Free H' → K (.agg a') H') : WF Try.prog 43 [.agg a] H K := by
  obtain ⟨s, ev, nm, d, o, x5, x6, x7, x8, x9, x10, x11, cn, dt, fl, rfl, ⟨n, hd⟩, ho, ⟨m, hdt⟩, hs⟩ := ha
  obtain ⟨d0, d1, d2, d3, d4, rfl⟩ := five hd.vr.len
  obtain ⟨t0, t1, t2, t3, t4, rfl⟩ := five hdt.vr.len
  have hdc := hd.vr.cells
  have htc := hdt.vr.cells
  have hob := ho.2
  obtain ⟨q, j1, j2, j3, j4, j5, j6, j7, j8, w, M, rfl, hq, hw, hwn, hM⟩ := ho.1
  have hm := hob w rfl M hw
  simp only [List.all_cons, List.all_nil, Bool.and_eq_true, Bool.and_true] at hdc htc
  obtain ⟨hcd0, hcd1, hcd2, hcd3, hcd4⟩ := hdc
  obtain ⟨hct0, hct1, hct2, hct3, hct4⟩ := htc
  refine WF_body Try.func43 (by kernel_rfl) rfl Try.ntmps43 (by rw [Try.results43]) (of_decide_eq_true (by kernel_rfl)) ?_
  simp (maxSteps := 1000000) only [actC, List.cons_append, List.nil_append, sx, fx, ux, implies_true, evBuildSlice, fillE, fillA, here, plain, laid, evOp, avOf, avCell, strOf, evBin, evInt, evStr, evUn, evResults, evResultsL, Heap.store, wbool_off, after_scope, Nat.reduceMul, Nat.reducePow, Nat.reduceSub, Nat.reduceBEq, UInt8.reduceToNat, Nat.reduceEqDiff, Nat.reduceLT, reduceCtorEq, Nat.reduceAdd, Nat.reduceLeDiff, hF.at, hF.hp]
  generalize hH1 : HP H _ = H1
  have hb0 : ∃ x, H1.blk H.next = some (.row 60 32 [x] 0 0) ∧ x = actC s ev nm [d0, d1, d2, d3, d4] [.str q, .int .i64 j1, .int .i64 j2, .int .i64 j3, .int .i64 j4, .int .i64 j5, .int .i64 j6, .int .i64 j7, .int .i64 j8, w] x5 x6 x7 x8 x9 x10 x11 cn [t0, t1, t2, t3, t4] fl := ⟨_, by rw [← hH1, hp_blk0]; rfl, rfl⟩
  obtain ⟨_, b0, rfl⟩ := hb0
  have b1 : H1.blk (H.next + 1) = some (.row 60 32 [z60] 0 0) := by rw [← hH1, hp_blk]; rfl
  have hF1 : Free H1 := hH1 ▸ hF.hpF _
  have hU1 : Up H H1 := hH1 ▸ hF.hpU _
  refine drawStep [2] [0, 1, 3, 4, 2, 5, 6, 7, 8, 9] _ rfl (by kernel_rfl) ?_
  simp only [actC, List.cons_append, List.nil_append] at b0
  simp (maxSteps := 1000000) only [sx, fx, ux, implies_true, evBuildSlice, fillE, fillA, here, plain, laid, evOp, avOf, avCell, strOf, evBin, evInt, evStr, evUn, evResults, evResultsL, Heap.store, wbool_off, after_scope, Nat.reduceMul, Nat.reducePow, Nat.reduceSub, Nat.reduceBEq, UInt8.reduceToNat, Nat.reduceEqDiff, Nat.reduceLT, reduceCtorEq, Nat.reduceAdd, Nat.reduceLeDiff, b0]
  refine callStep_flag (copy_ok n H1 [d0, d1, d2, d3, d4] (hd.up hU1) hF1 _ fun d' H2 dl dc hU2 hF2 => ⟨hU2, ?_⟩)
  simp (maxSteps := 1000000) only [sx, fx, ux, implies_true, evBuildSlice, fillE, fillA, here, plain, laid, evOp, avOf, avCell, strOf, evBin, evInt, evStr, evUn, evResults, evResultsL, Heap.store, wbool_off, after_scope, Nat.reduceMul, Nat.reducePow, Nat.reduceSub, Nat.reduceBEq, UInt8.reduceToNat, Nat.reduceEqDiff, Nat.reduceLT, reduceCtorEq, Nat.reduceAdd, Nat.reduceLeDiff]
  refine callStep (copy_ok m H2 [t0, t1, t2, t3, t4] (hdt.up (hU1.trans hU2)) hF2 _ fun e' H3 el ec hU3 hF3 => ?_)
  obtain ⟨y0, y1, y2, y3, y4, rfl⟩ := five dl
  obtain ⟨w0, w1, w2, w3, w4, rfl⟩ := five el
  have dcc := dc
  have ecc := ec
  simp only [List.all_cons, List.all_nil, Bool.and_eq_true, Bool.and_true] at dcc ecc
  obtain ⟨hcy0, hcy1, hcy2, hcy3, hcy4⟩ := dcc
  obtain ⟨hcw0, hcw1, hcw2, hcw3, hcw4⟩ := ecc
  have c0 := hU3 _ _ (hU2 _ _ b0)
  have c1 := hU3 _ _ (hU2 _ _ b1)
  have hUU := hU1.trans (hU2.trans hU3)
  simp (maxSteps := 1000000) only [sx, fx, ux, implies_true, evBuildSlice, fillE, fillA, here, plain, laid, evOp, avOf, avCell, strOf, evBin, evInt, evStr, evUn, evResults, evResultsL, Heap.store, wbool_off, after_scope, Nat.reduceMul, Nat.reducePow, Nat.reduceSub, Nat.reduceBEq, UInt8.reduceToNat, Nat.reduceEqDiff, Nat.reduceLT, reduceCtorEq, Nat.reduceAdd, Nat.reduceLeDiff, splice, c0, hcy0, hcy1, hcy2, hcy3, hcy4, hcw0, hcw1, hcw2, hcw3, hcw4]
  generalize hH4 : H3.set H.next _ = H4
  have k0 : ∃ x, H4.blk H.next = some (.row 60 32 [x] 0 0) ∧ x = actC s ev nm [y0, y1, y2, y3, y4] [.str q, .int .i64 j1, .int .i64 j2, .int .i64 j3, .int .i64 j4, .int .i64 j5, .int .i64 j6, .int .i64 j7, .int .i64 j8, w] x5 x6 x7 x8 x9 x10 x11 cn [w0, w1, w2, w3, w4] fl := ⟨_, by rw [← hH4, set_same]; rfl, rfl⟩
  obtain ⟨_, k0, rfl⟩ := k0
  have k1 : H4.blk (H.next + 1) = some (.row 60 32 [z60] 0 0) := by rw [← hH4, Heap.set_other _ _ _ (by omega)]; exact c1
  have hU4 : Up H H4 := hH4 ▸ hUU.set (hF _ (Nat.le_refl _)) _
  have hF4 : Free H4 := hH4 ▸ hF3.set (hF3.lt c0) _
  simp only [actC, List.cons_append, List.nil_append] at k0
  refine callStep (f66_ok hF4 (hw.up hU4) hM hm _ fun u H5 hU5 hF5 oK => ?_)
  obtain ⟨p1, p2, p3⟩ := own_plain oK
  have m0 := hU5 _ _ k0
  have m1 := hU5 _ _ k1
  have m1' : ∀ x, (H5.set H.next x).blk (H.next + 1) = some (.row 60 32 [z60] 0 0) := fun x => by rw [Heap.set_other _ _ _ (by omega)]; exact m1
  have hw0 := holds_cell hw
  unfold z60 at m1'
  simp (maxSteps := 1000000) only [sx, fx, ux, implies_true, evBuildSlice, fillE, fillA, here, plain, laid, evOp, avOf, avCell, strOf, evBin, evInt, evStr, evUn, evResults, evResultsL, Heap.store, wbool_off, after_scope, Nat.reduceMul, Nat.reducePow, Nat.reduceSub, Nat.reduceBEq, UInt8.reduceToNat, Nat.reduceEqDiff, Nat.reduceLT, reduceCtorEq, Nat.reduceAdd, Nat.reduceLeDiff, splice, m0, m1', p1, p2, p3, hcy0, hcy1, hcy2, hcy3, hcy4, hcw0, hcw1, hcw2, hcw3, hcw4]
  refine hK _ _ rfl (by simp only [List.all_cons, List.all_nil, p3, hcy0, hcy1, hcy2, hcy3, hcy4, hcw0, hcw1, hcw2, hcw3, hcw4]; rfl) rfl (((hU4.trans hU5).set (hF _ (Nat.le_refl _)) _).set (hF _ (by omega)) _) ((hF5.set (hF5.lt m0) _).set (by rw [set_next]; exact hF5.lt m1) _)

theorem f42_ok {a : List AV} {x : Int} {c : Nat} {H : Heap} (hF : Free H) (ha : ElB 32 a) (hc : H.blk c = some (.row 3 1 [[.int .i64 x]] 0 0)) (K : AV → Heap → Prop) (hK : ∀ H', Up H H' → Free H' → K (.bool (seqOf a == x)) H') : WF Try.prog 42 [.agg a, .ptr c 0 0 0] H K := by
  refine WF_body Try.func42 (by kernel_rfl) rfl Try.ntmps42 (by rw [Try.results42]) (of_decide_eq_true (by kernel_rfl)) ?_
  obtain ⟨al, ac, a0⟩ := ha
  have hold : ∀ xs, (HP H xs).blk c = some (.row 3 1 [[.int .i64 x]] 0 0) := fun xs => hF.hpU xs _ _ hc
  simp (maxSteps := 1000000) only [sx, fx, ux, implies_true, evBuildSlice, fillE, fillA, here, plain, laid, evOp, avOf, avCell, strOf, evBin, evInt, evStr, evUn, evResults, evResultsL, Heap.store, wbool_off, after_scope, Nat.reduceMul, Nat.reducePow, Nat.reduceSub, Nat.reduceBEq, UInt8.reduceToNat, Nat.reduceEqDiff, Nat.reduceLT, reduceCtorEq, Nat.reduceAdd, Nat.reduceLeDiff, hF.at, hF.hp, al, a0, hold]
  exact hK _ (hF.hpU _) (hF.hpF _)

theorem f64_ok {v : AV} {L : List (List AV)} {x : Int} {c : Nat} {H : Heap} (hF : Free H) (hv : Holds H 32 v L) (hn : L.length < 2 ^ 60) (hL : ∀ c ∈ L, ElB 32 c) (hc : H.blk c = some (.row 3 1 [[.int .i64 x]] 0 0)) (K : AV → Heap → Prop)
    (h1 : ∀ (i : Nat) y H', L[i]? = some y → L.find? (fun c => seqOf c == x) = some y → Up H H' → Free H' → K (.int .i64 i) H') (h2 : ∀ H', L.find? (fun c => seqOf c == x) = none → Up H H' → Free H' → K (.int .i64 (-1)) H') : WF Try.prog 64 [v, .func (.func 42) [] [.ptr c 0 0 0]] H K := by
  refine WF_body Try.func64 (by kernel_rfl) rfl Try.ntmps64 (by rw [Try.results64]) (of_decide_eq_true (by kernel_rfl)) ?_
  have lv := hv.lenAt (P := Try.prog) und27
  simp (maxSteps := 1000000) only [sx, fx, ux, implies_true, evBuildSlice, fillE, fillA, here, plain, laid, evOp, avOf, avCell, strOf, evBin, evInt, evStr, evUn, evResults, evResultsL, Heap.store, wbool_off, after_scope, Nat.reduceMul, Nat.reducePow, Nat.reduceSub, Nat.reduceBEq, UInt8.reduceToNat, Nat.reduceEqDiff, Nat.reduceLT, reduceCtorEq, Nat.reduceAdd, Nat.reduceLeDiff, lv]
  refine loopStep' (fun env H' => ∃ (i : Nat), i ≤ L.length ∧ (L.take i).find? (fun c => seqOf c == x) = none ∧ env.at (.tmp 9) = .int .i64 i ∧ env.at (.tmp 8) = .int .i64 L.length ∧ env.at (.tmp 7) = v ∧ env.at (.tmp 1) = .func (.func 42) [] [.ptr c 0 0 0] ∧ Up H H' ∧ Free H')
    (fun env H' => match env.at (.tmp 9) with | .int _ i => ((L.length : Int) - i).toNat | _ => 0) ?_ ?_
  · exact ⟨0, Nat.zero_le _, rfl, by simp only [sx, fx, ux, implies_true, evBuildSlice, fillE, fillA, here, plain, laid, evOp, avOf, avCell, strOf, evBin, evInt, evStr, evUn, evResults, evResultsL, Heap.store, wbool_off, after_scope, Nat.reduceMul, Nat.reducePow, Nat.reduceSub, Nat.reduceBEq, UInt8.reduceToNat, Nat.reduceEqDiff, Nat.reduceLT, reduceCtorEq, Nat.reduceAdd, Nat.reduceLeDiff]; rfl, by simp only [sx, fx, ux, implies_true, evBuildSlice, fillE, fillA, here, plain, laid, evOp, avOf, avCell, strOf, evBin, evInt, evStr, evUn, evResults, evResultsL, Heap.store, wbool_off, after_scope, Nat.reduceMul, Nat.reducePow, Nat.reduceSub, Nat.reduceBEq, UInt8.reduceToNat, Nat.reduceEqDiff, Nat.reduceLT, reduceCtorEq, Nat.reduceAdd, Nat.reduceLeDiff], by simp only [sx, fx, ux, implies_true, evBuildSlice, fillE, fillA, here, plain, laid, evOp, avOf, avCell, strOf, evBin, evInt, evStr, evUn, evResults, evResultsL, Heap.store, wbool_off, after_scope, Nat.reduceMul, Nat.reducePow, Nat.reduceSub, Nat.reduceBEq, UInt8.reduceToNat, Nat.reduceEqDiff, Nat.reduceLT, reduceCtorEq, Nat.reduceAdd, Nat.reduceLeDiff], by simp only [sx, fx, ux, implies_true, evBuildSlice, fillE, fillA, here, plain, laid, evOp, avOf, avCell, strOf, evBin, evInt, evStr, evUn, evResults, evResultsL, Heap.store, wbool_off, after_scope, Nat.reduceMul, Nat.reducePow, Nat.reduceSub, Nat.reduceBEq, UInt8.reduceToNat, Nat.reduceEqDiff, Nat.reduceLT, reduceCtorEq, Nat.reduceAdd, Nat.reduceLeDiff], Up.refl _, hF⟩
  · rintro env H' ⟨i, hi, hno, e9, e8, e7, e1, hU, hF'⟩
    by_cases hlt : i < L.length
    · obtain ⟨y, hy⟩ : ∃ y, L[i]? = some y := ⟨_, List.getElem?_eq_getElem hlt⟩
      have hel := hL y (List.mem_of_getElem? hy)
      obtain ⟨yl, yc, y0⟩ := hel
      have yt : y.take 32 = y := List.take_of_length_le (by omega)
      have hsp : splice z60 0 y = y := by simp [splice, z60, yl]
      unfold z60 at hsp
      obtain ⟨p, hp, hload, _⟩ := (hv.up hU).index (P := Try.prog) und27 sz60 .i64 hy
      simp (maxSteps := 1000000) only [sx, fx, ux, implies_true, evBuildSlice, fillE, fillA, here, plain, laid, evOp, avOf, avCell, strOf, evBin, evInt, evStr, evUn, evResults, evResultsL, Heap.store, wbool_off, after_scope, Nat.reduceMul, Nat.reducePow, Nat.reduceSub, Nat.reduceBEq, UInt8.reduceToNat, Nat.reduceEqDiff, Nat.reduceLT, reduceCtorEq, Nat.reduceAdd, Nat.reduceLeDiff, e9, e8, e7, e1, lt_true hlt, hp, hload _ (Up.refl _), hF'.at, hF'.hp, yl, yc, yt, hsp]
      refine callStep (f42_ok (hF'.hpF _) ⟨yl, yc, y0⟩ (hF'.hpU _ _ _ (hU _ _ hc)) _ fun H4 hU4 hF4 => ?_)
      have hUU := hU.trans ((hF'.hpU _).trans hU4)
      cases hx : (seqOf y == x) with
      | true =>
        simp (maxSteps := 1000000) only [sx, fx, ux, implies_true, evBuildSlice, fillE, fillA, here, plain, laid, evOp, avOf, avCell, strOf, evBin, evInt, evStr, evUn, evResults, evResultsL, Heap.store, wbool_off, after_scope, Nat.reduceMul, Nat.reducePow, Nat.reduceSub, Nat.reduceBEq, UInt8.reduceToNat, Nat.reduceEqDiff, Nat.reduceLT, reduceCtorEq, Nat.reduceAdd, Nat.reduceLeDiff, e9, e8, e7, e1]
        exact h1 i y _ hy (find_some_at hy hno hx) hUU hF4
      | false =>
        simp (maxSteps := 1000000) only [sx, fx, ux, implies_true, evBuildSlice, fillE, fillA, here, plain, laid, evOp, avOf, avCell, strOf, evBin, evInt, evStr, evUn, evResults, evResultsL, Heap.store, wbool_off, after_scope, Nat.reduceMul, Nat.reducePow, Nat.reduceSub, Nat.reduceBEq, UInt8.reduceToNat, Nat.reduceEqDiff, Nat.reduceLT, reduceCtorEq, Nat.reduceAdd, Nat.reduceLeDiff, e9, e8, e7, e1, wrap_succ (i := i) (by omega)]
        refine ⟨⟨i + 1, hlt, find_none_snoc hy hno hx, rfl, hUU, hF4⟩, ?_⟩
        omega
    · simp (maxSteps := 1000000) only [sx, fx, ux, implies_true, evBuildSlice, fillE, fillA, here, plain, laid, evOp, avOf, avCell, strOf, evBin, evInt, evStr, evUn, evResults, evResultsL, Heap.store, wbool_off, after_scope, Nat.reduceMul, Nat.reducePow, Nat.reduceSub, Nat.reduceBEq, UInt8.reduceToNat, Nat.reduceEqDiff, Nat.reduceLT, reduceCtorEq, Nat.reduceAdd, Nat.reduceLeDiff, e9, e8, e7, e1, lt_false hlt]
      obtain rfl : i = L.length := by omega
      exact h2 _ (by simpa using hno) hU hF'

theorem f41_ok {v : AV} {L : List (List AV)} {x : Int} {c : Nat} {H : Heap} (hF : Free H) (hv : Holds H 32 v L) (hn : L.length < 2 ^ 60) (hL : ∀ c ∈ L, ElB 32 c) (hc : H.blk c = some (.row 3 1 [[.int .i64 x]] 0 0)) (K : AV → Heap → Prop)
    (h1 : ∀ y H', L.find? (fun c => seqOf c == x) = some y → Up H H' → Free H' → K (.tuple [.agg y, .bool true]) H') (h2 : ∀ H', L.find? (fun c => seqOf c == x) = none → Up H H' → Free H' → K (.tuple [.agg z60, .bool false]) H') : WF Try.prog 41 [v, .func (.func 42) [] [.ptr c 0 0 0]] H K := by
  refine WF_body Try.func41 (by kernel_rfl) rfl Try.ntmps41 (by rw [Try.results41]) (of_decide_eq_true (by kernel_rfl)) ?_
  simp (maxSteps := 1000000) only [sx, fx, ux, implies_true, evBuildSlice, fillE, fillA, here, plain, laid, evOp, avOf, avCell, strOf, evBin, evInt, evStr, evUn, evResults, evResultsL, Heap.store, wbool_off, after_scope, Nat.reduceMul, Nat.reducePow, Nat.reduceSub, Nat.reduceBEq, UInt8.reduceToNat, Nat.reduceEqDiff, Nat.reduceLT, reduceCtorEq, Nat.reduceAdd, Nat.reduceLeDiff, hF.at, hF.hp]
  generalize hH1 : HP H _ = H1
  have b0 : H1.blk H.next = some (.row 60 32 [z60] 0 0) := by rw [← hH1, hp_blk0]; rfl
  have hF1 : Free H1 := hH1 ▸ hF.hpF _
  have hU1 : Up H H1 := hH1 ▸ hF.hpU _
  refine callStep (f64_ok hF1 (hv.up hU1) hn hL (hU1 _ _ hc) _ (fun i y H2 hy hfind hU2 hF2 => ?_) fun H2 hnone hU2 hF2 => ?_)
  · have c0 := hU2 _ _ b0
    obtain ⟨yl, yc, y0⟩ := hL y (List.mem_of_getElem? hy)
    have yt : y.take 32 = y := List.take_of_length_le (by omega)
    have hsp : splice z60 0 y = y := by simp [splice, z60, yl]
    obtain ⟨p, hp, hload, _⟩ := (hv.up (hU1.trans hU2)).index (P := Try.prog) und27 sz60 .i64 hy
    have i1 : ((i : Int) ≥ 0) = True := by simp
    unfold z60 at hsp c0
    simp (maxSteps := 1000000) only [sx, fx, ux, implies_true, evBuildSlice, fillE, fillA, here, plain, laid, evOp, avOf, avCell, strOf, evBin, evInt, evStr, evUn, evResults, evResultsL, Heap.store, wbool_off, after_scope, Nat.reduceMul, Nat.reducePow, Nat.reduceSub, Nat.reduceBEq, UInt8.reduceToNat, Nat.reduceEqDiff, Nat.reduceLT, reduceCtorEq, Nat.reduceAdd, Nat.reduceLeDiff, i1, hp, hload _ (Up.refl _), c0, yl, yc, yt, hsp]
    exact h1 y _ hfind ((hU1.trans hU2).set (hF _ (Nat.le_refl _)) _) (hF2.set (hF2.lt c0) _)
  · have c0 := hU2 _ _ b0
    have i1 : ((-1 : Int) ≥ 0) = False := by simp
    have c0' : ∀ xs, (HP H2 xs).blk H.next = some (.row 60 32 [z60] 0 0) := fun xs => hF2.hpU xs _ _ c0
    unfold z60 at c0'
    simp (maxSteps := 1000000) only [sx, fx, ux, implies_true, evBuildSlice, fillE, fillA, here, plain, laid, evOp, avOf, avCell, strOf, evBin, evInt, evStr, evUn, evResults, evResultsL, Heap.store, wbool_off, after_scope, Nat.reduceMul, Nat.reducePow, Nat.reduceSub, Nat.reduceBEq, UInt8.reduceToNat, Nat.reduceEqDiff, Nat.reduceLT, reduceCtorEq, Nat.reduceAdd, Nat.reduceLeDiff, i1, hF2.at, hF2.hp, c0']
    exact h2 _ hnone (((hU1.trans hU2).trans (hF2.hpU _)).set (hF _ (Nat.le_refl _)) _) ((hF2.hpF _).set ((hF2.hpF _).lt (c0' _)) _)

theorem polT_zp (H : Heap) : PolT H zp := ⟨polR_zp H, fun w hw M hM => by
  have : AV.nilslice = w := by simpa [zp] using hw
  subst this
  rw [holds_uniq hM (Holds.nil (H := H) (esz := 1))]; decide⟩
theorem actR_z60 (H : Heap) : ActR H 0 z60 := ⟨0, 0, [], zv, zp, 0, 0, 0, 0, 0, 0, 0, false, zv, [], rfl, ⟨1, tb_zv H⟩, polT_zp H, ⟨1, tb_zv H⟩, Int.le_refl _⟩

theorem f36_ok {H : Heap} {N : Nat} {p : PS} {x : Int} (hp : PR H N p) (hN : N ≤ 100) (hF : Free H) (K : AV → Heap → Prop)
    (h1 : ∀ c a' H', p.acts.find? (fun c => seqOf c == x) = some c → a'.length = 32 → a'.all AV.isCell = true → (a'.drop 18).take 2 = (c.drop 18).take 2 → Up H H' → Free H' → K (.tuple [.agg a', .bool true]) H')
    (h2 : ∀ a' H', p.acts.find? (fun c => seqOf c == x) = none → a'.length = 32 → a'.all AV.isCell = true → Up H H' → Free H' → K (.tuple [.agg a', .bool false]) H') : WF Try.prog 36 [.agg p.cells, .int .i64 x] H K := by
  have hpl := hp.len
  have pd := hp.da
  have hna := hp.na
  have hels : ∀ c ∈ p.acts, ElB 32 c := fun c hc => (hp.ca c hc).el
  refine WF_body Try.func36 (by kernel_rfl) rfl Try.ntmps36 (by rw [Try.results36]) (of_decide_eq_true (by kernel_rfl)) ?_
  simp (maxSteps := 1000000) only [sx, fx, ux, implies_true, evBuildSlice, fillE, fillA, here, plain, laid, evOp, avOf, avCell, strOf, evBin, evInt, evStr, evUn, evResults, evResultsL, Heap.store, wbool_off, after_scope, Nat.reduceMul, Nat.reducePow, Nat.reduceSub, Nat.reduceBEq, UInt8.reduceToNat, Nat.reduceEqDiff, Nat.reduceLT, reduceCtorEq, Nat.reduceAdd, Nat.reduceLeDiff, hF.at, hF.hp, hpl, pd]
  generalize hH1 : HP H _ = H1
  have b1 : H1.blk (H.next + 1) = some (.row 3 1 [[.int .i64 x]] 0 0) := by rw [← hH1, hp_blk]; rfl
  have b2 : H1.blk (H.next + 2) = some (.row 60 32 [z60] 0 0) := by rw [← hH1, hp_blk]; rfl
  have hF1 : Free H1 := hH1 ▸ hF.hpF _
  have hU1 : Up H H1 := hH1 ▸ hF.hpU _
  refine callStep (f41_ok hF1 (hp.ha.up hU1) (by omega) hels b1 _ (fun c H2 hfind hU2 hF2 => ?_) fun H2 hnone hU2 hF2 => ?_)
  · have hcm := List.mem_of_find?_eq_some hfind
    obtain ⟨cl, cc, c0⟩ := hels c hcm
    have ct : c.take 32 = c := List.take_of_length_le (by omega)
    have hsp : splice z60 0 c = c := by simp [splice, z60, cl]
    unfold z60 at hsp
    simp (maxSteps := 1000000) only [sx, fx, ux, implies_true, evBuildSlice, fillE, fillA, here, plain, laid, evOp, avOf, avCell, strOf, evBin, evInt, evStr, evUn, evResults, evResultsL, Heap.store, wbool_off, after_scope, Nat.reduceMul, Nat.reducePow, Nat.reduceSub, Nat.reduceBEq, UInt8.reduceToNat, Nat.reduceEqDiff, Nat.reduceLT, reduceCtorEq, Nat.reduceAdd, Nat.reduceLeDiff, hF2.at, hF2.hp, cl, cc, ct, hsp]
    refine callStep (f43_ok ((hp.ca c hcm).up (hU1.trans (hU2.trans (hF2.hpU _)))) (hF2.hpF _) _ fun a' H4 al ac a18 hU4 hF4 => ?_)
    have k2 := hU4 _ _ (hF2.hpU _ _ _ (hU2 _ _ b2))
    have at' : a'.take 32 = a' := List.take_of_length_le (by omega)
    have hsp' : splice z60 0 a' = a' := by simp [splice, z60, al]
    unfold z60 at hsp' k2
    simp (maxSteps := 1000000) only [sx, fx, ux, implies_true, evBuildSlice, fillE, fillA, here, plain, laid, evOp, avOf, avCell, strOf, evBin, evInt, evStr, evUn, evResults, evResultsL, Heap.store, wbool_off, after_scope, Nat.reduceMul, Nat.reducePow, Nat.reduceSub, Nat.reduceBEq, UInt8.reduceToNat, Nat.reduceEqDiff, Nat.reduceLT, reduceCtorEq, Nat.reduceAdd, Nat.reduceLeDiff, k2, al, ac, at', hsp']
    exact h1 c a' _ hfind al ac a18 ((hU1.trans (hU2.trans ((hF2.hpU _).trans hU4))).set (hF _ (by omega)) _) (hF4.set (hF4.lt k2) _)
  · simp (maxSteps := 1000000) only [z60, sx, fx, ux, implies_true, evBuildSlice, fillE, fillA, here, plain, laid, evOp, avOf, avCell, strOf, evBin, evInt, evStr, evUn, evResults, evResultsL, Heap.store, wbool_off, after_scope, Nat.reduceMul, Nat.reducePow, Nat.reduceSub, Nat.reduceBEq, UInt8.reduceToNat, Nat.reduceEqDiff, Nat.reduceLT, reduceCtorEq, Nat.reduceAdd, Nat.reduceLeDiff, hF2.at, hF2.hp]
    refine callStep (f43_ok (actR_z60 _) (hF2.hpF _) _ fun a' H4 al ac _ hU4 hF4 => ?_)
    have k2 := hU4 _ _ (hF2.hpU _ _ _ (hU2 _ _ b2))
    have at' : a'.take 32 = a' := List.take_of_length_le (by omega)
    have hsp' : splice z60 0 a' = a' := by simp [splice, z60, al]
    unfold z60 at hsp' k2
    simp (maxSteps := 1000000) only [sx, fx, ux, implies_true, evBuildSlice, fillE, fillA, here, plain, laid, evOp, avOf, avCell, strOf, evBin, evInt, evStr, evUn, evResults, evResultsL, Heap.store, wbool_off, after_scope, Nat.reduceMul, Nat.reducePow, Nat.reduceSub, Nat.reduceBEq, UInt8.reduceToNat, Nat.reduceEqDiff, Nat.reduceLT, reduceCtorEq, Nat.reduceAdd, Nat.reduceLeDiff, k2, al, ac, at', hsp']
    exact h2 a' _ hnone al ac ((hU1.trans (hU2.trans ((hF2.hpU _).trans hU4))).set (hF _ (by omega)) _) (hF4.set (hF4.lt k2) _)
end Go.Proofs.T
