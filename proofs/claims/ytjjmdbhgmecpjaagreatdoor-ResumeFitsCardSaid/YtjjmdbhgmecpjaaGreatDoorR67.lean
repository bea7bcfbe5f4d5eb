import Derived.Test.YtjjmdbhgmecpjaaGreatDoorR45
set_option linter.unusedVariables false
set_option linter.unusedSimpArgs false
set_option maxRecDepth 100000
namespace Go.Proofs.T
open Go.Ev
def pol (q : List Nat) (i1 i2 i3 i4 i5 i6 i7 i8 : Int) (w : AV) : List AV := [.str q, .int .i64 i1, .int .i64 i2, .int .i64 i3, .int .i64 i4, .int .i64 i5, .int .i64 i6, .int .i64 i7, .int .i64 i8, w]
/-- The same policy twice. -/
def EqP (H : Heap) (o p : List AV) : Prop := ∃ (q : List Nat) (i1 i2 i3 i4 i5 i6 i7 i8 : Int) (wa wc : AV) (M : List (List AV)), o = pol q i1 i2 i3 i4 i5 i6 i7 i8 wa ∧ p = pol q i1 i2 i3 i4 i5 i6 i7 i8 wc ∧ Holds H 1 wa M ∧ (∀ H, Holds H 1 wc M) ∧ M.length * 16 ≤ 140737488355328 ∧ StrL M
theorem EqP.up {H G : Heap} {o p : List AV} (h : EqP H o p) (hu : Up H G) : EqP G o p := by
  obtain ⟨q, i1, i2, i3, i4, i5, i6, i7, i8, wa, wc, M, e1, e2, h1, h2, h3, h4⟩ := h
  exact ⟨q, i1, i2, i3, i4, i5, i6, i7, i8, wa, wc, M, e1, e2, h1.up hu, h2, h3, h4⟩
theorem EqP.len {H : Heap} {o p : List AV} (h : EqP H o p) : o.length = 10 := by
  obtain ⟨q, i1, i2, i3, i4, i5, i6, i7, i8, wa, wc, M, rfl, e2, h1, h2, h3, h4⟩ := h; rfl
theorem EqP.cells {H : Heap} {o p : List AV} (h : EqP H o p) : o.all AV.isCell = true := by
  obtain ⟨q, i1, i2, i3, i4, i5, i6, i7, i8, wa, wc, M, rfl, e2, h1, h2, h3, h4⟩ := h
  have := holds_cell h1
  simp only [pol, List.all_cons, List.all_nil, this]; rfl

theorem samePol_ok {H : Heap} {o p : List AV} (h : EqP H o p) (hF : Free H) (K : AV → Heap → Prop) (hK : ∀ H', Up H H' → Free H' → K (.bool true) H') : WF Tryz.prog 21 [.agg o, .agg p] H K := by
  obtain ⟨q, i1, i2, i3, i4, i5, i6, i7, i8, wa, wc, M, rfl, rfl, hwa, hwc, hwb, hM⟩ := h
  have x3 := holds_cell hwa
  have x4 := holds_cell (hwc H)
  unfold pol
  refine WF_body Tryz.func21 (by kernel_rfl) rfl Tryz.ntmps21 (by rw [Tryz.results21]) (of_decide_eq_true (by kernel_rfl)) ?_
  simp (maxSteps := 1000000) only [sx, fx, ux, implies_true, evBuildSlice, fillE, fillA, Nat.reduceMul, Nat.reducePow, Nat.reduceSub, here, plain, laid, Nat.reduceBEq, evOp, avOf, avCell, strOf, UInt8.reduceToNat, evBin, evInt, evStr, evUn, Nat.reduceEqDiff, Nat.reduceLT, evResults, evResultsL, reduceCtorEq, Nat.reduceAdd, Heap.store, Nat.reduceLeDiff, wbool_off, after_scope, hF.at, hF.hp, x3, x4]
  generalize hH1 : HP H [Blk.row 44 10 [[.str q, .int .i64 i1, .int .i64 i2, .int .i64 i3, .int .i64 i4, .int .i64 i5, .int .i64 i6, .int .i64 i7, .int .i64 i8, wa]] 0 0, Blk.row 44 10 [[.str q, .int .i64 i1, .int .i64 i2, .int .i64 i3, .int .i64 i4, .int .i64 i5, .int .i64 i6, .int .i64 i7, .int .i64 i8, wc]] 0 0] = H1
  have b0 : H1.blk H.next = some (.row 44 10 [[.str q, .int .i64 i1, .int .i64 i2, .int .i64 i3, .int .i64 i4, .int .i64 i5, .int .i64 i6, .int .i64 i7, .int .i64 i8, wa]] 0 0) := by rw [← hH1, hp_blk0]; rfl
  have b1 : H1.blk (H.next + 1) = some (.row 44 10 [[.str q, .int .i64 i1, .int .i64 i2, .int .i64 i3, .int .i64 i4, .int .i64 i5, .int .i64 i6, .int .i64 i7, .int .i64 i8, wc]] 0 0) := by rw [← hH1, hp_blk]; rfl
  have hF1 : Free H1 := hH1 ▸ hF.hpF _
  have hU1 : Up H H1 := hH1 ▸ hF.hpU _
  have hwa1 := hwa.up hU1
  simp (maxSteps := 1000000) only [sx, fx, ux, implies_true, evBuildSlice, fillE, fillA, Nat.reduceMul, Nat.reducePow, Nat.reduceSub, here, plain, laid, Nat.reduceBEq, evOp, avOf, avCell, strOf, UInt8.reduceToNat, evBin, evInt, evStr, evUn, Nat.reduceEqDiff, Nat.reduceLT, evResults, evResultsL, reduceCtorEq, Nat.reduceAdd, Heap.store, Nat.reduceLeDiff, wbool_off, after_scope, b0, b1, bneq_self, beq_self_eq_true, hwa1.lenAt (P := Tryz.prog) und40, (hwc H1).lenAt (P := Tryz.prog) und40]
  refine loopStep' (fun env H' => H' = H1 ∧ ∃ (i : Nat), i ≤ M.length ∧ env.at (.tmp 5) = .int .i64 i ∧ env.at (.tmp 2) = .ptr H.next 0 0 0 ∧ env.at (.tmp 3) = .ptr (H.next + 1) 0 0 0)
    (fun env H' => match env.at (.tmp 5) with | .int _ i => ((M.length : Int) - i).toNat | _ => 0) ?_ ?_
  · exact ⟨rfl, 0, Nat.zero_le _, by simp only [sx, fx, ux, implies_true, evBuildSlice, fillE, fillA, Nat.reduceMul, Nat.reducePow, Nat.reduceSub, here, plain, laid, Nat.reduceBEq, evOp, avOf, avCell, strOf, UInt8.reduceToNat, evBin, evInt, evStr, evUn, Nat.reduceEqDiff, Nat.reduceLT, evResults, evResultsL, reduceCtorEq, Nat.reduceAdd, Heap.store, Nat.reduceLeDiff, wbool_off, after_scope]; rfl, by simp only [sx, fx, ux, implies_true, evBuildSlice, fillE, fillA, Nat.reduceMul, Nat.reducePow, Nat.reduceSub, here, plain, laid, Nat.reduceBEq, evOp, avOf, avCell, strOf, UInt8.reduceToNat, evBin, evInt, evStr, evUn, Nat.reduceEqDiff, Nat.reduceLT, evResults, evResultsL, reduceCtorEq, Nat.reduceAdd, Heap.store, Nat.reduceLeDiff, wbool_off, after_scope], by simp only [sx, fx, ux, implies_true, evBuildSlice, fillE, fillA, Nat.reduceMul, Nat.reducePow, Nat.reduceSub, here, plain, laid, Nat.reduceBEq, evOp, avOf, avCell, strOf, UInt8.reduceToNat, evBin, evInt, evStr, evUn, Nat.reduceEqDiff, Nat.reduceLT, evResults, evResultsL, reduceCtorEq, Nat.reduceAdd, Heap.store, Nat.reduceLeDiff, wbool_off, after_scope]⟩
  · rintro env H' ⟨rfl, j, hj, e5, e2, e3⟩
    by_cases hlt : j < M.length
    · obtain ⟨c, hc⟩ : ∃ c, M[j]? = some c := ⟨_, List.getElem?_eq_getElem hlt⟩
      obtain ⟨q, rfl⟩ := hM c (List.mem_of_getElem? hc)
      obtain ⟨p1, hp1, hl1⟩ := idx_of hwa1 und40 sz9 hc
      obtain ⟨p2, hp2, hl2⟩ := idx_of (hwc H') und40 sz9 hc
      simp (maxSteps := 1000000) only [sx, fx, ux, implies_true, evBuildSlice, fillE, fillA, Nat.reduceMul, Nat.reducePow, Nat.reduceSub, here, plain, laid, Nat.reduceBEq, evOp, avOf, avCell, strOf, UInt8.reduceToNat, evBin, evInt, evStr, evUn, Nat.reduceEqDiff, Nat.reduceLT, evResults, evResultsL, reduceCtorEq, Nat.reduceAdd, Heap.store, Nat.reduceLeDiff, wbool_off, after_scope, e5, e2, e3, b0, b1, hwa1.lenAt (P := Tryz.prog) und40, lt_true hlt]
      refine drawStep [] [0, 1, 2, 3, 4, 5, 6, 7, 8, 9, 10] _ rfl (by kernel_rfl) ?_
      simp (maxSteps := 1000000) only [sx, fx, ux, implies_true, evBuildSlice, fillE, fillA, Nat.reduceMul, Nat.reducePow, Nat.reduceSub, here, plain, laid, Nat.reduceBEq, evOp, avOf, avCell, strOf, UInt8.reduceToNat, evBin, evInt, evStr, evUn, Nat.reduceEqDiff, Nat.reduceLT, evResults, evResultsL, reduceCtorEq, Nat.reduceAdd, Heap.store, Nat.reduceLeDiff, wbool_off, after_scope, e5, e2, e3, b0, b1, hp1, hp2, hl1 H' (Up.refl _), hl2 H' (Up.refl _), bneq_self, beq_self_eq_true, wrap_succ (i := j) (by omega)]
      refine ⟨⟨j + 1, hlt, rfl⟩, ?_⟩
      omega
    · simp (maxSteps := 1000000) only [sx, fx, ux, implies_true, evBuildSlice, fillE, fillA, Nat.reduceMul, Nat.reducePow, Nat.reduceSub, here, plain, laid, Nat.reduceBEq, evOp, avOf, avCell, strOf, UInt8.reduceToNat, evBin, evInt, evStr, evUn, Nat.reduceEqDiff, Nat.reduceLT, evResults, evResultsL, reduceCtorEq, Nat.reduceAdd, Heap.store, Nat.reduceLeDiff, wbool_off, after_scope, e5, e2, e3, b0, b1, hwa1.lenAt (P := Tryz.prog) und40, lt_false hlt]
      exact hK _ hU1 hF1

/-- An event's cells. -/
def evc (a b c e f g h : Int) (nm ky : List Nat) (d o : List AV) : List AV := .int .i64 a :: .int .i64 b :: .int .i64 c :: .int .i64 e :: .int .i64 f :: .int .i64 g :: .int .i64 h :: .str nm :: .str ky :: (d ++ o)
def EqE (H : Heap) (x y : List AV) : Prop := ∃ (a b c e f g h : Int) (nm ky : List Nat) (d d' o o' : List AV) (n : Nat), x = evc a b c e f g h nm ky d o ∧ y = evc a b c e f g h nm ky d' o' ∧ EqV n H d d' ∧ EqP H o o' ∧ d'.length = 5 ∧ o'.length = 10
theorem EqE.up {H G : Heap} {x y : List AV} (h : EqE H x y) (hu : Up H G) : EqE G x y := by
  obtain ⟨a, b, c, e, f, g, h', nm, ky, d, d', o, o', n, e1, e2, h1, h2, h3, h4⟩ := h
  exact ⟨a, b, c, e, f, g, h', nm, ky, d, d', o, o', n, e1, e2, h1.up hu, h2.up hu, h3, h4⟩
theorem lst_append (a b : List Oper) : List.append a b = a ++ b := rfl
theorem take_app {α : Type} {d o : List α} {n : Nat} (h : d.length = n) : (d ++ o).take n = d := by subst h; simp
theorem drop_app {α : Type} {d o : List α} {n : Nat} (h : d.length = n) : (d ++ o).drop n = o := by subst h; simp

theorem sameE_ok {H : Heap} {x y : List AV} (h : EqE H x y) (hF : Free H) (K : AV → Heap → Prop) (hK : ∀ H', Up H H' → Free H' → K (.bool true) H') : WF Tryz.prog 9 [.agg x, .agg y] H K := by
  obtain ⟨a, b, c, e, f, g, h', nm, ky, d, d', o, o', n, rfl, rfl, hd, ho, hd5, ho10⟩ := h
  have dl := hd.len
  have ol := ho.len
  have l1 : (evc a b c e f g h' nm ky d o).length = 24 := by simp [evc, dl, ol]
  have l2 : (evc a b c e f g h' nm ky d' o').length = 24 := by simp [evc, hd5, ho10]
  have t1 : ((evc a b c e f g h' nm ky d o).drop 9).take 5 = d := take_app dl
  have t2 : ((evc a b c e f g h' nm ky d' o').drop 9).take 5 = d' := take_app hd5
  have u1 : ((evc a b c e f g h' nm ky d o).drop 14).take 10 = o := by
    show ((d ++ o).drop 5).take 10 = o
    rw [drop_app dl, List.take_of_length_le (by omega)]
  have u2 : ((evc a b c e f g h' nm ky d' o').drop 14).take 10 = o' := by
    show ((d' ++ o').drop 5).take 10 = o'
    rw [drop_app hd5, List.take_of_length_le (by omega)]
  have kX0 : (evc a b c e f g h' nm ky d o).take 1 = [.int .i64 a] := rfl
  have kX1 : ((evc a b c e f g h' nm ky d o).drop 1).take 1 = [.int .i64 b] := rfl
  have kX2 : ((evc a b c e f g h' nm ky d o).drop 2).take 1 = [.int .i64 c] := rfl
  have kX3 : ((evc a b c e f g h' nm ky d o).drop 3).take 1 = [.int .i64 e] := rfl
  have kX4 : ((evc a b c e f g h' nm ky d o).drop 4).take 1 = [.int .i64 f] := rfl
  have kX5 : ((evc a b c e f g h' nm ky d o).drop 5).take 1 = [.int .i64 g] := rfl
  have kX6 : ((evc a b c e f g h' nm ky d o).drop 6).take 1 = [.int .i64 h'] := rfl
  have kX7 : ((evc a b c e f g h' nm ky d o).drop 7).take 1 = [.str nm] := rfl
  have kX8 : ((evc a b c e f g h' nm ky d o).drop 8).take 1 = [.str ky] := rfl
  have kY0 : (evc a b c e f g h' nm ky d' o').take 1 = [.int .i64 a] := rfl
  have kY1 : ((evc a b c e f g h' nm ky d' o').drop 1).take 1 = [.int .i64 b] := rfl
  have kY2 : ((evc a b c e f g h' nm ky d' o').drop 2).take 1 = [.int .i64 c] := rfl
  have kY3 : ((evc a b c e f g h' nm ky d' o').drop 3).take 1 = [.int .i64 e] := rfl
  have kY4 : ((evc a b c e f g h' nm ky d' o').drop 4).take 1 = [.int .i64 f] := rfl
  have kY5 : ((evc a b c e f g h' nm ky d' o').drop 5).take 1 = [.int .i64 g] := rfl
  have kY6 : ((evc a b c e f g h' nm ky d' o').drop 6).take 1 = [.int .i64 h'] := rfl
  have kY7 : ((evc a b c e f g h' nm ky d' o').drop 7).take 1 = [.str nm] := rfl
  have kY8 : ((evc a b c e f g h' nm ky d' o').drop 8).take 1 = [.str ky] := rfl
  have cX : (evc a b c e f g h' nm ky d o).isEmpty = false := rfl
  generalize evc a b c e f g h' nm ky d o = X at *
  generalize evc a b c e f g h' nm ky d' o' = Y at *
  refine WF_body Tryz.func9 (by kernel_rfl) rfl Tryz.ntmps9 (by rw [Tryz.results9]) (of_decide_eq_true (by kernel_rfl)) ?_
  simp (maxSteps := 1000000) only [sx, fx, ux, implies_true, evBuildSlice, fillE, fillA, Nat.reduceMul, Nat.reducePow, Nat.reduceSub, here, plain, laid, Nat.reduceBEq, evOp, avOf, avCell, strOf, UInt8.reduceToNat, evBin, evInt, evStr, evUn, Nat.reduceEqDiff, Nat.reduceLT, evResults, evResultsL, reduceCtorEq, Nat.reduceAdd, Heap.store, Nat.reduceLeDiff, wbool_off, after_scope, lst_append, hF.at, hF.hp, l1, l2]
  generalize hH1 : HP H [Blk.row 46 24 [X] 0 0, Blk.row 46 24 [Y] 0 0] = H1
  have b0 : H1.blk H.next = some (.row 46 24 [X] 0 0) := by rw [← hH1, hp_blk0]; rfl
  have b1 : H1.blk (H.next + 1) = some (.row 46 24 [Y] 0 0) := by rw [← hH1, hp_blk]; rfl
  have hF1 : Free H1 := hH1 ▸ hF.hpF _
  have hU1 : Up H H1 := hH1 ▸ hF.hpU _
  simp (maxSteps := 1000000) only [sx, fx, ux, implies_true, evBuildSlice, fillE, fillA, Nat.reduceMul, Nat.reducePow, Nat.reduceSub, here, plain, laid, Nat.reduceBEq, evOp, avOf, avCell, strOf, UInt8.reduceToNat, evBin, evInt, evStr, evUn, Nat.reduceEqDiff, Nat.reduceLT, evResults, evResultsL, reduceCtorEq, Nat.reduceAdd, Heap.store, Nat.reduceLeDiff, wbool_off, after_scope, lst_append, b0, b1, t1, t2, u1, u2, kX0, kX1, kX2, kX3, kX4, kX5, kX6, kX7, kX8, kY0, kY1, kY2, kY3, kY4, kY5, kY6, kY7, kY8, beq_self_eq_true]
  refine callStep (same_ok n H1 d d' (hd.up hU1) hF1 _ fun H2 hU2 hF2 => ?_)
  have g0 := hU2 _ _ b0
  have g1 := hU2 _ _ b1
  simp (maxSteps := 1000000) only [sx, fx, ux, implies_true, evBuildSlice, fillE, fillA, Nat.reduceMul, Nat.reducePow, Nat.reduceSub, here, plain, laid, Nat.reduceBEq, evOp, avOf, avCell, strOf, UInt8.reduceToNat, evBin, evInt, evStr, evUn, Nat.reduceEqDiff, Nat.reduceLT, evResults, evResultsL, reduceCtorEq, Nat.reduceAdd, Heap.store, Nat.reduceLeDiff, wbool_off, after_scope, g0, g1, t1, t2, u1, u2]
  refine callStep (samePol_ok (ho.up (hU1.trans hU2)) hF2 _ fun H3 hU3 hF3 => ?_)
  simp (maxSteps := 1000000) only [sx, fx, ux, implies_true, evBuildSlice, fillE, fillA, Nat.reduceMul, Nat.reducePow, Nat.reduceSub, here, plain, laid, Nat.reduceBEq, evOp, avOf, avCell, strOf, UInt8.reduceToNat, evBin, evInt, evStr, evUn, Nat.reduceEqDiff, Nat.reduceLT, evResults, evResultsL, reduceCtorEq, Nat.reduceAdd, Heap.store, Nat.reduceLeDiff, wbool_off, after_scope]
  exact hK _ (hU1.trans (hU2.trans hU3)) hF3
end Go.Proofs.T
set_option linter.unusedVariables false
set_option linter.unusedSimpArgs false
set_option maxRecDepth 100000
namespace Go.Proofs.T
open Go.Ev
theorem slice_all {v : AV} {L : List (List AV)} (hv : ∀ H, Holds H 24 v L) (a : Nat) (ha : a ≤ L.length) : ∃ w, (∀ G, evSlice Tryz.prog G 22 v (some (a : Int)) none none = some w) ∧ ∀ H, Holds H 24 w (L.drop a) := by
  rcases lst_of hv with ⟨rfl, rfl | rfl⟩ | rfl
  · obtain rfl : a = 0 := by simpa using ha
    exact ⟨.nilslice, fun G => by simp [evSlice, und22, boundsOk, sz46], fun H => by simpa using Holds.nil⟩
  · obtain rfl : a = 0 := by simpa using ha
    exact ⟨.eslice, fun G => by simp [evSlice, und22, boundsOk, sz46], fun H => by simpa using hv H⟩
  · have h24 : ∀ c ∈ L, c.length = 24 := (hv ⟨fun _ => none, 0⟩).1
    refine ⟨.lst 24 (L.drop a), fun G => ?_, fun H => Holds.lst fun c hc => h24 c (List.mem_of_mem_drop hc)⟩
    have e1 : ((L.length : Int) - (a : Int)).toNat = L.length - a := by omega
    simp only [evSlice, und22, sz46, boundsOk, Option.getD_some, Option.getD_none, Int.toNat_natCast, e1]
    rw [if_pos (by simp; omega), List.take_of_length_le (by simp)]

/-- A policy, and an event, as a row reads them. -/
def PT (o : List AV) : Prop := ∃ (q : List Nat) (i1 i2 i3 i4 i5 i6 i7 i8 : Int) (w : AV) (M : List (List AV)), o = pol q i1 i2 i3 i4 i5 i6 i7 i8 w ∧ (∀ H, Holds H 1 w M) ∧ M.length * 16 ≤ 140737488355328 ∧ StrL M
def EvT (x : List AV) : Prop := ∃ (a b c e f g h : Int) (nm ky : List Nat) (d o : List AV) (n : Nat), x = evc a b c e f g h nm ky d o ∧ VT n d ∧ PT o
theorem EvT.cells {x : List AV} (h : EvT x) : x.all AV.isCell = true ∧ x.length = 24 := by
  obtain ⟨a, b, c, e, f, g, h, nm, ky, d, o, n, rfl, hd, q, i1, i2, i3, i4, i5, i6, i7, i8, w, M, rfl, hw, _⟩ := h
  have h1 := hd.cells
  have h2 := hd.len
  have h3 := holds_cell (hw ⟨fun _ => none, 0⟩)
  refine ⟨?_, by simp [evc, pol, h2]⟩
  simp only [evc, List.all_cons, List.all_append, h1, pol, h3, List.all_nil]; rfl
def dl0 (dn : Int) (n : Nat) : Nat := if dn < 0 then 0 else if dn > (n : Int) then 0 else dn.toNat


theorem evc_split {x : List AV} (h : EvT x) : ∃ (a b c e f g h : Int) (nm ky : List Nat) (d : List AV) (q : List Nat) (i1 i2 i3 i4 i5 i6 i7 i8 : Int) (w : AV) (M : List (List AV)) (n : Nat), x = evc a b c e f g h nm ky d (pol q i1 i2 i3 i4 i5 i6 i7 i8 w) ∧ VT n d ∧ (∀ H, Holds H 1 w M) ∧ M.length * 16 ≤ 140737488355328 ∧ StrL M := by
  obtain ⟨a, b, c, e, f, g, h, nm, ky, d, o, n, rfl, hd, q, i1, i2, i3, i4, i5, i6, i7, i8, w, M, rfl, hw, hm, hM⟩ := h
  exact ⟨a, b, c, e, f, g, h, nm, ky, d, q, i1, i2, i3, i4, i5, i6, i7, i8, w, M, n, rfl, hd, hw, hm, hM⟩

/-- What stands in the copied events after i rounds. -/
def Mid (H H' : Heap) (u : AV) (L1 L2 : List (List AV)) (i : Nat) : Prop :=
  L2.length = L1.length ∧ (∀ (j : Nat) (x y : List AV), j < i → L2[j]? = some x → L1[j]? = some y → EqE (hbut (hn H' H) (rowOf u)) x y) ∧ ∀ j, i ≤ j → L2[j]? = L1[j]?

theorem mid_next {H H' H6 : Heap} {u : AV} {L1 L2 : List (List AV)} {i : Nat} (h : Mid H H' u L1 L2 i) {x1 x2 y : List AV} (hi : L1[i]? = some y) (hup : Up (hbut (hn H' H) (rowOf u)) (hbut (hn H6 H) (rowOf u))) (hx : EqE (hbut (hn H6 H) (rowOf u)) x2 y) : Mid H H6 u L1 ((L2.set i x1).set i x2) (i + 1) := by
  have hlt : i < L2.length := by rw [h.1]; exact (List.getElem?_eq_some_iff.1 hi).1
  refine ⟨by simp [h.1], fun j x z hj hx' hz => ?_, fun j hj => ?_⟩
  · by_cases hji : j = i
    · subst hji
      rw [List.getElem?_set_self (by simpa using hlt)] at hx'
      rw [hi] at hz
      cases hx'; cases hz
      exact hx
    · rw [List.getElem?_set_ne (fun e => hji e.symm), List.getElem?_set_ne (fun e => hji e.symm)] at hx'
      exact (h.2.1 j x z (by omega) hx' hz).up hup
  · rw [List.getElem?_set_ne (by omega), List.getElem?_set_ne (by omega)]
    exact h.2.2 j (by omega)

theorem f8_ok {v : AV} {L : List (List AV)} (hv : ∀ H, Holds H 24 v L) (hL : ∀ c ∈ L, EvT c) (hb : L.length * 272 ≤ 140737488355328) (dn : Int) (H : Heap) (hF : Free H) (K : AV → Heap → Prop)
    (hK : ∀ u L2 H', Up H H' → Free H' → Holds H' 24 u L2 → L2.length = (L.drop (dl0 dn L.length)).length → (∀ (j : Nat) (x y : List AV), L2[j]? = some x → (L.drop (dl0 dn L.length))[j]? = some y → EqE H' x y) → K u H') : WF Tryz.prog 8 [v, .int .i64 dn] H K := by
  refine WF_body Tryz.func8 (by kernel_rfl) rfl Tryz.ntmps8 (by rw [Tryz.results8]) (of_decide_eq_true (by kernel_rfl)) ?_
  by_cases c1 : dn < 0
  · rw [show dl0 dn L.length = 0 from if_pos c1] at hK
    obtain ⟨w, hsl0, hw⟩ := slice_all hv 0 (by omega)
    have hsl : ∀ G, evSlice Tryz.prog G 22 v (some 0) none none = some w := hsl0
    have hL1 : ∀ c ∈ L.drop 0, EvT c := fun c hc => hL c (List.mem_of_mem_drop hc)
    have hlen1 : (L.drop 0).length ≤ L.length := by simp
    generalize L.drop 0 = L1 at *
    simp (maxSteps := 1000000) only [sx, fx, ux, implies_true, evBuildSlice, fillE, fillA, Nat.reduceMul, Nat.reducePow, Nat.reduceSub, here, plain, laid, Nat.reduceBEq, evOp, avOf, avCell, strOf, UInt8.reduceToNat, evBin, evInt, evStr, evUn, Nat.reduceEqDiff, Nat.reduceLT, evResults, evResultsL, reduceCtorEq, Nat.reduceAdd, Heap.store, Nat.reduceLeDiff, wbool_off, after_scope, c1, (hv H).lenAt und22, optInt, hsl]
    refine callStep (f17_ok hF hw (fun c hc => (hL1 c hc).cells.1) (by omega) _ fun u H1 hU1 hF1 hO1 => ?_)
    simp (maxSteps := 1000000) only [sx, fx, ux, implies_true, evBuildSlice, fillE, fillA, Nat.reduceMul, Nat.reducePow, Nat.reduceSub, here, plain, laid, Nat.reduceBEq, evOp, avOf, avCell, strOf, UInt8.reduceToNat, evBin, evInt, evStr, evUn, Nat.reduceEqDiff, Nat.reduceLT, evResults, evResultsL, reduceCtorEq, Nat.reduceAdd, Heap.store, Nat.reduceLeDiff, wbool_off, after_scope, hO1.holds.lenAt und22]
    refine loopStep' (fun env H' => ∃ (i : Nat) (L2 : List (List AV)), i ≤ L1.length ∧ env.at (.tmp 21) = .int .i64 i ∧ env.at (.tmp 20) = .int .i64 L1.length ∧ env.at (.tmp 5) = u ∧ Own H H' 46 24 u L2 ∧ Mid H H' u L1 L2 i ∧ Up H H' ∧ Free H')
      (fun env H' => match env.at (.tmp 21) with | .int _ i => ((L1.length : Int) - i).toNat | _ => 0) ?_ ?_
    · exact ⟨0, L1, Nat.zero_le _, by simp only [sx, fx, ux, implies_true, evBuildSlice, fillE, fillA, Nat.reduceMul, Nat.reducePow, Nat.reduceSub, here, plain, laid, Nat.reduceBEq, evOp, avOf, avCell, strOf, UInt8.reduceToNat, evBin, evInt, evStr, evUn, Nat.reduceEqDiff, Nat.reduceLT, evResults, evResultsL, reduceCtorEq, Nat.reduceAdd, Heap.store, Nat.reduceLeDiff, wbool_off, after_scope]; rfl, by simp only [sx, fx, ux, implies_true, evBuildSlice, fillE, fillA, Nat.reduceMul, Nat.reducePow, Nat.reduceSub, here, plain, laid, Nat.reduceBEq, evOp, avOf, avCell, strOf, UInt8.reduceToNat, evBin, evInt, evStr, evUn, Nat.reduceEqDiff, Nat.reduceLT, evResults, evResultsL, reduceCtorEq, Nat.reduceAdd, Heap.store, Nat.reduceLeDiff, wbool_off, after_scope], by simp only [sx, fx, ux, implies_true, evBuildSlice, fillE, fillA, Nat.reduceMul, Nat.reducePow, Nat.reduceSub, here, plain, laid, Nat.reduceBEq, evOp, avOf, avCell, strOf, UInt8.reduceToNat, evBin, evInt, evStr, evUn, Nat.reduceEqDiff, Nat.reduceLT, evResults, evResultsL, reduceCtorEq, Nat.reduceAdd, Heap.store, Nat.reduceLeDiff, wbool_off, after_scope], hO1, ⟨rfl, fun j x y h => by omega, fun j _ => rfl⟩, hU1, hF1⟩
    · rintro env H' ⟨i, L2, hi, e21, e20, e5, hO, hM, hU, hF'⟩
      by_cases hlt : i < L1.length
      · obtain ⟨y, hy⟩ : ∃ y, L1[i]? = some y := ⟨_, List.getElem?_eq_getElem hlt⟩
        have hL2i : L2[i]? = some y := by rw [hM.2.2 i (Nat.le_refl _)]; exact hy
        have hi2 : i < L2.length := by rw [hM.1]; exact hlt
        obtain ⟨a, b, c, e, f, g, h', nm, ky, d, q, i1, i2, i3, i4, i5, i6, i7, i8, pw, M, n, hye, hd, hpw, hpm, hpM⟩ := evc_split (hL1 y (List.mem_of_getElem? hy))
        have hyc := (hL1 y (List.mem_of_getElem? hy)).cells
        have dl := hd.len
        have y9 : (y.drop 9).take 5 = d := by rw [hye]; exact take_app dl
        obtain ⟨ob, oex, og, oty, owg, hu, orow, ole, onew, oix, oown⟩ := own_at (P := Tryz.prog) hO und22 sz46 hi2
        have hru : rowOf u = some ob := by rw [hu]; rfl
        simp (maxSteps := 1000000) only [sx, fx, ux, implies_true, evBuildSlice, fillE, fillA, Nat.reduceMul, Nat.reducePow, Nat.reduceSub, here, plain, laid, Nat.reduceBEq, evOp, avOf, avCell, strOf, UInt8.reduceToNat, evBin, evInt, evStr, evUn, Nat.reduceEqDiff, Nat.reduceLT, evResults, evResultsL, reduceCtorEq, Nat.reduceAdd, Heap.store, Nat.reduceLeDiff, wbool_off, after_scope, e21, e20, e5, lt_true hlt, oix, orow, ole, hL2i, y9, hyc.2]
        refine callStep (copy_ok n H' d hd hF' _ fun d' H4 hEd hU4 hF4 => ?_)
        have dl' := hEd.len
        have dc' := hEd.cells
        have hO4 := hO.up hU4
        obtain ⟨ob4, oex4, og4, oty4, owg4, hu4, orow4, ole4, onew4, oix4, oown4⟩ := own_at (P := Tryz.prog) hO4 und22 sz46 hi2
        rw [hu] at hu4
        cases hu4
        have e4 := hU4 _ _ orow
        rw [orow4] at e4
        cases e4
        have hx1 : splice y 9 d' = evc a b c e f g h' nm ky d' (pol q i1 i2 i3 i4 i5 i6 i7 i8 pw) := by
          rw [hye]; simp [splice, evc, dl', drop_app dl]
        have hx1l : (evc a b c e f g h' nm ky d' (pol q i1 i2 i3 i4 i5 i6 i7 i8 pw)).length = 24 := by simp [evc, pol, dl']
        have hx1c : (evc a b c e f g h' nm ky d' (pol q i1 i2 i3 i4 i5 i6 i7 i8 pw)).all AV.isCell = true := by
          have h3 := holds_cell (hpw H)
          simp only [evc, List.all_cons, List.all_append, dc', pol, h3, List.all_nil]; rfl
        have hx1w : ((evc a b c e f g h' nm ky d' (pol q i1 i2 i3 i4 i5 i6 i7 i8 pw)).drop 23).take 1 = [pw] := by
          show ((d' ++ pol q i1 i2 i3 i4 i5 i6 i7 i8 pw).drop 14).take 1 = [pw]
          rw [show 14 = 5 + 9 from rfl, ← List.drop_drop, drop_app dl']; rfl
        have qO := oown4 _ hx1l hx1c
        simp (maxSteps := 1000000) only [sx, fx, ux, implies_true, evBuildSlice, fillE, fillA, Nat.reduceMul, Nat.reducePow, Nat.reduceSub, here, plain, laid, Nat.reduceBEq, evOp, avOf, avCell, strOf, UInt8.reduceToNat, evBin, evInt, evStr, evUn, Nat.reduceEqDiff, Nat.reduceLT, evResults, evResultsL, reduceCtorEq, Nat.reduceAdd, Heap.store, Nat.reduceLeDiff, wbool_off, after_scope, e21, e20, e5, oix4, orow4, ole4, hL2i, dl', dc', hx1, hyc.2]
        have hx2 : ∀ u3, splice (evc a b c e f g h' nm ky d' (pol q i1 i2 i3 i4 i5 i6 i7 i8 pw)) 23 [u3] = evc a b c e f g h' nm ky d' (pol q i1 i2 i3 i4 i5 i6 i7 i8 u3) := fun u3 => by
          obtain ⟨d0, d1, d2, d3, d4, rfl⟩ := five dl'
          rfl
        generalize evc a b c e f g h' nm ky d' (pol q i1 i2 i3 i4 i5 i6 i7 i8 pw) = x1 at *
        generalize hQ : H4.set ob (.row oty 24 (L2.set i x1) og og) = Q at *
        have hFQ : Free Q := hQ ▸ hF4.set (hF4.lt orow4) _
        have hUQ : Up H Q := hQ ▸ (hU.trans hU4).set onew4 _
        have hQo : ∀ c', c' ≠ ob → Q.blk c' = H4.blk c' := fun c' hc' => by rw [← hQ]; exact Heap.set_other _ _ _ hc'
        have hs1 : (L2.set i x1)[i]? = some x1 := List.getElem?_set_self hi2
        obtain ⟨ob5, oex5, og5, oty5, owg5, hu5, orow5, ole5, onew5, oix5, oown5⟩ := own_at (P := Tryz.prog) qO und22 sz46 (i := i) (by simpa using hi2)
        rw [hu] at hu5
        simp only [List.length_set] at hu5
        cases hu5
        simp (maxSteps := 1000000) only [sx, fx, ux, implies_true, evBuildSlice, fillE, fillA, Nat.reduceMul, Nat.reducePow, Nat.reduceSub, here, plain, laid, Nat.reduceBEq, evOp, avOf, avCell, strOf, UInt8.reduceToNat, evBin, evInt, evStr, evUn, Nat.reduceEqDiff, Nat.reduceLT, evResults, evResultsL, reduceCtorEq, Nat.reduceAdd, Heap.store, Nat.reduceLeDiff, wbool_off, after_scope, e21, e20, e5, oix5, orow5, ole5, hs1, hx1w, hx1l]
        refine callStep (f19_ok hFQ hpw hpM hpm _ fun u3 H5 hU5 hF5 oK => ?_)
        obtain ⟨p1, p2, p3⟩ := own_plain oK
        have hO5 := qO.up hU5
        obtain ⟨ob6, oex6, og6, oty6, owg6, hu6, orow6, ole6, onew6, oix6, oown6⟩ := own_at (P := Tryz.prog) hO5 und22 sz46 (i := i) (by simpa using hi2)
        rw [hu] at hu6
        simp only [List.length_set] at hu6
        cases hu6
        have e6 := hU5 _ _ orow5
        rw [orow6] at e6
        cases e6
        have hx2l : (evc a b c e f g h' nm ky d' (pol q i1 i2 i3 i4 i5 i6 i7 i8 u3)).length = 24 := by simp [evc, pol, dl']
        have hx2c : (evc a b c e f g h' nm ky d' (pol q i1 i2 i3 i4 i5 i6 i7 i8 u3)).all AV.isCell = true := by
          simp only [evc, List.all_cons, List.all_append, dc', pol, p3, List.all_nil]; rfl
        have rO := oown6 _ hx2l hx2c
        simp (maxSteps := 1000000) only [sx, fx, ux, implies_true, evBuildSlice, fillE, fillA, Nat.reduceMul, Nat.reducePow, Nat.reduceSub, here, plain, laid, Nat.reduceBEq, evOp, avOf, avCell, strOf, UInt8.reduceToNat, evBin, evInt, evStr, evUn, Nat.reduceEqDiff, Nat.reduceLT, evResults, evResultsL, reduceCtorEq, Nat.reduceAdd, Heap.store, Nat.reduceLeDiff, wbool_off, after_scope, e21, e20, e5, oix6, orow6, ole6, hs1, p1, p2, p3, hx2, hx1l, wrap_succ (i := i) (by omega)]
        have hkeep : ∀ x c' z, H.blk c' = none → c' ≠ ob → H5.blk c' = some z → (hbut (hn (H5.set ob x) H) (rowOf u)).blk c' = some z := fun x c' z h1 h2 h3 => by
          rw [but_blk (fun h => h2 (by rw [hru] at h; cases h; rfl))]
          exact hn_some.2 ⟨h1, by rw [Heap.set_other _ _ _ h2]; exact h3⟩
        have hup1 : ∀ x, Up (hbut (hn H' H) (rowOf u)) (hbut (hn (H5.set ob x) H) (rowOf u)) := fun x c' z hz => by
          have hne : c' ≠ ob := fun h => by simp only [hbut] at hz; rw [if_pos (by rw [hru, h])] at hz; cases hz
          rw [but_blk (fun h => hne (by rw [hru] at h; cases h; rfl))] at hz
          obtain ⟨z1, z2⟩ := hn_some.1 hz
          exact hkeep x c' z z1 hne (hU5 _ _ (by rw [hQo _ hne]; exact hU4 _ _ z2))
        have hup2 : ∀ x, Up (hn H4 H') (hbut (hn (H5.set ob x) H) (rowOf u)) := fun x c' z hz => by
          obtain ⟨z1, z2⟩ := hn_some.1 hz
          have hne : c' ≠ ob := fun h => by rw [h, orow] at z1; cases z1
          exact hkeep x c' z (hU.fresh z1) hne (hU5 _ _ (by rw [hQo _ hne]; exact z2))
        have hup3 : ∀ x, Up (hn H5 Q) (hbut (hn (H5.set ob x) H) (rowOf u)) := fun x c' z hz => by
          obtain ⟨z1, z2⟩ := hn_some.1 hz
          have hne : c' ≠ ob := fun h => by rw [h, orow5] at z1; cases z1
          exact hkeep x c' z (hUQ.fresh z1) hne z2
        refine ⟨⟨i + 1, _, hlt, rfl, rO, mid_next hM hy (hup1 _) ⟨a, b, c, e, f, g, h', nm, ky, d', d, _, _, n, rfl, hye, hEd.up (hup2 _), ⟨q, i1, i2, i3, i4, i5, i6, i7, i8, u3, pw, M, rfl, rfl, (own_hn oK).up (hup3 _), hpw, hpm, hpM⟩, dl, rfl⟩, (hUQ.trans hU5).set onew6 _, hF5.set (hF5.lt orow6) _⟩, ?_⟩
        omega
      · obtain rfl : i = L1.length := by omega
        simp (maxSteps := 1000000) only [sx, fx, ux, implies_true, evBuildSlice, fillE, fillA, Nat.reduceMul, Nat.reducePow, Nat.reduceSub, here, plain, laid, Nat.reduceBEq, evOp, avOf, avCell, strOf, UInt8.reduceToNat, evBin, evInt, evStr, evUn, Nat.reduceEqDiff, Nat.reduceLT, evResults, evResultsL, reduceCtorEq, Nat.reduceAdd, Heap.store, Nat.reduceLeDiff, wbool_off, after_scope, e21, e20, e5, lt_false hlt]
        refine hK u L2 H' hU hF' hO.holds hM.1 fun j x z hx hz => (hM.2.1 j x z ?_ hx hz).up (but_up.trans hn_le)
        exact (List.getElem?_eq_some_iff.1 hz).1
  · by_cases c2 : dn > (L.length : Int)
    · rw [show dl0 dn L.length = 0 by unfold dl0; rw [if_neg c1, if_pos c2]] at hK
      obtain ⟨w, hsl0, hw⟩ := slice_all hv 0 (by omega)
      have hsl : ∀ G, evSlice Tryz.prog G 22 v (some 0) none none = some w := hsl0
      have hL1 : ∀ c ∈ L.drop 0, EvT c := fun c hc => hL c (List.mem_of_mem_drop hc)
      have hlen1 : (L.drop 0).length ≤ L.length := by simp
      generalize L.drop 0 = L1 at *
      simp (maxSteps := 1000000) only [sx, fx, ux, implies_true, evBuildSlice, fillE, fillA, Nat.reduceMul, Nat.reducePow, Nat.reduceSub, here, plain, laid, Nat.reduceBEq, evOp, avOf, avCell, strOf, UInt8.reduceToNat, evBin, evInt, evStr, evUn, Nat.reduceEqDiff, Nat.reduceLT, evResults, evResultsL, reduceCtorEq, Nat.reduceAdd, Heap.store, Nat.reduceLeDiff, wbool_off, after_scope, c1, c2, (hv H).lenAt und22, optInt, hsl]
      refine callStep (f17_ok hF hw (fun c hc => (hL1 c hc).cells.1) (by omega) _ fun u H1 hU1 hF1 hO1 => ?_)
      simp (maxSteps := 1000000) only [sx, fx, ux, implies_true, evBuildSlice, fillE, fillA, Nat.reduceMul, Nat.reducePow, Nat.reduceSub, here, plain, laid, Nat.reduceBEq, evOp, avOf, avCell, strOf, UInt8.reduceToNat, evBin, evInt, evStr, evUn, Nat.reduceEqDiff, Nat.reduceLT, evResults, evResultsL, reduceCtorEq, Nat.reduceAdd, Heap.store, Nat.reduceLeDiff, wbool_off, after_scope, hO1.holds.lenAt und22]
      refine loopStep' (fun env H' => ∃ (i : Nat) (L2 : List (List AV)), i ≤ L1.length ∧ env.at (.tmp 21) = .int .i64 i ∧ env.at (.tmp 20) = .int .i64 L1.length ∧ env.at (.tmp 5) = u ∧ Own H H' 46 24 u L2 ∧ Mid H H' u L1 L2 i ∧ Up H H' ∧ Free H')
        (fun env H' => match env.at (.tmp 21) with | .int _ i => ((L1.length : Int) - i).toNat | _ => 0) ?_ ?_
      · exact ⟨0, L1, Nat.zero_le _, by simp only [sx, fx, ux, implies_true, evBuildSlice, fillE, fillA, Nat.reduceMul, Nat.reducePow, Nat.reduceSub, here, plain, laid, Nat.reduceBEq, evOp, avOf, avCell, strOf, UInt8.reduceToNat, evBin, evInt, evStr, evUn, Nat.reduceEqDiff, Nat.reduceLT, evResults, evResultsL, reduceCtorEq, Nat.reduceAdd, Heap.store, Nat.reduceLeDiff, wbool_off, after_scope]; rfl, by simp only [sx, fx, ux, implies_true, evBuildSlice, fillE, fillA, Nat.reduceMul, Nat.reducePow, Nat.reduceSub, here, plain, laid, Nat.reduceBEq, evOp, avOf, avCell, strOf, UInt8.reduceToNat, evBin, evInt, evStr, evUn, Nat.reduceEqDiff, Nat.reduceLT, evResults, evResultsL, reduceCtorEq, Nat.reduceAdd, Heap.store, Nat.reduceLeDiff, wbool_off, after_scope], by simp only [sx, fx, ux, implies_true, evBuildSlice, fillE, fillA, Nat.reduceMul, Nat.reducePow, Nat.reduceSub, here, plain, laid, Nat.reduceBEq, evOp, avOf, avCell, strOf, UInt8.reduceToNat, evBin, evInt, evStr, evUn, Nat.reduceEqDiff, Nat.reduceLT, evResults, evResultsL, reduceCtorEq, Nat.reduceAdd, Heap.store, Nat.reduceLeDiff, wbool_off, after_scope], hO1, ⟨rfl, fun j x y h => by omega, fun j _ => rfl⟩, hU1, hF1⟩
      · rintro env H' ⟨i, L2, hi, e21, e20, e5, hO, hM, hU, hF'⟩
        by_cases hlt : i < L1.length
        · obtain ⟨y, hy⟩ : ∃ y, L1[i]? = some y := ⟨_, List.getElem?_eq_getElem hlt⟩
          have hL2i : L2[i]? = some y := by rw [hM.2.2 i (Nat.le_refl _)]; exact hy
          have hi2 : i < L2.length := by rw [hM.1]; exact hlt
          obtain ⟨a, b, c, e, f, g, h', nm, ky, d, q, i1, i2, i3, i4, i5, i6, i7, i8, pw, M, n, hye, hd, hpw, hpm, hpM⟩ := evc_split (hL1 y (List.mem_of_getElem? hy))
          have hyc := (hL1 y (List.mem_of_getElem? hy)).cells
          have dl := hd.len
          have y9 : (y.drop 9).take 5 = d := by rw [hye]; exact take_app dl
          obtain ⟨ob, oex, og, oty, owg, hu, orow, ole, onew, oix, oown⟩ := own_at (P := Tryz.prog) hO und22 sz46 hi2
          have hru : rowOf u = some ob := by rw [hu]; rfl
          simp (maxSteps := 1000000) only [sx, fx, ux, implies_true, evBuildSlice, fillE, fillA, Nat.reduceMul, Nat.reducePow, Nat.reduceSub, here, plain, laid, Nat.reduceBEq, evOp, avOf, avCell, strOf, UInt8.reduceToNat, evBin, evInt, evStr, evUn, Nat.reduceEqDiff, Nat.reduceLT, evResults, evResultsL, reduceCtorEq, Nat.reduceAdd, Heap.store, Nat.reduceLeDiff, wbool_off, after_scope, e21, e20, e5, lt_true hlt, oix, orow, ole, hL2i, y9, hyc.2]
          refine callStep (copy_ok n H' d hd hF' _ fun d' H4 hEd hU4 hF4 => ?_)
          have dl' := hEd.len
          have dc' := hEd.cells
          have hO4 := hO.up hU4
          obtain ⟨ob4, oex4, og4, oty4, owg4, hu4, orow4, ole4, onew4, oix4, oown4⟩ := own_at (P := Tryz.prog) hO4 und22 sz46 hi2
          rw [hu] at hu4
          cases hu4
          have e4 := hU4 _ _ orow
          rw [orow4] at e4
          cases e4
          have hx1 : splice y 9 d' = evc a b c e f g h' nm ky d' (pol q i1 i2 i3 i4 i5 i6 i7 i8 pw) := by
            rw [hye]; simp [splice, evc, dl', drop_app dl]
          have hx1l : (evc a b c e f g h' nm ky d' (pol q i1 i2 i3 i4 i5 i6 i7 i8 pw)).length = 24 := by simp [evc, pol, dl']
          have hx1c : (evc a b c e f g h' nm ky d' (pol q i1 i2 i3 i4 i5 i6 i7 i8 pw)).all AV.isCell = true := by
            have h3 := holds_cell (hpw H)
            simp only [evc, List.all_cons, List.all_append, dc', pol, h3, List.all_nil]; rfl
          have hx1w : ((evc a b c e f g h' nm ky d' (pol q i1 i2 i3 i4 i5 i6 i7 i8 pw)).drop 23).take 1 = [pw] := by
            show ((d' ++ pol q i1 i2 i3 i4 i5 i6 i7 i8 pw).drop 14).take 1 = [pw]
            rw [show 14 = 5 + 9 from rfl, ← List.drop_drop, drop_app dl']; rfl
          have qO := oown4 _ hx1l hx1c
          simp (maxSteps := 1000000) only [sx, fx, ux, implies_true, evBuildSlice, fillE, fillA, Nat.reduceMul, Nat.reducePow, Nat.reduceSub, here, plain, laid, Nat.reduceBEq, evOp, avOf, avCell, strOf, UInt8.reduceToNat, evBin, evInt, evStr, evUn, Nat.reduceEqDiff, Nat.reduceLT, evResults, evResultsL, reduceCtorEq, Nat.reduceAdd, Heap.store, Nat.reduceLeDiff, wbool_off, after_scope, e21, e20, e5, oix4, orow4, ole4, hL2i, dl', dc', hx1, hyc.2]
          have hx2 : ∀ u3, splice (evc a b c e f g h' nm ky d' (pol q i1 i2 i3 i4 i5 i6 i7 i8 pw)) 23 [u3] = evc a b c e f g h' nm ky d' (pol q i1 i2 i3 i4 i5 i6 i7 i8 u3) := fun u3 => by
            obtain ⟨d0, d1, d2, d3, d4, rfl⟩ := five dl'
            rfl
          generalize evc a b c e f g h' nm ky d' (pol q i1 i2 i3 i4 i5 i6 i7 i8 pw) = x1 at *
          generalize hQ : H4.set ob (.row oty 24 (L2.set i x1) og og) = Q at *
          have hFQ : Free Q := hQ ▸ hF4.set (hF4.lt orow4) _
          have hUQ : Up H Q := hQ ▸ (hU.trans hU4).set onew4 _
          have hQo : ∀ c', c' ≠ ob → Q.blk c' = H4.blk c' := fun c' hc' => by rw [← hQ]; exact Heap.set_other _ _ _ hc'
          have hs1 : (L2.set i x1)[i]? = some x1 := List.getElem?_set_self hi2
          obtain ⟨ob5, oex5, og5, oty5, owg5, hu5, orow5, ole5, onew5, oix5, oown5⟩ := own_at (P := Tryz.prog) qO und22 sz46 (i := i) (by simpa using hi2)
          rw [hu] at hu5
          simp only [List.length_set] at hu5
          cases hu5
          simp (maxSteps := 1000000) only [sx, fx, ux, implies_true, evBuildSlice, fillE, fillA, Nat.reduceMul, Nat.reducePow, Nat.reduceSub, here, plain, laid, Nat.reduceBEq, evOp, avOf, avCell, strOf, UInt8.reduceToNat, evBin, evInt, evStr, evUn, Nat.reduceEqDiff, Nat.reduceLT, evResults, evResultsL, reduceCtorEq, Nat.reduceAdd, Heap.store, Nat.reduceLeDiff, wbool_off, after_scope, e21, e20, e5, oix5, orow5, ole5, hs1, hx1w, hx1l]
          refine callStep (f19_ok hFQ hpw hpM hpm _ fun u3 H5 hU5 hF5 oK => ?_)
          obtain ⟨p1, p2, p3⟩ := own_plain oK
          have hO5 := qO.up hU5
          obtain ⟨ob6, oex6, og6, oty6, owg6, hu6, orow6, ole6, onew6, oix6, oown6⟩ := own_at (P := Tryz.prog) hO5 und22 sz46 (i := i) (by simpa using hi2)
          rw [hu] at hu6
          simp only [List.length_set] at hu6
          cases hu6
          have e6 := hU5 _ _ orow5
          rw [orow6] at e6
          cases e6
          have hx2l : (evc a b c e f g h' nm ky d' (pol q i1 i2 i3 i4 i5 i6 i7 i8 u3)).length = 24 := by simp [evc, pol, dl']
          have hx2c : (evc a b c e f g h' nm ky d' (pol q i1 i2 i3 i4 i5 i6 i7 i8 u3)).all AV.isCell = true := by
            simp only [evc, List.all_cons, List.all_append, dc', pol, p3, List.all_nil]; rfl
          have rO := oown6 _ hx2l hx2c
          simp (maxSteps := 1000000) only [sx, fx, ux, implies_true, evBuildSlice, fillE, fillA, Nat.reduceMul, Nat.reducePow, Nat.reduceSub, here, plain, laid, Nat.reduceBEq, evOp, avOf, avCell, strOf, UInt8.reduceToNat, evBin, evInt, evStr, evUn, Nat.reduceEqDiff, Nat.reduceLT, evResults, evResultsL, reduceCtorEq, Nat.reduceAdd, Heap.store, Nat.reduceLeDiff, wbool_off, after_scope, e21, e20, e5, oix6, orow6, ole6, hs1, p1, p2, p3, hx2, hx1l, wrap_succ (i := i) (by omega)]
          have hkeep : ∀ x c' z, H.blk c' = none → c' ≠ ob → H5.blk c' = some z → (hbut (hn (H5.set ob x) H) (rowOf u)).blk c' = some z := fun x c' z h1 h2 h3 => by
            rw [but_blk (fun h => h2 (by rw [hru] at h; cases h; rfl))]
            exact hn_some.2 ⟨h1, by rw [Heap.set_other _ _ _ h2]; exact h3⟩
          have hup1 : ∀ x, Up (hbut (hn H' H) (rowOf u)) (hbut (hn (H5.set ob x) H) (rowOf u)) := fun x c' z hz => by
            have hne : c' ≠ ob := fun h => by simp only [hbut] at hz; rw [if_pos (by rw [hru, h])] at hz; cases hz
            rw [but_blk (fun h => hne (by rw [hru] at h; cases h; rfl))] at hz
            obtain ⟨z1, z2⟩ := hn_some.1 hz
            exact hkeep x c' z z1 hne (hU5 _ _ (by rw [hQo _ hne]; exact hU4 _ _ z2))
          have hup2 : ∀ x, Up (hn H4 H') (hbut (hn (H5.set ob x) H) (rowOf u)) := fun x c' z hz => by
            obtain ⟨z1, z2⟩ := hn_some.1 hz
            have hne : c' ≠ ob := fun h => by rw [h, orow] at z1; cases z1
            exact hkeep x c' z (hU.fresh z1) hne (hU5 _ _ (by rw [hQo _ hne]; exact z2))
          have hup3 : ∀ x, Up (hn H5 Q) (hbut (hn (H5.set ob x) H) (rowOf u)) := fun x c' z hz => by
            obtain ⟨z1, z2⟩ := hn_some.1 hz
            have hne : c' ≠ ob := fun h => by rw [h, orow5] at z1; cases z1
            exact hkeep x c' z (hUQ.fresh z1) hne z2
          refine ⟨⟨i + 1, _, hlt, rfl, rO, mid_next hM hy (hup1 _) ⟨a, b, c, e, f, g, h', nm, ky, d', d, _, _, n, rfl, hye, hEd.up (hup2 _), ⟨q, i1, i2, i3, i4, i5, i6, i7, i8, u3, pw, M, rfl, rfl, (own_hn oK).up (hup3 _), hpw, hpm, hpM⟩, dl, rfl⟩, (hUQ.trans hU5).set onew6 _, hF5.set (hF5.lt orow6) _⟩, ?_⟩
          omega
        · obtain rfl : i = L1.length := by omega
          simp (maxSteps := 1000000) only [sx, fx, ux, implies_true, evBuildSlice, fillE, fillA, Nat.reduceMul, Nat.reducePow, Nat.reduceSub, here, plain, laid, Nat.reduceBEq, evOp, avOf, avCell, strOf, UInt8.reduceToNat, evBin, evInt, evStr, evUn, Nat.reduceEqDiff, Nat.reduceLT, evResults, evResultsL, reduceCtorEq, Nat.reduceAdd, Heap.store, Nat.reduceLeDiff, wbool_off, after_scope, e21, e20, e5, lt_false hlt]
          refine hK u L2 H' hU hF' hO.holds hM.1 fun j x z hx hz => (hM.2.1 j x z ?_ hx hz).up (but_up.trans hn_le)
          exact (List.getElem?_eq_some_iff.1 hz).1
    · obtain ⟨m, rfl⟩ := Int.eq_ofNat_of_zero_le (show 0 ≤ dn by omega)
      rw [show dl0 (m : Int) L.length = m by unfold dl0; rw [if_neg c1, if_neg c2]; rfl] at hK
      obtain ⟨w, hsl, hw⟩ := slice_all hv m (by omega)
      have hL1 : ∀ c ∈ L.drop m, EvT c := fun c hc => hL c (List.mem_of_mem_drop hc)
      have hlen1 : (L.drop m).length ≤ L.length := by simp
      generalize L.drop m = L1 at *
      simp (maxSteps := 1000000) only [sx, fx, ux, implies_true, evBuildSlice, fillE, fillA, Nat.reduceMul, Nat.reducePow, Nat.reduceSub, here, plain, laid, Nat.reduceBEq, evOp, avOf, avCell, strOf, UInt8.reduceToNat, evBin, evInt, evStr, evUn, Nat.reduceEqDiff, Nat.reduceLT, evResults, evResultsL, reduceCtorEq, Nat.reduceAdd, Heap.store, Nat.reduceLeDiff, wbool_off, after_scope, c1, c2, (hv H).lenAt und22, optInt, hsl]
      refine callStep (f17_ok hF hw (fun c hc => (hL1 c hc).cells.1) (by omega) _ fun u H1 hU1 hF1 hO1 => ?_)
      simp (maxSteps := 1000000) only [sx, fx, ux, implies_true, evBuildSlice, fillE, fillA, Nat.reduceMul, Nat.reducePow, Nat.reduceSub, here, plain, laid, Nat.reduceBEq, evOp, avOf, avCell, strOf, UInt8.reduceToNat, evBin, evInt, evStr, evUn, Nat.reduceEqDiff, Nat.reduceLT, evResults, evResultsL, reduceCtorEq, Nat.reduceAdd, Heap.store, Nat.reduceLeDiff, wbool_off, after_scope, hO1.holds.lenAt und22]
      refine loopStep' (fun env H' => ∃ (i : Nat) (L2 : List (List AV)), i ≤ L1.length ∧ env.at (.tmp 21) = .int .i64 i ∧ env.at (.tmp 20) = .int .i64 L1.length ∧ env.at (.tmp 5) = u ∧ Own H H' 46 24 u L2 ∧ Mid H H' u L1 L2 i ∧ Up H H' ∧ Free H')
        (fun env H' => match env.at (.tmp 21) with | .int _ i => ((L1.length : Int) - i).toNat | _ => 0) ?_ ?_
      · exact ⟨0, L1, Nat.zero_le _, by simp only [sx, fx, ux, implies_true, evBuildSlice, fillE, fillA, Nat.reduceMul, Nat.reducePow, Nat.reduceSub, here, plain, laid, Nat.reduceBEq, evOp, avOf, avCell, strOf, UInt8.reduceToNat, evBin, evInt, evStr, evUn, Nat.reduceEqDiff, Nat.reduceLT, evResults, evResultsL, reduceCtorEq, Nat.reduceAdd, Heap.store, Nat.reduceLeDiff, wbool_off, after_scope]; rfl, by simp only [sx, fx, ux, implies_true, evBuildSlice, fillE, fillA, Nat.reduceMul, Nat.reducePow, Nat.reduceSub, here, plain, laid, Nat.reduceBEq, evOp, avOf, avCell, strOf, UInt8.reduceToNat, evBin, evInt, evStr, evUn, Nat.reduceEqDiff, Nat.reduceLT, evResults, evResultsL, reduceCtorEq, Nat.reduceAdd, Heap.store, Nat.reduceLeDiff, wbool_off, after_scope], by simp only [sx, fx, ux, implies_true, evBuildSlice, fillE, fillA, Nat.reduceMul, Nat.reducePow, Nat.reduceSub, here, plain, laid, Nat.reduceBEq, evOp, avOf, avCell, strOf, UInt8.reduceToNat, evBin, evInt, evStr, evUn, Nat.reduceEqDiff, Nat.reduceLT, evResults, evResultsL, reduceCtorEq, Nat.reduceAdd, Heap.store, Nat.reduceLeDiff, wbool_off, after_scope], hO1, ⟨rfl, fun j x y h => by omega, fun j _ => rfl⟩, hU1, hF1⟩
      · rintro env H' ⟨i, L2, hi, e21, e20, e5, hO, hM, hU, hF'⟩
        by_cases hlt : i < L1.length
        · obtain ⟨y, hy⟩ : ∃ y, L1[i]? = some y := ⟨_, List.getElem?_eq_getElem hlt⟩
          have hL2i : L2[i]? = some y := by rw [hM.2.2 i (Nat.le_refl _)]; exact hy
          have hi2 : i < L2.length := by rw [hM.1]; exact hlt
          obtain ⟨a, b, c, e, f, g, h', nm, ky, d, q, i1, i2, i3, i4, i5, i6, i7, i8, pw, M, n, hye, hd, hpw, hpm, hpM⟩ := evc_split (hL1 y (List.mem_of_getElem? hy))
          have hyc := (hL1 y (List.mem_of_getElem? hy)).cells
          have dl := hd.len
          have y9 : (y.drop 9).take 5 = d := by rw [hye]; exact take_app dl
          obtain ⟨ob, oex, og, oty, owg, hu, orow, ole, onew, oix, oown⟩ := own_at (P := Tryz.prog) hO und22 sz46 hi2
          have hru : rowOf u = some ob := by rw [hu]; rfl
          simp (maxSteps := 1000000) only [sx, fx, ux, implies_true, evBuildSlice, fillE, fillA, Nat.reduceMul, Nat.reducePow, Nat.reduceSub, here, plain, laid, Nat.reduceBEq, evOp, avOf, avCell, strOf, UInt8.reduceToNat, evBin, evInt, evStr, evUn, Nat.reduceEqDiff, Nat.reduceLT, evResults, evResultsL, reduceCtorEq, Nat.reduceAdd, Heap.store, Nat.reduceLeDiff, wbool_off, after_scope, e21, e20, e5, lt_true hlt, oix, orow, ole, hL2i, y9, hyc.2]
          refine callStep (copy_ok n H' d hd hF' _ fun d' H4 hEd hU4 hF4 => ?_)
          have dl' := hEd.len
          have dc' := hEd.cells
          have hO4 := hO.up hU4
          obtain ⟨ob4, oex4, og4, oty4, owg4, hu4, orow4, ole4, onew4, oix4, oown4⟩ := own_at (P := Tryz.prog) hO4 und22 sz46 hi2
          rw [hu] at hu4
          cases hu4
          have e4 := hU4 _ _ orow
          rw [orow4] at e4
          cases e4
          have hx1 : splice y 9 d' = evc a b c e f g h' nm ky d' (pol q i1 i2 i3 i4 i5 i6 i7 i8 pw) := by
            rw [hye]; simp [splice, evc, dl', drop_app dl]
          have hx1l : (evc a b c e f g h' nm ky d' (pol q i1 i2 i3 i4 i5 i6 i7 i8 pw)).length = 24 := by simp [evc, pol, dl']
          have hx1c : (evc a b c e f g h' nm ky d' (pol q i1 i2 i3 i4 i5 i6 i7 i8 pw)).all AV.isCell = true := by
            have h3 := holds_cell (hpw H)
            simp only [evc, List.all_cons, List.all_append, dc', pol, h3, List.all_nil]; rfl
          have hx1w : ((evc a b c e f g h' nm ky d' (pol q i1 i2 i3 i4 i5 i6 i7 i8 pw)).drop 23).take 1 = [pw] := by
            show ((d' ++ pol q i1 i2 i3 i4 i5 i6 i7 i8 pw).drop 14).take 1 = [pw]
            rw [show 14 = 5 + 9 from rfl, ← List.drop_drop, drop_app dl']; rfl
          have qO := oown4 _ hx1l hx1c
          simp (maxSteps := 1000000) only [sx, fx, ux, implies_true, evBuildSlice, fillE, fillA, Nat.reduceMul, Nat.reducePow, Nat.reduceSub, here, plain, laid, Nat.reduceBEq, evOp, avOf, avCell, strOf, UInt8.reduceToNat, evBin, evInt, evStr, evUn, Nat.reduceEqDiff, Nat.reduceLT, evResults, evResultsL, reduceCtorEq, Nat.reduceAdd, Heap.store, Nat.reduceLeDiff, wbool_off, after_scope, e21, e20, e5, oix4, orow4, ole4, hL2i, dl', dc', hx1, hyc.2]
          have hx2 : ∀ u3, splice (evc a b c e f g h' nm ky d' (pol q i1 i2 i3 i4 i5 i6 i7 i8 pw)) 23 [u3] = evc a b c e f g h' nm ky d' (pol q i1 i2 i3 i4 i5 i6 i7 i8 u3) := fun u3 => by
            obtain ⟨d0, d1, d2, d3, d4, rfl⟩ := five dl'
            rfl
          generalize evc a b c e f g h' nm ky d' (pol q i1 i2 i3 i4 i5 i6 i7 i8 pw) = x1 at *
          generalize hQ : H4.set ob (.row oty 24 (L2.set i x1) og og) = Q at *
          have hFQ : Free Q := hQ ▸ hF4.set (hF4.lt orow4) _
          have hUQ : Up H Q := hQ ▸ (hU.trans hU4).set onew4 _
          have hQo : ∀ c', c' ≠ ob → Q.blk c' = H4.blk c' := fun c' hc' => by rw [← hQ]; exact Heap.set_other _ _ _ hc'
          have hs1 : (L2.set i x1)[i]? = some x1 := List.getElem?_set_self hi2
          obtain ⟨ob5, oex5, og5, oty5, owg5, hu5, orow5, ole5, onew5, oix5, oown5⟩ := own_at (P := Tryz.prog) qO und22 sz46 (i := i) (by simpa using hi2)
          rw [hu] at hu5
          simp only [List.length_set] at hu5
          cases hu5
          simp (maxSteps := 1000000) only [sx, fx, ux, implies_true, evBuildSlice, fillE, fillA, Nat.reduceMul, Nat.reducePow, Nat.reduceSub, here, plain, laid, Nat.reduceBEq, evOp, avOf, avCell, strOf, UInt8.reduceToNat, evBin, evInt, evStr, evUn, Nat.reduceEqDiff, Nat.reduceLT, evResults, evResultsL, reduceCtorEq, Nat.reduceAdd, Heap.store, Nat.reduceLeDiff, wbool_off, after_scope, e21, e20, e5, oix5, orow5, ole5, hs1, hx1w, hx1l]
          refine callStep (f19_ok hFQ hpw hpM hpm _ fun u3 H5 hU5 hF5 oK => ?_)
          obtain ⟨p1, p2, p3⟩ := own_plain oK
          have hO5 := qO.up hU5
          obtain ⟨ob6, oex6, og6, oty6, owg6, hu6, orow6, ole6, onew6, oix6, oown6⟩ := own_at (P := Tryz.prog) hO5 und22 sz46 (i := i) (by simpa using hi2)
          rw [hu] at hu6
          simp only [List.length_set] at hu6
          cases hu6
          have e6 := hU5 _ _ orow5
          rw [orow6] at e6
          cases e6
          have hx2l : (evc a b c e f g h' nm ky d' (pol q i1 i2 i3 i4 i5 i6 i7 i8 u3)).length = 24 := by simp [evc, pol, dl']
          have hx2c : (evc a b c e f g h' nm ky d' (pol q i1 i2 i3 i4 i5 i6 i7 i8 u3)).all AV.isCell = true := by
            simp only [evc, List.all_cons, List.all_append, dc', pol, p3, List.all_nil]; rfl
          have rO := oown6 _ hx2l hx2c
          simp (maxSteps := 1000000) only [sx, fx, ux, implies_true, evBuildSlice, fillE, fillA, Nat.reduceMul, Nat.reducePow, Nat.reduceSub, here, plain, laid, Nat.reduceBEq, evOp, avOf, avCell, strOf, UInt8.reduceToNat, evBin, evInt, evStr, evUn, Nat.reduceEqDiff, Nat.reduceLT, evResults, evResultsL, reduceCtorEq, Nat.reduceAdd, Heap.store, Nat.reduceLeDiff, wbool_off, after_scope, e21, e20, e5, oix6, orow6, ole6, hs1, p1, p2, p3, hx2, hx1l, wrap_succ (i := i) (by omega)]
          have hkeep : ∀ x c' z, H.blk c' = none → c' ≠ ob → H5.blk c' = some z → (hbut (hn (H5.set ob x) H) (rowOf u)).blk c' = some z := fun x c' z h1 h2 h3 => by
            rw [but_blk (fun h => h2 (by rw [hru] at h; cases h; rfl))]
            exact hn_some.2 ⟨h1, by rw [Heap.set_other _ _ _ h2]; exact h3⟩
          have hup1 : ∀ x, Up (hbut (hn H' H) (rowOf u)) (hbut (hn (H5.set ob x) H) (rowOf u)) := fun x c' z hz => by
            have hne : c' ≠ ob := fun h => by simp only [hbut] at hz; rw [if_pos (by rw [hru, h])] at hz; cases hz
            rw [but_blk (fun h => hne (by rw [hru] at h; cases h; rfl))] at hz
            obtain ⟨z1, z2⟩ := hn_some.1 hz
            exact hkeep x c' z z1 hne (hU5 _ _ (by rw [hQo _ hne]; exact hU4 _ _ z2))
          have hup2 : ∀ x, Up (hn H4 H') (hbut (hn (H5.set ob x) H) (rowOf u)) := fun x c' z hz => by
            obtain ⟨z1, z2⟩ := hn_some.1 hz
            have hne : c' ≠ ob := fun h => by rw [h, orow] at z1; cases z1
            exact hkeep x c' z (hU.fresh z1) hne (hU5 _ _ (by rw [hQo _ hne]; exact z2))
          have hup3 : ∀ x, Up (hn H5 Q) (hbut (hn (H5.set ob x) H) (rowOf u)) := fun x c' z hz => by
            obtain ⟨z1, z2⟩ := hn_some.1 hz
            have hne : c' ≠ ob := fun h => by rw [h, orow5] at z1; cases z1
            exact hkeep x c' z (hUQ.fresh z1) hne z2
          refine ⟨⟨i + 1, _, hlt, rfl, rO, mid_next hM hy (hup1 _) ⟨a, b, c, e, f, g, h', nm, ky, d', d, _, _, n, rfl, hye, hEd.up (hup2 _), ⟨q, i1, i2, i3, i4, i5, i6, i7, i8, u3, pw, M, rfl, rfl, (own_hn oK).up (hup3 _), hpw, hpm, hpM⟩, dl, rfl⟩, (hUQ.trans hU5).set onew6 _, hF5.set (hF5.lt orow6) _⟩, ?_⟩
          omega
        · obtain rfl : i = L1.length := by omega
          simp (maxSteps := 1000000) only [sx, fx, ux, implies_true, evBuildSlice, fillE, fillA, Nat.reduceMul, Nat.reducePow, Nat.reduceSub, here, plain, laid, Nat.reduceBEq, evOp, avOf, avCell, strOf, UInt8.reduceToNat, evBin, evInt, evStr, evUn, Nat.reduceEqDiff, Nat.reduceLT, evResults, evResultsL, reduceCtorEq, Nat.reduceAdd, Heap.store, Nat.reduceLeDiff, wbool_off, after_scope, e21, e20, e5, lt_false hlt]
          refine hK u L2 H' hU hF' hO.holds hM.1 fun j x z hx hz => (hM.2.1 j x z ?_ hx hz).up (but_up.trans hn_le)
          exact (List.getElem?_eq_some_iff.1 hz).1
end Go.Proofs.T
