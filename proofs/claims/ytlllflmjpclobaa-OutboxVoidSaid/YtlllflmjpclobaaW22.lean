import Derived.Test.YtlllflmjpclobaaW21
set_option linter.unusedVariables false
set_option linter.unusedSimpArgs false
set_option linter.unusedVariables false
set_option linter.unusedSimpArgs false
set_option maxRecDepth 100000
namespace Go.Proofs.T
open Go.Ev

theorem runC_splice {pc : List AV} (h : pc.length = 24) : splice [AV.str [], AV.str [], AV.str [], AV.int IntKind.i64 0, AV.nilslice, AV.int IntKind.i64 0, AV.int IntKind.i64 0, AV.int IntKind.i64 0, AV.int IntKind.i64 0, AV.int IntKind.i64 0, AV.int IntKind.i64 0, AV.str [], AV.int IntKind.i64 0, AV.int IntKind.i64 0, AV.str [], AV.nilslice, AV.nilslice, AV.int IntKind.i64 0, AV.int IntKind.i64 0, AV.str [], AV.nilslice, AV.nilslice, AV.bool false, AV.nilslice, AV.nilslice, AV.nilslice, AV.nilslice, AV.nilslice, AV.nilslice, AV.nilslice, AV.nilslice, AV.nilslice, AV.int IntKind.i64 0, AV.int IntKind.i64 0] 5 pc = runC [] [] pc := by simp [splice, runC, h]
theorem boolEq {a b : Bool} : eqA Try.prog 10000 4 (.bool a) (.bool b) = some (a == b) := by rw [show (10000 : Nat) = 9999 + 1 from rfl]; simp [eqA, und4]
theorem tk9 {tid k tev tsq due att : Int} {wf rn q : List Nat} : (task tid k tev tsq due att wf rn q).length = 9 := rfl

set_option maxHeartbeats 16000000 in
theorem f6_ok {v : AV} {L : List (List AV)} {tid k tev tsq due att : Int} {wf rn q : List Nat} {s ev : Int} {nm : List Nat} {d o : List AV} {x5 x6 x7 x8 x9 x10 x11 : Int} {cn : Bool} {dt : List AV} {fl : List Nat} {n1 n2 : Nat} {H : Heap} (hF : Free H) (hv : ∀ H, Holds H 24 v L) (hL : ∀ cs ∈ L, ∃ e, cs = ES.cells e ∧ EB e) (hn : L.length < 2 ^ 60)
    (hnm : nm.length < 2 ^ 60) (hfl : fl.length < 2 ^ 60) (hd : ValB n1 d) (hdt : ValB n2 dt) (ho : ∃ (q : List Nat) (i1 i2 i3 i4 i5 i6 i7 i8 : Int) (w : AV) (M : List (List AV)), o = [.str q, .int .i64 i1, .int .i64 i2, .int .i64 i3, .int .i64 i4, .int .i64 i5, .int .i64 i6, .int .i64 i7, .int .i64 i8, w] ∧ q.length < 2 ^ 60 ∧ (∀ H, Holds H 1 w M) ∧ M.length * 16 ≤ 140737488355328 ∧ ∀ c ∈ M, ∃ s, c = [.str s] ∧ s.length < 2 ^ 60)
    (K : AV → Heap → Prop) (hK : ∀ H', Up H H' → Free H' → K (.bool true) H') : WF Try.prog 6 [v, .agg (task tid k tev tsq due att wf rn q), .agg (actC s ev nm d o x5 x6 x7 x8 x9 x10 x11 cn dt fl)] H K := by
  have hb1 : EB (ES.mk 0 0 0 0 0 0 0 nm fl d o) := ⟨hnm, hfl, ⟨_, hd⟩, ho⟩
  have hb2 : EB (ES.mk 0 0 0 0 0 0 0 [] [] dt zp) := ⟨by simp, by simp, ⟨_, hdt⟩, ⟨[], 0, 0, 0, 0, 0, 0, 0, 0, .nilslice, [], rfl, by decide, fun H => Holds.nil, by decide, by simp⟩⟩
  have haR : ActR H s (actC s ev nm d o x5 x6 x7 x8 x9 x10 x11 cn dt fl) := ⟨s, ev, nm, d, o, x5, x6, x7, x8, x9, x10, x11, cn, dt, fl, rfl, ⟨n1, hd.tb H⟩, hb1.polT H, ⟨n2, hdt.tb H⟩, Int.le_refl _⟩
  have hdc := (hd.vr H).cells
  have htc := (hdt.vr H).cells
  have hoc := (hb1.pol H).cells
  have hol := (hb1.pol H).len
  obtain ⟨d0, d1, d2, d3, d4, rfl⟩ := five hd.len
  obtain ⟨t0, t1, t2, t3, t4, rfl⟩ := five hdt.len
  obtain ⟨o0, o1, o2, o3, o4, o5, o6, o7, o8, o9, rfl⟩ := ten hol
  simp only [List.all_cons, List.all_nil, Bool.and_eq_true, Bool.and_true] at hdc htc hoc
  obtain ⟨hcd0, hcd1, hcd2, hcd3, hcd4⟩ := hdc
  obtain ⟨hct0, hct1, hct2, hct3, hct4⟩ := htc
  obtain ⟨hco0, hco1, hco2, hco3, hco4, hco5, hco6, hco7, hco8, hco9⟩ := hoc
  obtain ⟨al, ac, a0⟩ := haR.el
  have hat : (actC s ev nm [d0, d1, d2, d3, d4] [o0, o1, o2, o3, o4, o5, o6, o7, o8, o9] x5 x6 x7 x8 x9 x10 x11 cn [t0, t1, t2, t3, t4] fl).take 32 = actC s ev nm [d0, d1, d2, d3, d4] [o0, o1, o2, o3, o4, o5, o6, o7, o8, o9] x5 x6 x7 x8 x9 x10 x11 cn [t0, t1, t2, t3, t4] fl := List.take_of_length_le (by omega)
  have a2 : ((actC s ev nm [d0, d1, d2, d3, d4] [o0, o1, o2, o3, o4, o5, o6, o7, o8, o9] x5 x6 x7 x8 x9 x10 x11 cn [t0, t1, t2, t3, t4] fl).drop 2).take 1 = [.str nm] := rfl
  have a3 : ((actC s ev nm [d0, d1, d2, d3, d4] [o0, o1, o2, o3, o4, o5, o6, o7, o8, o9] x5 x6 x7 x8 x9 x10 x11 cn [t0, t1, t2, t3, t4] fl).drop 3).take 5 = [d0, d1, d2, d3, d4] := rfl
  have a8 : ((actC s ev nm [d0, d1, d2, d3, d4] [o0, o1, o2, o3, o4, o5, o6, o7, o8, o9] x5 x6 x7 x8 x9 x10 x11 cn [t0, t1, t2, t3, t4] fl).drop 8).take 10 = [o0, o1, o2, o3, o4, o5, o6, o7, o8, o9] := rfl
  have a26 : ((actC s ev nm [d0, d1, d2, d3, d4] [o0, o1, o2, o3, o4, o5, o6, o7, o8, o9] x5 x6 x7 x8 x9 x10 x11 cn [t0, t1, t2, t3, t4] fl).drop 26).take 5 = [t0, t1, t2, t3, t4] := rfl
  have a31 : ((actC s ev nm [d0, d1, d2, d3, d4] [o0, o1, o2, o3, o4, o5, o6, o7, o8, o9] x5 x6 x7 x8 x9 x10 x11 cn [t0, t1, t2, t3, t4] fl).drop 31).take 1 = [.str fl] := rfl
  generalize actC s ev nm [d0, d1, d2, d3, d4] [o0, o1, o2, o3, o4, o5, o6, o7, o8, o9] x5 x6 x7 x8 x9 x10 x11 cn [t0, t1, t2, t3, t4] fl = a at *
  refine WF_body Try.func6 (by kernel_rfl) rfl Try.ntmps6 (by rw [Try.results6]) (of_decide_eq_true (by kernel_rfl)) ?_
  simp (maxSteps := 1000000) only [sx, fx, ux, implies_true, evBuildSlice, fillE, fillA, here, plain, laid, evOp, avOf, avCell, strOf, evBin, evInt, evStr, evUn, evResults, evResultsL, Heap.store, wbool_off, after_scope, Nat.reduceMul, Nat.reducePow, Nat.reduceSub, Nat.reduceBEq, UInt8.reduceToNat, Nat.reduceEqDiff, Nat.reduceLT, reduceCtorEq, Nat.reduceAdd, Nat.reduceLeDiff, hF.at, hF.hp, al, tk9]
  generalize hT : task tid k tev tsq due att wf rn q = tk at *
  have hT2 : tk.length = 9 := by rw [← hT]; rfl
  have hT3 : tk.take 9 = tk := List.take_of_length_le (by omega)
  generalize hH1 : HP H _ = H1
  have b4 : H1.blk H.next = some (.row 51 9 [tk] 0 0) := by rw [← hH1, hp_blk0]; rfl
  have b5 : H1.blk (H.next + 1) = some (.row 60 32 [a] 0 0) := by rw [← hH1, hp_blk]; rfl
  have hF1 : Free H1 := hH1 ▸ hF.hpF _
  have hU1 : Up H H1 := hH1 ▸ hF.hpU _
  refine callStep (f8b_ok H1 hF1 hv hL hn _ fun b H2 hb hU2 hF2 => ?_)
  have c5 := hU2 _ _ b5
  cases b with
  | false =>
    simp (maxSteps := 1000000) only [sx, fx, ux, implies_true, evBuildSlice, fillE, fillA, here, plain, laid, evOp, avOf, avCell, strOf, evBin, evInt, evStr, evUn, evResults, evResultsL, Heap.store, wbool_off, after_scope, Nat.reduceMul, Nat.reducePow, Nat.reduceSub, Nat.reduceBEq, UInt8.reduceToNat, Nat.reduceEqDiff, Nat.reduceLT, reduceCtorEq, Nat.reduceAdd, Nat.reduceLeDiff, c5]
    refine callStep (f10_ok _ hF2 _ fun HL hUL hFL => ?_)
    simp (maxSteps := 1000000) only [sx, fx, ux, implies_true, evBuildSlice, fillE, fillA, here, plain, laid, evOp, avOf, avCell, strOf, evBin, evInt, evStr, evUn, evResults, evResultsL, Heap.store, wbool_off, after_scope, Nat.reduceMul, Nat.reducePow, Nat.reduceSub, Nat.reduceBEq, UInt8.reduceToNat, Nat.reduceEqDiff, Nat.reduceLT, reduceCtorEq, Nat.reduceAdd, Nat.reduceLeDiff]
    exact hK _ ((hU1.trans hU2).trans hUL) hFL
  | true =>
  obtain ⟨hn60, hall⟩ := hb rfl
  simp (maxSteps := 1000000) only [sx, fx, ux, implies_true, evBuildSlice, fillE, fillA, here, plain, laid, evOp, avOf, avCell, strOf, evBin, evInt, evStr, evUn, evResults, evResultsL, Heap.store, wbool_off, after_scope, Nat.reduceMul, Nat.reducePow, Nat.reduceSub, Nat.reduceBEq, UInt8.reduceToNat, Nat.reduceEqDiff, Nat.reduceLT, reduceCtorEq, Nat.reduceAdd, Nat.reduceLeDiff, splice, c5, al, a2, a3, a8, a31]
  refine callStep (f22b_ok hb1 H2 hF2 _ fun b H3 _ hU3 hF3 => ?_)
  have d5 := hU3 _ _ c5
  have hU13 := hU1.trans (hU2.trans hU3)
  cases b with
  | false =>
    simp (maxSteps := 1000000) only [sx, fx, ux, implies_true, evBuildSlice, fillE, fillA, here, plain, laid, evOp, avOf, avCell, strOf, evBin, evInt, evStr, evUn, evResults, evResultsL, Heap.store, wbool_off, after_scope, Nat.reduceMul, Nat.reducePow, Nat.reduceSub, Nat.reduceBEq, UInt8.reduceToNat, Nat.reduceEqDiff, Nat.reduceLT, reduceCtorEq, Nat.reduceAdd, Nat.reduceLeDiff, d5]
    refine callStep (f10_ok _ hF3 _ fun HL hUL hFL => ?_)
    simp (maxSteps := 1000000) only [sx, fx, ux, implies_true, evBuildSlice, fillE, fillA, here, plain, laid, evOp, avOf, avCell, strOf, evBin, evInt, evStr, evUn, evResults, evResultsL, Heap.store, wbool_off, after_scope, Nat.reduceMul, Nat.reducePow, Nat.reduceSub, Nat.reduceBEq, UInt8.reduceToNat, Nat.reduceEqDiff, Nat.reduceLT, reduceCtorEq, Nat.reduceAdd, Nat.reduceLeDiff]
    exact hK _ (hU13.trans hUL) hFL
  | true =>
  simp (maxSteps := 1000000) only [sx, fx, ux, implies_true, evBuildSlice, fillE, fillA, here, plain, laid, evOp, avOf, avCell, strOf, evBin, evInt, evStr, evUn, evResults, evResultsL, Heap.store, wbool_off, after_scope, Nat.reduceMul, Nat.reducePow, Nat.reduceSub, Nat.reduceBEq, UInt8.reduceToNat, Nat.reduceEqDiff, Nat.reduceLT, reduceCtorEq, Nat.reduceAdd, Nat.reduceLeDiff, splice, d5, al, a26]
  refine callStep (f22b_ok hb2 H3 hF3 _ fun b H4 _ hU4 hF4 => ?_)
  have hU14 := hU13.trans hU4
  have e4 := hU4 _ _ (hU3 _ _ (hU2 _ _ b4))
  have e5 := hU4 _ _ d5
  cases b with
  | false =>
    simp (maxSteps := 1000000) only [sx, fx, ux, implies_true, evBuildSlice, fillE, fillA, here, plain, laid, evOp, avOf, avCell, strOf, evBin, evInt, evStr, evUn, evResults, evResultsL, Heap.store, wbool_off, after_scope, Nat.reduceMul, Nat.reducePow, Nat.reduceSub, Nat.reduceBEq, UInt8.reduceToNat, Nat.reduceEqDiff, Nat.reduceLT, reduceCtorEq, Nat.reduceAdd, Nat.reduceLeDiff]
    refine callStep (f10_ok _ hF4 _ fun HL hUL hFL => ?_)
    simp (maxSteps := 1000000) only [sx, fx, ux, implies_true, evBuildSlice, fillE, fillA, here, plain, laid, evOp, avOf, avCell, strOf, evBin, evInt, evStr, evUn, evResults, evResultsL, Heap.store, wbool_off, after_scope, Nat.reduceMul, Nat.reducePow, Nat.reduceSub, Nat.reduceBEq, UInt8.reduceToNat, Nat.reduceEqDiff, Nat.reduceLT, reduceCtorEq, Nat.reduceAdd, Nat.reduceLeDiff]
    exact hK _ (hU14.trans hUL) hFL
  | true =>
  simp (maxSteps := 1000000) only [sx, fx, ux, implies_true, evBuildSlice, fillE, fillA, here, plain, laid, evOp, avOf, avCell, strOf, evBin, evInt, evStr, evUn, evResults, evResultsL, Heap.store, wbool_off, after_scope, Nat.reduceMul, Nat.reducePow, Nat.reduceSub, Nat.reduceBEq, UInt8.reduceToNat, Nat.reduceEqDiff, Nat.reduceLT, reduceCtorEq, Nat.reduceAdd, Nat.reduceLeDiff]
  have hLE : ∀ c ∈ L, ∃ e : ES, c = e.cells ∧ ER H4 e := fun c hc => by
    obtain ⟨e, rfl, he⟩ := hL c hc
    exact ⟨e, rfl, he.er (hall e hc he) H4⟩
  refine callStep (f23_ok (B := H4) (Up.refl _) (hv H4) hLE hn60 hF4 _ fun cs er H5 cl cc cp hU5 hF5 => ?_)
  have hU15 := hU14.trans hU5
  have m4 := hU5 _ _ e4
  have m5 := hU5 _ _ e5
  have cs24 : cs.take 24 = cs := List.take_of_length_le (by omega)
  have hs33 : splice z33 0 cs = cs := by simp [splice, z33, cl]
  unfold z33 at hs33
  cases her : (er != 0) with
  | true =>
    simp (maxSteps := 1000000) only [sx, fx, ux, implies_true, evBuildSlice, fillE, fillA, here, plain, laid, evOp, avOf, avCell, strOf, evBin, evInt, evStr, evUn, evResults, evResultsL, Heap.store, wbool_off, after_scope, Nat.reduceMul, Nat.reducePow, Nat.reduceSub, Nat.reduceBEq, UInt8.reduceToNat, Nat.reduceEqDiff, Nat.reduceLT, reduceCtorEq, Nat.reduceAdd, Nat.reduceLeDiff, hF5.at, hF5.hp, cl, cc, cs24, hs33, her]
    refine callStep (f10_ok _ (hF5.hpF _) _ fun HL hUL hFL => ?_)
    simp (maxSteps := 1000000) only [sx, fx, ux, implies_true, evBuildSlice, fillE, fillA, here, plain, laid, evOp, avOf, avCell, strOf, evBin, evInt, evStr, evUn, evResults, evResultsL, Heap.store, wbool_off, after_scope, Nat.reduceMul, Nat.reducePow, Nat.reduceSub, Nat.reduceBEq, UInt8.reduceToNat, Nat.reduceEqDiff, Nat.reduceLT, reduceCtorEq, Nat.reduceAdd, Nat.reduceLeDiff]
    exact hK _ ((hU15.trans (hF5.hpU _)).trans hUL) hFL
  | false =>
  obtain rfl : er = 0 := by simpa using her
  obtain ⟨p, e, rfl, hp, _, _⟩ := cp rfl
  have hp5 : PR H5 60 p := hp.up sub_le
  generalize hG : HP H5 [Blk.row 33 24 [p.cells] 0 0] = G
  have hGF : Free G := hG ▸ hF5.hpF _
  have hGU : Up H5 G := hG ▸ hF5.hpU _
  have g4 := hGU _ _ m4
  have g5 := hGU _ _ m5
  have g7 : G.blk H5.next = some (.row 33 24 [p.cells] 0 0) := by rw [← hG, hp_blk0]; rfl
  simp (maxSteps := 1000000) only [sx, fx, ux, implies_true, evBuildSlice, fillE, fillA, here, plain, laid, evOp, avOf, avCell, strOf, evBin, evInt, evStr, evUn, evResults, evResultsL, Heap.store, wbool_off, after_scope, Nat.reduceMul, Nat.reducePow, Nat.reduceSub, Nat.reduceBEq, UInt8.reduceToNat, Nat.reduceEqDiff, Nat.reduceLT, reduceCtorEq, Nat.reduceAdd, Nat.reduceLeDiff, hF5.at, hF5.hp, cl, cc, cs24, hs33, her, hG, g7, g5, al, hat]
  refine callStep (f24_ok (hp5.up hGU) (haR.up (hU15.trans hGU)) (by omega) hGF _ (fun va LA H6 hU6 hF6 hO6 hl6 hA6 hsa => ?_) fun H6 hU6 hF6 => ?_)
  · have hpq : ∀ F, Own G F 60 32 va LA → Up G F → PR (hsub F G H5) 60 (p.wa va LA) := fun F hO hU => hp5.acts (M := 60) (sub_up hGU hU) (sub_own hO) hl6 (Nat.le_refl _) fun c hc => by
      rcases hA6 c hc with rfl | hc
      · exact (haR.up hU15).le hsa
      · exact hp5.ca c hc
    have hq6 := (hpq H6 hO6 hU6).up sub_le
    have ql := hq6.len
    have qc := hq6.cells
    have qt : (p.wa va LA).cells.take 24 = (p.wa va LA).cells := List.take_of_length_le (by omega)
    have qs : splice z33 0 (p.wa va LA).cells = (p.wa va LA).cells := by simp [splice, z33, ql]
    have qs2 : splice p.cells 0 (p.wa va LA).cells = (p.wa va LA).cells := by simp [splice, cl, ql]
    have n7 : ∀ xs, (HP H6 xs).blk H5.next = some (.row 33 24 [p.cells] 0 0) := fun xs => hF6.hpU xs _ _ (hU6 _ _ g7)
    have n4 : ∀ xs, (HP H6 xs).blk H.next = some (.row 51 9 [tk] 0 0) := fun xs => hF6.hpU xs _ _ (hU6 _ _ g4)
    unfold z33 at qs
    simp (maxSteps := 1000000) only [sx, fx, ux, implies_true, evBuildSlice, fillE, fillA, here, plain, laid, evOp, avOf, avCell, strOf, evBin, evInt, evStr, evUn, evResults, evResultsL, Heap.store, wbool_off, after_scope, Nat.reduceMul, Nat.reducePow, Nat.reduceSub, Nat.reduceBEq, UInt8.reduceToNat, Nat.reduceEqDiff, Nat.reduceLT, reduceCtorEq, Nat.reduceAdd, Nat.reduceLeDiff, hF6.at, hF6.hp, ql, qc, qt, qs, qs2, cl, n7]
    generalize hF9 : (HP H6 [Blk.row 33 24 [(p.wa va LA).cells] 0 0]).set H5.next _ = F9
    have f7 : F9.blk H5.next = some (.row 33 24 [(p.wa va LA).cells] 0 0) := by rw [← hF9, set_same]
    have hlt4 : H.next < H5.next := hF5.lt m4
    have f4 : F9.blk H.next = some (.row 51 9 [tk] 0 0) := by rw [← hF9, Heap.set_other _ _ _ (by omega)]; exact n4 _
    have f9F : Free F9 := hF9 ▸ (hF6.hpF _).set ((hF6.hpF _).lt (n7 _)) _
    have hU5n : H.blk H5.next = none := by
      cases hx : H.blk H5.next with
      | none => rfl
      | some z => have := hF.lt hx; omega
    have hn9 : H6.next + 1 = F9.next := by rw [← hF9]; rfl
    have f9U : Up H F9 := hF9 ▸ ((hU15.trans (hGU.trans (hU6.trans (hF6.hpU _)))).set hU5n _)
    have hq9 : PR F9 60 (p.wa va LA) := by
      rw [← hF9]
      exact ((hpq H6 hO6 hU6).up ((sub_mono (hF6.hpU _)).trans (sub_set (b := H5.next) (H := H5) hGU (by rw [g7]; simp) hF5.at _))).up sub_le
    generalize p.wa va LA = pp at *
    have ql := (hq9).len
    have qt : pp.cells.take 24 = pp.cells := List.take_of_length_le (by omega)
    have qc := (hq9).cells
    have hrun := runC_splice ql
    have hz37 : splice [AV.str [], AV.str [], AV.str [], AV.int IntKind.i64 0, AV.nilslice, AV.int IntKind.i64 0, AV.int IntKind.i64 0, AV.int IntKind.i64 0, AV.int IntKind.i64 0, AV.int IntKind.i64 0, AV.int IntKind.i64 0, AV.str [], AV.int IntKind.i64 0, AV.int IntKind.i64 0, AV.str [], AV.nilslice, AV.nilslice, AV.int IntKind.i64 0, AV.int IntKind.i64 0, AV.str [], AV.nilslice, AV.nilslice, AV.bool false, AV.nilslice, AV.nilslice, AV.nilslice, AV.nilslice, AV.nilslice, AV.nilslice, AV.nilslice, AV.nilslice, AV.nilslice, AV.int IntKind.i64 0, AV.int IntKind.i64 0] 0 (runC [] [] pp.cells) = runC [] [] pp.cells := by simp [splice, runC, ql]
    have hrl : (runC [] [] pp.cells).length = 34 := by simp [runC, ql]
    have hrt : (runC [] [] pp.cells).take 34 = runC [] [] pp.cells := List.take_of_length_le (by omega)
    have hrc : (runC [] [] pp.cells).all AV.isCell = true := by simp only [runC, List.all_cons, List.all_append, qc, List.all_nil]; rfl
    have hst4 : ∀ xs, (HP F9 xs).blk H.next = _ := fun xs => f9F.hpU xs _ _ f4
    simp (maxSteps := 1000000) only [sx, fx, ux, implies_true, evBuildSlice, fillE, fillA, here, plain, laid, evOp, avOf, avCell, strOf, evBin, evInt, evStr, evUn, evResults, evResultsL, Heap.store, wbool_off, after_scope, Nat.reduceMul, Nat.reducePow, Nat.reduceSub, Nat.reduceBEq, UInt8.reduceToNat, Nat.reduceEqDiff, Nat.reduceLT, reduceCtorEq, Nat.reduceAdd, Nat.reduceLeDiff, f7, ql, qt, hrun, hz37, hrl, hrt, hrc, hn9, f9F.at, f9F.hp]
    refine drawStep [2] [0, 1, 3, 4, 2, 5, 6, 7, 8, 9, 10] _ rfl (by kernel_rfl) ?_
    generalize hQ : HP F9 [Blk.row 37 34 [runC [] [] pp.cells] 0 0] = Q
    have hQF : Free Q := hQ ▸ f9F.hpF _
    have hQU : Up F9 Q := hQ ▸ f9F.hpU _
    have j0 : Q.blk F9.next = some (.row 37 34 [runC [] [] pp.cells] 0 0) := by rw [← hQ, hp_blk0]; rfl
    have j4 := hQU _ _ f4
    simp (maxSteps := 1000000) only [sx, fx, ux, implies_true, evBuildSlice, fillE, fillA, here, plain, laid, evOp, avOf, avCell, strOf, evBin, evInt, evStr, evUn, evResults, evResultsL, Heap.store, wbool_off, after_scope, Nat.reduceMul, Nat.reducePow, Nat.reduceSub, Nat.reduceBEq, UInt8.reduceToNat, Nat.reduceEqDiff, Nat.reduceLT, reduceCtorEq, Nat.reduceAdd, Nat.reduceLeDiff, hQ, j0, j4, hrl, hrt, hT2, hT3]
    subst hT
    refine callStep_flag (f25_ok ((hq9).up hQU) (by omega) (runR_runC (hq9)) hQF _ fun Q2 hU2 hF2 => ⟨hU2, ?_⟩)
    simp (maxSteps := 1000000) only [sx, fx, ux, implies_true, evBuildSlice, fillE, fillA, here, plain, laid, evOp, avOf, avCell, strOf, evBin, evInt, evStr, evUn, evResults, evResultsL, Heap.store, wbool_off, after_scope, Nat.reduceMul, Nat.reducePow, Nat.reduceSub, Nat.reduceBEq, UInt8.reduceToNat, Nat.reduceEqDiff, Nat.reduceLT, reduceCtorEq, Nat.reduceAdd, Nat.reduceLeDiff]
    refine callStep (f26_ok ((hq9).up (hQU.trans hU2)) (by omega) (runR_runC (hq9)) hF2 _ fun Q3 hU3 hF3 => ?_)
    have heq : (voidS pp k tev tsq att == voidS pp k tev tsq att) = true := by simp
    simp (maxSteps := 1000000) only [sx, fx, ux, implies_true, evBuildSlice, fillE, fillA, here, plain, laid, evOp, avOf, avCell, strOf, evBin, evInt, evStr, evUn, evResults, evResultsL, Heap.store, wbool_off, after_scope, Nat.reduceMul, Nat.reducePow, Nat.reduceSub, Nat.reduceBEq, UInt8.reduceToNat, Nat.reduceEqDiff, Nat.reduceLT, reduceCtorEq, Nat.reduceAdd, Nat.reduceLeDiff, eqOk, boolEq, heq]
    refine callStep (f10_ok _ hF3 _ fun HL hUL hFL => ?_)
    simp (maxSteps := 1000000) only [sx, fx, ux, implies_true, evBuildSlice, fillE, fillA, here, plain, laid, evOp, avOf, avCell, strOf, evBin, evInt, evStr, evUn, evResults, evResultsL, Heap.store, wbool_off, after_scope, Nat.reduceMul, Nat.reducePow, Nat.reduceSub, Nat.reduceBEq, UInt8.reduceToNat, Nat.reduceEqDiff, Nat.reduceLT, reduceCtorEq, Nat.reduceAdd, Nat.reduceLeDiff]
    exact hK _ (((f9U).trans (hQU.trans (hU2.trans hU3))).trans hUL) hFL
  · have qs : splice z33 0 z33 = z33 := rfl
    have n7 : ∀ xs, (HP H6 xs).blk H5.next = some (.row 33 24 [p.cells] 0 0) := fun xs => hF6.hpU xs _ _ (hU6 _ _ g7)
    have n4 : ∀ xs, (HP H6 xs).blk H.next = some (.row 51 9 [tk] 0 0) := fun xs => hF6.hpU xs _ _ (hU6 _ _ g4)
    simp (maxSteps := 1000000) only [z33, sx, fx, ux, implies_true, evBuildSlice, fillE, fillA, here, plain, laid, evOp, avOf, avCell, strOf, evBin, evInt, evStr, evUn, evResults, evResultsL, Heap.store, wbool_off, after_scope, Nat.reduceMul, Nat.reducePow, Nat.reduceSub, Nat.reduceBEq, UInt8.reduceToNat, Nat.reduceEqDiff, Nat.reduceLT, reduceCtorEq, Nat.reduceAdd, Nat.reduceLeDiff, hF6.at, hF6.hp]
    generalize hF9 : HP H6 _ = F9
    have f7 : F9.blk H5.next = some (.row 33 24 [p.cells] 0 0) := by rw [← hF9]; exact n7 _
    have f4 : F9.blk H.next = some (.row 51 9 [tk] 0 0) := by rw [← hF9]; exact n4 _
    have f9F : Free F9 := hF9 ▸ hF6.hpF _
    have hn9 : H6.next + 1 = F9.next := by rw [← hF9]; rfl
    have f9U : Up H F9 := hF9 ▸ (hU15.trans (hGU.trans (hU6.trans (hF6.hpU _))))
    have hq9 : PR F9 60 p := by rw [← hF9]; exact hp5.up (hGU.trans (hU6.trans (hF6.hpU _)))
    have ql := (hq9).len
    have qt : p.cells.take 24 = p.cells := List.take_of_length_le (by omega)
    have qc := (hq9).cells
    have hrun := runC_splice ql
    have hz37 : splice [AV.str [], AV.str [], AV.str [], AV.int IntKind.i64 0, AV.nilslice, AV.int IntKind.i64 0, AV.int IntKind.i64 0, AV.int IntKind.i64 0, AV.int IntKind.i64 0, AV.int IntKind.i64 0, AV.int IntKind.i64 0, AV.str [], AV.int IntKind.i64 0, AV.int IntKind.i64 0, AV.str [], AV.nilslice, AV.nilslice, AV.int IntKind.i64 0, AV.int IntKind.i64 0, AV.str [], AV.nilslice, AV.nilslice, AV.bool false, AV.nilslice, AV.nilslice, AV.nilslice, AV.nilslice, AV.nilslice, AV.nilslice, AV.nilslice, AV.nilslice, AV.nilslice, AV.int IntKind.i64 0, AV.int IntKind.i64 0] 0 (runC [] [] p.cells) = runC [] [] p.cells := by simp [splice, runC, ql]
    have hrl : (runC [] [] p.cells).length = 34 := by simp [runC, ql]
    have hrt : (runC [] [] p.cells).take 34 = runC [] [] p.cells := List.take_of_length_le (by omega)
    have hrc : (runC [] [] p.cells).all AV.isCell = true := by simp only [runC, List.all_cons, List.all_append, qc, List.all_nil]; rfl
    have hst4 : ∀ xs, (HP F9 xs).blk H.next = _ := fun xs => f9F.hpU xs _ _ f4
    simp (maxSteps := 1000000) only [sx, fx, ux, implies_true, evBuildSlice, fillE, fillA, here, plain, laid, evOp, avOf, avCell, strOf, evBin, evInt, evStr, evUn, evResults, evResultsL, Heap.store, wbool_off, after_scope, Nat.reduceMul, Nat.reducePow, Nat.reduceSub, Nat.reduceBEq, UInt8.reduceToNat, Nat.reduceEqDiff, Nat.reduceLT, reduceCtorEq, Nat.reduceAdd, Nat.reduceLeDiff, f7, ql, qt, hrun, hz37, hrl, hrt, hrc, hn9, f9F.at, f9F.hp]
    refine drawStep [2] [0, 1, 3, 4, 2, 5, 6, 7, 8, 9, 10] _ rfl (by kernel_rfl) ?_
    generalize hQ : HP F9 [Blk.row 37 34 [runC [] [] p.cells] 0 0] = Q
    have hQF : Free Q := hQ ▸ f9F.hpF _
    have hQU : Up F9 Q := hQ ▸ f9F.hpU _
    have j0 : Q.blk F9.next = some (.row 37 34 [runC [] [] p.cells] 0 0) := by rw [← hQ, hp_blk0]; rfl
    have j4 := hQU _ _ f4
    simp (maxSteps := 1000000) only [sx, fx, ux, implies_true, evBuildSlice, fillE, fillA, here, plain, laid, evOp, avOf, avCell, strOf, evBin, evInt, evStr, evUn, evResults, evResultsL, Heap.store, wbool_off, after_scope, Nat.reduceMul, Nat.reducePow, Nat.reduceSub, Nat.reduceBEq, UInt8.reduceToNat, Nat.reduceEqDiff, Nat.reduceLT, reduceCtorEq, Nat.reduceAdd, Nat.reduceLeDiff, hQ, j0, j4, hrl, hrt, hT2, hT3]
    subst hT
    refine callStep_flag (f25_ok ((hq9).up hQU) (by omega) (runR_runC (hq9)) hQF _ fun Q2 hU2 hF2 => ⟨hU2, ?_⟩)
    simp (maxSteps := 1000000) only [sx, fx, ux, implies_true, evBuildSlice, fillE, fillA, here, plain, laid, evOp, avOf, avCell, strOf, evBin, evInt, evStr, evUn, evResults, evResultsL, Heap.store, wbool_off, after_scope, Nat.reduceMul, Nat.reducePow, Nat.reduceSub, Nat.reduceBEq, UInt8.reduceToNat, Nat.reduceEqDiff, Nat.reduceLT, reduceCtorEq, Nat.reduceAdd, Nat.reduceLeDiff]
    refine callStep (f26_ok ((hq9).up (hQU.trans hU2)) (by omega) (runR_runC (hq9)) hF2 _ fun Q3 hU3 hF3 => ?_)
    have heq : (voidS p k tev tsq att == voidS p k tev tsq att) = true := by simp
    simp (maxSteps := 1000000) only [sx, fx, ux, implies_true, evBuildSlice, fillE, fillA, here, plain, laid, evOp, avOf, avCell, strOf, evBin, evInt, evStr, evUn, evResults, evResultsL, Heap.store, wbool_off, after_scope, Nat.reduceMul, Nat.reducePow, Nat.reduceSub, Nat.reduceBEq, UInt8.reduceToNat, Nat.reduceEqDiff, Nat.reduceLT, reduceCtorEq, Nat.reduceAdd, Nat.reduceLeDiff, eqOk, boolEq, heq]
    refine callStep (f10_ok _ hF3 _ fun HL hUL hFL => ?_)
    simp (maxSteps := 1000000) only [sx, fx, ux, implies_true, evBuildSlice, fillE, fillA, here, plain, laid, evOp, avOf, avCell, strOf, evBin, evInt, evStr, evUn, evResults, evResultsL, Heap.store, wbool_off, after_scope, Nat.reduceMul, Nat.reducePow, Nat.reduceSub, Nat.reduceBEq, UInt8.reduceToNat, Nat.reduceEqDiff, Nat.reduceLT, reduceCtorEq, Nat.reduceAdd, Nat.reduceLeDiff]
    exact hK _ (((f9U).trans (hQU.trans (hU2.trans hU3))).trans hUL) hFL
end Go.Proofs.T
