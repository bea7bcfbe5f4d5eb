import Derived.Test.YtlllflmjpclobaaW20
set_option linter.unusedVariables false
set_option linter.unusedSimpArgs false
set_option linter.unusedVariables false
set_option linter.unusedSimpArgs false
set_option maxRecDepth 100000
namespace Go.Proofs.T
open Go.Ev

def i18 (c : List AV) : Int := match c.drop 18 with | .int _ x :: _ => x | _ => 0
def i19 (c : List AV) : Int := match c.drop 19 with | .int _ x :: _ => x | _ => 0
theorem ActR.f18 {H : Heap} {sq : Int} {c : List AV} (h : ActR H sq c) : (c.drop 18).take 2 = [.int .i64 (i18 c), .int .i64 (i19 c)] := by
  obtain ⟨s, ev, nm, d, o, x5, x6, x7, x8, x9, x10, x11, cn, dt, fl, rfl, ⟨n, hd⟩, ho, _⟩ := h
  obtain ⟨d0, d1, d2, d3, d4, rfl⟩ := five hd.vr.len
  obtain ⟨o0, o1, o2, o3, o4, o5, o6, o7, o8, o9, rfl⟩ := ten ho.1.len
  rfl
theorem take2 {c : List AV} {n : Nat} {x y : AV} (h : (c.drop n).take 2 = [x, y]) : (c.drop n).take 1 = [x] ∧ (c.drop (n + 1)).take 1 = [y] := by
  have e : c.drop (n + 1) = (c.drop n).drop 1 := by rw [List.drop_drop]
  rw [e]
  match hc : c.drop n with
  | [] => rw [hc] at h; simp at h
  | [a] => rw [hc] at h; simp at h
  | a :: b :: l =>
    rw [hc] at h
    simp only [List.take_succ_cons, List.take_zero, List.cons.injEq, and_true] at h
    obtain ⟨rfl, rfl⟩ := h
    exact ⟨rfl, rfl⟩
/-- Is a task void? -/
def voidS (p : PS) (k ev sq att : Int) : Bool :=
  if (k != 1 && k != 2) = true then false else if (p.st != 0) = true then true else if (k == 1) = true then (p.tk != 1 || p.ti != ev) else
  match p.acts.find? (fun c => seqOf c == sq) with
  | none => true
  | some c => i18 c != 1 || i19 c != att
/-- A run's cells, as far as Void looks at them. -/
structure RunR (rc : List AV) (p : PS) : Prop where
  len : rc.length = 34
  c5 : (rc.drop 5).take 24 = p.cells
theorem RunR.cs {rc : List AV} {p : PS} (h : RunR rc p) : (rc.drop 6).take 1 = [.int .i64 p.st] ∧ (rc.drop 7).take 1 = [.int .i64 p.tk] ∧ (rc.drop 8).take 1 = [.int .i64 p.ti] := by
  have h := h.c5
  have key : ∀ j, j < 24 → (rc.drop (5 + j)).take 1 = (p.cells.drop j).take 1 := fun j hj => by
    rw [← h, List.drop_take, List.take_take, List.drop_drop]
    congr 1; omega
  exact ⟨key 1 (by omega), key 2 (by omega), key 3 (by omega)⟩
def runC (wf rn : List Nat) (pc : List AV) : List AV := .str wf :: .str rn :: .str [] :: .int .i64 0 :: .nilslice :: (pc ++ [AV.nilslice, AV.nilslice, AV.nilslice, AV.int IntKind.i64 0, AV.int IntKind.i64 0])
theorem runR_runC {H : Heap} {N : Nat} {wf rn : List Nat} {p : PS} (h : PR H N p) : RunR (runC wf rn p.cells) p := ⟨by simp [runC, h.len], by
  show (p.cells ++ _).take 24 = p.cells
  rw [List.take_append_of_le_length (by rw [h.len]; omega), List.take_of_length_le (by rw [h.len]; omega)]⟩

set_option maxHeartbeats 8000000 in
theorem f25_ok {H : Heap} {N : Nat} {p : PS} {rc : List AV} {tid k ev sq due att : Int} {wf rn q : List Nat} (hp : PR H N p) (hN : N ≤ 100) (hr : RunR rc p) (hF : Free H) (K : AV → Heap → Prop) (hK : ∀ H', Up H H' → Free H' → K (.bool (voidS p k ev sq att)) H') : WF Try.prog 25 [.agg rc, .agg (task tid k ev sq due att wf rn q)] H K := by
  have hrl := hr.len
  have r5 := hr.c5
  obtain ⟨r6, r7, r8⟩ := hr.cs
  have hpl := hp.len
  have hpc := hp.cells
  refine WF_body Try.func25 (by kernel_rfl) rfl Try.ntmps25 (by rw [Try.results25]) (of_decide_eq_true (by kernel_rfl)) ?_
  simp (maxSteps := 1000000) only [task, sx, fx, ux, implies_true, evBuildSlice, fillE, fillA, here, plain, laid, evOp, avOf, avCell, strOf, evBin, evInt, evStr, evUn, evResults, evResultsL, Heap.store, wbool_off, after_scope, Nat.reduceMul, Nat.reducePow, Nat.reduceSub, Nat.reduceBEq, UInt8.reduceToNat, Nat.reduceEqDiff, Nat.reduceLT, reduceCtorEq, Nat.reduceAdd, Nat.reduceLeDiff, hF.at, hF.hp, hrl]
  generalize hH1 : HP H _ = H1
  have b0 : H1.blk H.next = some (.row 37 34 [rc] 0 0) := by rw [← hH1, hp_blk0]; rfl
  have b1 : H1.blk (H.next + 1) = some (.row 51 9 [[.int .i64 tid, .int .i64 k, .int .i64 ev, .int .i64 sq, .int .i64 due, .int .i64 att, .str wf, .str rn, .str q]] 0 0) := by rw [← hH1, hp_blk]; rfl
  have hF1 : Free H1 := hH1 ▸ hF.hpF _
  have hU1 : Up H H1 := hH1 ▸ hF.hpU _
  have hv : voidS p k ev sq att = voidS p k ev sq att := rfl
  conv at hv => rhs; unfold voidS
  rw [hv] at hK
  cases k1 : (k != 1) with
  | true =>
    cases k2 : (k != 2) with
    | true =>
      simp only [k1, k2, Bool.and_self, if_true] at hK
      simp (maxSteps := 1000000) only [sx, fx, ux, implies_true, evBuildSlice, fillE, fillA, here, plain, laid, evOp, avOf, avCell, strOf, evBin, evInt, evStr, evUn, evResults, evResultsL, Heap.store, wbool_off, after_scope, Nat.reduceMul, Nat.reducePow, Nat.reduceSub, Nat.reduceBEq, UInt8.reduceToNat, Nat.reduceEqDiff, Nat.reduceLT, reduceCtorEq, Nat.reduceAdd, Nat.reduceLeDiff, b0, b1, hrl, r5, r6, r7, r8, k1, k2]
      exact hK _ hU1 hF1
    | false =>
    have k1' : (k == 1) = false := by simpa using k1
    simp only [k1, k2, k1', Bool.and_false, Bool.false_eq_true, if_false] at hK
    cases hst : (p.st != 0) with
    | true =>
      simp only [hst, if_true] at hK
      simp (maxSteps := 1000000) only [sx, fx, ux, implies_true, evBuildSlice, fillE, fillA, here, plain, laid, evOp, avOf, avCell, strOf, evBin, evInt, evStr, evUn, evResults, evResultsL, Heap.store, wbool_off, after_scope, Nat.reduceMul, Nat.reducePow, Nat.reduceSub, Nat.reduceBEq, UInt8.reduceToNat, Nat.reduceEqDiff, Nat.reduceLT, reduceCtorEq, Nat.reduceAdd, Nat.reduceLeDiff, b0, b1, hrl, r5, r6, r7, r8, k1, k2, hst]
      exact hK _ hU1 hF1
    | false =>
    simp only [hst, Bool.false_eq_true, if_false] at hK
    simp (maxSteps := 1000000) only [sx, fx, ux, implies_true, evBuildSlice, fillE, fillA, here, plain, laid, evOp, avOf, avCell, strOf, evBin, evInt, evStr, evUn, evResults, evResultsL, Heap.store, wbool_off, after_scope, Nat.reduceMul, Nat.reducePow, Nat.reduceSub, Nat.reduceBEq, UInt8.reduceToNat, Nat.reduceEqDiff, Nat.reduceLT, reduceCtorEq, Nat.reduceAdd, Nat.reduceLeDiff, b0, b1, hrl, r5, r6, r7, r8, k1, k2, k1', hst]
    refine callStep (f36_ok (hp.up hU1) hN hF1 _ (fun c a' H2 hfind al ac a18 hU2 hF2 => ?_) fun a' H2 hnone al ac hU2 hF2 => ?_)
    · skip
      obtain ⟨a1, a2⟩ := take2 (a18.trans (hp.ca c (List.mem_of_find?_eq_some hfind)).f18)
      have at' : a'.take 32 = a' := List.take_of_length_le (by omega)
      have hsp : splice z60 0 a' = a' := by simp [splice, z60, al]
      unfold z60 at hsp
      simp only [hfind] at hK
      have c1 : ∀ xs, (HP H2 xs).blk (H.next + 1) = _ := fun xs => hF2.hpU xs _ _ (hU2 _ _ b1)
      cases x1 : (i18 c != 1) with
      | true =>
        simp only [x1, Bool.true_or] at hK
        simp (maxSteps := 1000000) only [sx, fx, ux, implies_true, evBuildSlice, fillE, fillA, here, plain, laid, evOp, avOf, avCell, strOf, evBin, evInt, evStr, evUn, evResults, evResultsL, Heap.store, wbool_off, after_scope, Nat.reduceMul, Nat.reducePow, Nat.reduceSub, Nat.reduceBEq, UInt8.reduceToNat, Nat.reduceEqDiff, Nat.reduceLT, reduceCtorEq, Nat.reduceAdd, Nat.reduceLeDiff, hF2.at, hF2.hp, al, ac, at', hsp, a1, a2, c1, x1]
        exact hK _ (hU1.trans (hU2.trans (hF2.hpU _))) (hF2.hpF _)
      | false =>
        simp only [x1, Bool.false_or] at hK
        simp (maxSteps := 1000000) only [sx, fx, ux, implies_true, evBuildSlice, fillE, fillA, here, plain, laid, evOp, avOf, avCell, strOf, evBin, evInt, evStr, evUn, evResults, evResultsL, Heap.store, wbool_off, after_scope, Nat.reduceMul, Nat.reducePow, Nat.reduceSub, Nat.reduceBEq, UInt8.reduceToNat, Nat.reduceEqDiff, Nat.reduceLT, reduceCtorEq, Nat.reduceAdd, Nat.reduceLeDiff, hF2.at, hF2.hp, al, ac, at', hsp, a1, a2, c1, x1]
        exact hK _ (hU1.trans (hU2.trans (hF2.hpU _))) (hF2.hpF _)
    · skip
      have at' : a'.take 32 = a' := List.take_of_length_le (by omega)
      have hsp : splice z60 0 a' = a' := by simp [splice, z60, al]
      unfold z60 at hsp
      simp only [hnone] at hK
      simp (maxSteps := 1000000) only [sx, fx, ux, implies_true, evBuildSlice, fillE, fillA, here, plain, laid, evOp, avOf, avCell, strOf, evBin, evInt, evStr, evUn, evResults, evResultsL, Heap.store, wbool_off, after_scope, Nat.reduceMul, Nat.reducePow, Nat.reduceSub, Nat.reduceBEq, UInt8.reduceToNat, Nat.reduceEqDiff, Nat.reduceLT, reduceCtorEq, Nat.reduceAdd, Nat.reduceLeDiff, hF2.at, hF2.hp, al, ac, at', hsp]
      exact hK _ (hU1.trans (hU2.trans (hF2.hpU _))) (hF2.hpF _)
  | false =>
    have k1' : (k == 1) = true := by simpa using k1
    simp only [k1, k1', Bool.false_and, Bool.false_eq_true, if_false, if_true] at hK
    cases hst : (p.st != 0) with
    | true =>
      simp only [hst, if_true] at hK
      simp (maxSteps := 1000000) only [sx, fx, ux, implies_true, evBuildSlice, fillE, fillA, here, plain, laid, evOp, avOf, avCell, strOf, evBin, evInt, evStr, evUn, evResults, evResultsL, Heap.store, wbool_off, after_scope, Nat.reduceMul, Nat.reducePow, Nat.reduceSub, Nat.reduceBEq, UInt8.reduceToNat, Nat.reduceEqDiff, Nat.reduceLT, reduceCtorEq, Nat.reduceAdd, Nat.reduceLeDiff, b0, b1, hrl, r5, r6, r7, r8, k1, hst]
      exact hK _ hU1 hF1
    | false =>
    simp only [hst, Bool.false_eq_true, if_false] at hK
    cases htk : (p.tk != 1) with
    | true =>
      simp only [htk, Bool.true_or] at hK
      simp (maxSteps := 1000000) only [sx, fx, ux, implies_true, evBuildSlice, fillE, fillA, here, plain, laid, evOp, avOf, avCell, strOf, evBin, evInt, evStr, evUn, evResults, evResultsL, Heap.store, wbool_off, after_scope, Nat.reduceMul, Nat.reducePow, Nat.reduceSub, Nat.reduceBEq, UInt8.reduceToNat, Nat.reduceEqDiff, Nat.reduceLT, reduceCtorEq, Nat.reduceAdd, Nat.reduceLeDiff, b0, b1, hrl, r5, r6, r7, r8, k1, k1', hst, htk]
      exact hK _ hU1 hF1
    | false =>
      simp only [htk, Bool.false_or] at hK
      simp (maxSteps := 1000000) only [sx, fx, ux, implies_true, evBuildSlice, fillE, fillA, here, plain, laid, evOp, avOf, avCell, strOf, evBin, evInt, evStr, evUn, evResults, evResultsL, Heap.store, wbool_off, after_scope, Nat.reduceMul, Nat.reducePow, Nat.reduceSub, Nat.reduceBEq, UInt8.reduceToNat, Nat.reduceEqDiff, Nat.reduceLT, reduceCtorEq, Nat.reduceAdd, Nat.reduceLeDiff, b0, b1, hrl, r5, r6, r7, r8, k1, k1', hst, htk]
      exact hK _ hU1 hF1

set_option maxHeartbeats 8000000 in
theorem f26_ok {H : Heap} {N : Nat} {p : PS} {rc : List AV} {tid k ev sq due att : Int} {wf rn q : List Nat} (hp : PR H N p) (hN : N ≤ 100) (hr : RunR rc p) (hF : Free H) (K : AV → Heap → Prop) (hK : ∀ H', Up H H' → Free H' → K (.bool (voidS p k ev sq att)) H') : WF Try.prog 26 [.agg rc, .agg (task tid k ev sq due att wf rn q)] H K := by
  have hrl := hr.len
  have r5 := hr.c5
  obtain ⟨r6, r7, r8⟩ := hr.cs
  have hpl := hp.len
  have hpc := hp.cells
  refine WF_body Try.func26 (by kernel_rfl) rfl Try.ntmps26 (by rw [Try.results26]) (of_decide_eq_true (by kernel_rfl)) ?_
  have pt : p.cells.take 24 = p.cells := List.take_of_length_le (by omega)
  have hs33 : splice z33 0 p.cells = p.cells := by simp [splice, z33, hpl]
  unfold z33 at hs33
  simp (maxSteps := 1000000) only [task, sx, fx, ux, implies_true, evBuildSlice, fillE, fillA, here, plain, laid, evOp, avOf, avCell, strOf, evBin, evInt, evStr, evUn, evResults, evResultsL, Heap.store, wbool_off, after_scope, Nat.reduceMul, Nat.reducePow, Nat.reduceSub, Nat.reduceBEq, UInt8.reduceToNat, Nat.reduceEqDiff, Nat.reduceLT, reduceCtorEq, Nat.reduceAdd, Nat.reduceLeDiff, hF.at, hF.hp, hrl, r5, hpl, hpc, pt, hs33]
  generalize hH1 : HP H _ = H1
  have b0 : H1.blk (H.next + 2) = some (.row 33 24 [p.cells] 0 0) := by rw [← hH1, hp_blk]; rfl
  have b1 : H1.blk (H.next + 1) = some (.row 51 9 [[.int .i64 tid, .int .i64 k, .int .i64 ev, .int .i64 sq, .int .i64 due, .int .i64 att, .str wf, .str rn, .str q]] 0 0) := by rw [← hH1, hp_blk]; rfl
  have p1 : (p.cells.drop 1).take 1 = [.int .i64 p.st] := rfl
  have p2 : (p.cells.drop 2).take 1 = [.int .i64 p.tk] := rfl
  have p3 : (p.cells.drop 3).take 1 = [.int .i64 p.ti] := rfl
  have hF1 : Free H1 := hH1 ▸ hF.hpF _
  have hU1 : Up H H1 := hH1 ▸ hF.hpU _
  have hv : voidS p k ev sq att = voidS p k ev sq att := rfl
  conv at hv => rhs; unfold voidS
  rw [hv] at hK
  cases k1 : (k != 1) with
  | true =>
    cases k2 : (k != 2) with
    | true =>
      simp only [k1, k2, Bool.and_self, if_true] at hK
      simp (maxSteps := 1000000) only [sx, fx, ux, implies_true, evBuildSlice, fillE, fillA, here, plain, laid, evOp, avOf, avCell, strOf, evBin, evInt, evStr, evUn, evResults, evResultsL, Heap.store, wbool_off, after_scope, Nat.reduceMul, Nat.reducePow, Nat.reduceSub, Nat.reduceBEq, UInt8.reduceToNat, Nat.reduceEqDiff, Nat.reduceLT, reduceCtorEq, Nat.reduceAdd, Nat.reduceLeDiff, b0, b1, hpl, p1, p2, p3, pt, k1, k2]
      exact hK _ hU1 hF1
    | false =>
    have k1' : (k == 1) = false := by simpa using k1
    simp only [k1, k2, k1', Bool.and_false, Bool.false_eq_true, if_false] at hK
    cases hst : (p.st != 0) with
    | true =>
      simp only [hst, if_true] at hK
      simp (maxSteps := 1000000) only [sx, fx, ux, implies_true, evBuildSlice, fillE, fillA, here, plain, laid, evOp, avOf, avCell, strOf, evBin, evInt, evStr, evUn, evResults, evResultsL, Heap.store, wbool_off, after_scope, Nat.reduceMul, Nat.reducePow, Nat.reduceSub, Nat.reduceBEq, UInt8.reduceToNat, Nat.reduceEqDiff, Nat.reduceLT, reduceCtorEq, Nat.reduceAdd, Nat.reduceLeDiff, b0, b1, hpl, p1, p2, p3, pt, k1, k2, hst]
      exact hK _ hU1 hF1
    | false =>
    simp only [hst, Bool.false_eq_true, if_false] at hK
    simp (maxSteps := 1000000) only [sx, fx, ux, implies_true, evBuildSlice, fillE, fillA, here, plain, laid, evOp, avOf, avCell, strOf, evBin, evInt, evStr, evUn, evResults, evResultsL, Heap.store, wbool_off, after_scope, Nat.reduceMul, Nat.reducePow, Nat.reduceSub, Nat.reduceBEq, UInt8.reduceToNat, Nat.reduceEqDiff, Nat.reduceLT, reduceCtorEq, Nat.reduceAdd, Nat.reduceLeDiff, b0, b1, hpl, p1, p2, p3, pt, k1, k2, k1', hst]
    refine callStep (f35_ok hF1 hpl hp.da (hp.ha.up hU1) (by have := hp.na; omega) (fun c hc => (hp.ca c hc).el) _ (fun c H2 hfind hU2 hF2 => ?_) fun H2 hnone hU2 hF2 => ?_)
    · skip
      obtain ⟨al, ac, _⟩ := (hp.ca c (List.mem_of_find?_eq_some hfind)).el
      have a18 : (c.drop 18).take 2 = (c.drop 18).take 2 := rfl
      obtain ⟨a1, a2⟩ := take2 (a18.trans (hp.ca c (List.mem_of_find?_eq_some hfind)).f18)
      have at' : c.take 32 = c := List.take_of_length_le (by omega)
      have hsp : splice z60 0 c = c := by simp [splice, z60, al]
      unfold z60 at hsp
      simp only [hfind] at hK
      have c1 : ∀ xs, (HP H2 xs).blk (H.next + 1) = _ := fun xs => hF2.hpU xs _ _ (hU2 _ _ b1)
      cases x1 : (i18 c != 1) with
      | true =>
        simp only [x1, Bool.true_or] at hK
        simp (maxSteps := 1000000) only [sx, fx, ux, implies_true, evBuildSlice, fillE, fillA, here, plain, laid, evOp, avOf, avCell, strOf, evBin, evInt, evStr, evUn, evResults, evResultsL, Heap.store, wbool_off, after_scope, Nat.reduceMul, Nat.reducePow, Nat.reduceSub, Nat.reduceBEq, UInt8.reduceToNat, Nat.reduceEqDiff, Nat.reduceLT, reduceCtorEq, Nat.reduceAdd, Nat.reduceLeDiff, hF2.at, hF2.hp, al, ac, at', hsp, a1, a2, c1, x1]
        exact hK _ (hU1.trans (hU2.trans (hF2.hpU _))) (hF2.hpF _)
      | false =>
        simp only [x1, Bool.false_or] at hK
        simp (maxSteps := 1000000) only [sx, fx, ux, implies_true, evBuildSlice, fillE, fillA, here, plain, laid, evOp, avOf, avCell, strOf, evBin, evInt, evStr, evUn, evResults, evResultsL, Heap.store, wbool_off, after_scope, Nat.reduceMul, Nat.reducePow, Nat.reduceSub, Nat.reduceBEq, UInt8.reduceToNat, Nat.reduceEqDiff, Nat.reduceLT, reduceCtorEq, Nat.reduceAdd, Nat.reduceLeDiff, hF2.at, hF2.hp, al, ac, at', hsp, a1, a2, c1, x1]
        exact hK _ (hU1.trans (hU2.trans (hF2.hpU _))) (hF2.hpF _)
    · skip
      obtain ⟨al, ac⟩ : z60.length = 32 ∧ z60.all AV.isCell = true := ⟨rfl, rfl⟩
      have at' : z60.take 32 = z60 := List.take_of_length_le (by omega)
      have hsp : splice z60 0 z60 = z60 := by simp [splice, z60, al]
      unfold z60 at hsp
      simp only [hnone] at hK
      simp (maxSteps := 1000000) only [sx, fx, ux, implies_true, evBuildSlice, fillE, fillA, here, plain, laid, evOp, avOf, avCell, strOf, evBin, evInt, evStr, evUn, evResults, evResultsL, Heap.store, wbool_off, after_scope, Nat.reduceMul, Nat.reducePow, Nat.reduceSub, Nat.reduceBEq, UInt8.reduceToNat, Nat.reduceEqDiff, Nat.reduceLT, reduceCtorEq, Nat.reduceAdd, Nat.reduceLeDiff, hF2.at, hF2.hp, al, ac, at', hsp]
      exact hK _ (hU1.trans (hU2.trans (hF2.hpU _))) (hF2.hpF _)
  | false =>
    have k1' : (k == 1) = true := by simpa using k1
    simp only [k1, k1', Bool.false_and, Bool.false_eq_true, if_false, if_true] at hK
    cases hst : (p.st != 0) with
    | true =>
      simp only [hst, if_true] at hK
      simp (maxSteps := 1000000) only [sx, fx, ux, implies_true, evBuildSlice, fillE, fillA, here, plain, laid, evOp, avOf, avCell, strOf, evBin, evInt, evStr, evUn, evResults, evResultsL, Heap.store, wbool_off, after_scope, Nat.reduceMul, Nat.reducePow, Nat.reduceSub, Nat.reduceBEq, UInt8.reduceToNat, Nat.reduceEqDiff, Nat.reduceLT, reduceCtorEq, Nat.reduceAdd, Nat.reduceLeDiff, b0, b1, hpl, p1, p2, p3, pt, k1, hst]
      exact hK _ hU1 hF1
    | false =>
    simp only [hst, Bool.false_eq_true, if_false] at hK
    cases htk : (p.tk != 1) with
    | true =>
      simp only [htk, Bool.true_or] at hK
      simp (maxSteps := 1000000) only [sx, fx, ux, implies_true, evBuildSlice, fillE, fillA, here, plain, laid, evOp, avOf, avCell, strOf, evBin, evInt, evStr, evUn, evResults, evResultsL, Heap.store, wbool_off, after_scope, Nat.reduceMul, Nat.reducePow, Nat.reduceSub, Nat.reduceBEq, UInt8.reduceToNat, Nat.reduceEqDiff, Nat.reduceLT, reduceCtorEq, Nat.reduceAdd, Nat.reduceLeDiff, b0, b1, hpl, p1, p2, p3, pt, k1, k1', hst, htk]
      exact hK _ hU1 hF1
    | false =>
      simp only [htk, Bool.false_or] at hK
      simp (maxSteps := 1000000) only [sx, fx, ux, implies_true, evBuildSlice, fillE, fillA, here, plain, laid, evOp, avOf, avCell, strOf, evBin, evInt, evStr, evUn, evResults, evResultsL, Heap.store, wbool_off, after_scope, Nat.reduceMul, Nat.reducePow, Nat.reduceSub, Nat.reduceBEq, UInt8.reduceToNat, Nat.reduceEqDiff, Nat.reduceLT, reduceCtorEq, Nat.reduceAdd, Nat.reduceLeDiff, b0, b1, hpl, p1, p2, p3, pt, k1, k1', hst, htk]
      exact hK _ hU1 hF1
end Go.Proofs.T
