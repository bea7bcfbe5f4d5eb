import Derived.Test.YtlllflmjpclobaaUa
import Derived.Test.YtlllflmjpclobaaEb
import Derived.Test.YtlllflmjpclobaaProg
set_option linter.unusedVariables false
set_option linter.unusedSimpArgs false
section
set_option linter.unusedVariables false
set_option linter.unusedSimpArgs false
set_option maxRecDepth 100000
namespace Go.Proofs.T
open Go.Ev

theorem und51 : Try.prog.underlying 51 = some (.struct #[{ name := "ID", type := 3, offset := 0, embedded := false, tag := "", pkgPath := "", byteOffset := 0 },
 { name := "Kind", type := 3, offset := 1, embedded := false, tag := "", pkgPath := "", byteOffset := 8 },
 { name := "Event", type := 3, offset := 2, embedded := false, tag := "", pkgPath := "", byteOffset := 16 },
 { name := "Seq", type := 3, offset := 3, embedded := false, tag := "", pkgPath := "", byteOffset := 24 },
 { name := "Due", type := 3, offset := 4, embedded := false, tag := "", pkgPath := "", byteOffset := 32 },
 { name := "Attempt", type := 3, offset := 5, embedded := false, tag := "", pkgPath := "", byteOffset := 40 },
 { name := "Workflow", type := 9, offset := 6, embedded := false, tag := "", pkgPath := "", byteOffset := 48 },
 { name := "Run", type := 9, offset := 7, embedded := false, tag := "", pkgPath := "", byteOffset := 64 },
 { name := "Queue", type := 9, offset := 8, embedded := false, tag := "", pkgPath := "", byteOffset := 80 }]) := by kernel_rfl
theorem guard51 : Try.prog.eqGuardType Try.prog.depth 51 = false := by kernel_rfl
theorem stood51 : Try.prog.stoodInHeld 51 = false := by kernel_rfl

theorem eqA_int {d : Nat} {a b : Int} {k : IntKind} : eqA Try.prog (d + 1) 3 (.int k a) (.int k b) = some (a == b) := by simp [eqA, und3]
theorem eqA_str {d : Nat} {a b : List Nat} : eqA Try.prog (d + 1) 9 (.str a) (.str b) = some (a == b) := by simp [eqA, und9]
theorem task_eqA {d : Nat} (id k ev sq due att : Int) (wf rn q : List Nat) (id' k' ev' sq' due' att' : Int) (wf' rn' q' : List Nat) :
    eqA Try.prog (d + 2) 51 (.agg (task id k ev sq due att wf rn q)) (.agg (task id' k' ev' sq' due' att' wf' rn' q')) =
      some (id == id' && k == k' && ev == ev' && sq == sq' && due == due' && att == att' && wf == wf' && rn == rn' && q == q') := by
  simp only [eqA, und51, stood51, Bool.false_eq_true, if_false, task]
  simp only [eqFields, partOf, ag3, ag9, sz3, sz9, List.getElem?_cons_zero, List.getElem?_cons_succ, eqA_int, eqA_str, String.reduceEq, if_false, reduceCtorEq]
  repeat' split
  all_goals simp_all

theorem task_eqOk (op : BinOp) (x y : Operand) (a b : List AV) : eqOk Try.prog op 51 x y (.agg a) (.agg b) = true := by simp [eqOk, guard51]
theorem task_same (id k ev sq due att : Int) (wf rn q : List Nat) : eqA Try.prog 10000 51 (.agg (task id k ev sq due att wf rn q)) (.agg (task id k ev sq due att wf rn q)) = some true := by
  rw [show (10000 : Nat) = 9998 + 2 from rfl, task_eqA]; simp

def TaskL (L : List (List AV)) : Prop := ∀ cs ∈ L, ∃ id kind ev sq due att wf rn q, cs = task id kind ev sq due att wf rn q

end Go.Proofs.T
end
section
set_option linter.unusedVariables false
set_option linter.unusedSimpArgs false
set_option maxRecDepth 100000
namespace Go.Proofs.T
open Go.Ev

theorem ln9 (G : Heap) (s : List Nat) : evBuiltin Try.prog G .len #[9] [.str s] = some (.int .i64 s.length, G) := len_str und9 G s
theorem lnn22 (G : Heap) : evBuiltin Try.prog G .len #[22] [.nilslice] = some (.int .i64 0, G) := len_nil und22 G
theorem lns22 (G : Heap) (b o l c : Nat) (ex : Bool) (g : Nat) : evBuiltin Try.prog G .len #[22] [.slice b o l c ex g] = some (.int .i64 l, G) := len_slice und22 G b o l c ex g
theorem lnn23 (G : Heap) : evBuiltin Try.prog G .len #[23] [.nilslice] = some (.int .i64 0, G) := len_nil und23 G
theorem lns23 (G : Heap) (b o l c : Nat) (ex : Bool) (g : Nat) : evBuiltin Try.prog G .len #[23] [.slice b o l c ex g] = some (.int .i64 l, G) := len_slice und23 G b o l c ex g
theorem lnn24 (G : Heap) : evBuiltin Try.prog G .len #[24] [.nilslice] = some (.int .i64 0, G) := len_nil und24 G
theorem lns24 (G : Heap) (b o l c : Nat) (ex : Bool) (g : Nat) : evBuiltin Try.prog G .len #[24] [.slice b o l c ex g] = some (.int .i64 l, G) := len_slice und24 G b o l c ex g
theorem lnn35 (G : Heap) : evBuiltin Try.prog G .len #[35] [.nilslice] = some (.int .i64 0, G) := len_nil und35 G
theorem lns35 (G : Heap) (b o l c : Nat) (ex : Bool) (g : Nat) : evBuiltin Try.prog G .len #[35] [.slice b o l c ex g] = some (.int .i64 l, G) := len_slice und35 G b o l c ex g

end Go.Proofs.T
end
section
set_option linter.unusedVariables false
set_option linter.unusedSimpArgs false
set_option maxRecDepth 100000
namespace Go.Proofs.T
open Go.Ev

theorem index2 {P : Program} {H : Heap} {esz : Nat} {v : AV} {L : List (List AV)} (h : Holds H esz v L) {t e : TypeId} (ht : P.underlying t = some (.slice e)) (hs : szOf P e = some esz) (k : IntKind) {i : Nat} {cs : List AV} (hi : L[i]? = some cs) :
    evIndexAddr P H t v (.int k i) = some (.iptr cs 0) ∨ ∃ b j g ty els gen wgen, evIndexAddr P H t v (.int k i) = some (.ptr b j 0 g) ∧ H.blk b = some (.row ty esz els gen wgen) ∧ wgen ≤ g ∧ els[j]? = some cs := by
  obtain ⟨h0, ⟨rfl, rfl | rfl⟩ | rfl | ⟨b, off, cap, ex, g, ty, els, gen, wgen, rfl, h2, h3, h4, h5, _⟩⟩ := h
  · simp at hi
  · simp at hi
  · left
    simp [evIndexAddr, ht, hs, hi]
  · right
    have hlt := (List.getElem?_eq_some_iff.1 hi).1
    have hg : els[off + i]? = some cs := by
      rw [← h4, List.getElem?_take_of_lt hlt, List.getElem?_drop] at hi; exact hi
    exact ⟨b, off + i, g, ty, els, gen, wgen, by simp [evIndexAddr, ht, hs, Heap.eszOf, h2, h3, hlt], h2, h3, hg⟩

theorem task_len (id k ev sq due att : Int) (wf rn q : List Nat) : (task id k ev sq due att wf rn q).length = 9 := rfl

end Go.Proofs.T
end
section
set_option linter.unusedVariables false
set_option linter.unusedSimpArgs false
set_option maxRecDepth 100000
namespace Go.Proofs.T
open Go.Ev

theorem eqn35_n : eqA Try.prog 10000 35 .nilslice .nilslice = some true := by rw [show (10000 : Nat) = 9999 + 1 from rfl]; simp [eqA, und35]
theorem eqn35_e : eqA Try.prog 10000 35 .eslice .nilslice = some false := by rw [show (10000 : Nat) = 9999 + 1 from rfl]; simp [eqA, und35]
theorem eqn35_l (n : Nat) (L : List (List AV)) : eqA Try.prog 10000 35 (.lst n L) .nilslice = some false := by rw [show (10000 : Nat) = 9999 + 1 from rfl]; simp [eqA, und35]
theorem eqn35_s (b o l c : Nat) (ex : Bool) (g : Nat) : eqA Try.prog 10000 35 (.slice b o l c ex g) .nilslice = some false := by rw [show (10000 : Nat) = 9999 + 1 from rfl]; simp [eqA, und35]

theorem TaskL.cells {L : List (List AV)} (h : TaskL L) : ∀ cs ∈ L, cs.all AV.isCell = true := fun cs hc => by
  obtain ⟨_, _, _, _, _, _, _, _, _, rfl⟩ := h cs hc
  simp [task, AV.isCell]

theorem own_eslice {G H : Heap} {ty esz : Nat} : Own G H ty esz .eslice [] := ⟨by simp, .inl ⟨rfl, .inr rfl⟩⟩

theorem f31_ok {v : AV} {M : List (List AV)} (H : Heap) (hF : Free H) (hv : Holds H 9 v M) (hM : TaskL M) (hn : M.length ≤ 100000) (K : AV → Heap → Prop) (hK : ∀ u H', Up H H' → Free H' → Own H H' 51 9 u M → K u H') : WF Try.prog 31 [v] H K := by
  refine WF_body Try.func31 (by kernel_rfl) rfl Try.ntmps31 (by rw [Try.results31]) (of_decide_eq_true (by kernel_rfl)) ?_
  have hv' := hv
  obtain ⟨h0, ⟨rfl, rfl | rfl⟩ | rfl | ⟨b, off, cap, ex, g, ty, els, gen, wgen, rfl, h2, h3, h4⟩⟩ := hv'
  · simp (maxSteps := 1000000) only [sy, fy, implies_true, evBuildSlice, fillE, fillA, splice, AV.isCell, here, plain, laid, evOp, avOf, avCell, strOf, evBin, evInt, evStr, evUn, evResults, evResultsL, AV.isUndef, AV.cells, Heap.store, Nat.reduceMul, Nat.reducePow, Nat.reduceSub, Nat.reduceBEq, UInt8.reduceToNat, Nat.reduceEqDiff, Nat.reduceLT, reduceCtorEq, Nat.reduceAdd, Nat.reduceLeDiff, eqOk, eqn35_n]
    exact hK _ _ (Up.refl _) hF Own.nil
  · simp (maxSteps := 1000000) only [sy, fy, implies_true, evBuildSlice, fillE, fillA, splice, AV.isCell, here, plain, laid, evOp, avOf, avCell, strOf, evBin, evInt, evStr, evUn, evResults, evResultsL, AV.isUndef, AV.cells, Heap.store, Nat.reduceMul, Nat.reducePow, Nat.reduceSub, Nat.reduceBEq, UInt8.reduceToNat, Nat.reduceEqDiff, Nat.reduceLT, reduceCtorEq, Nat.reduceAdd, Nat.reduceLeDiff, eqOk, eqn35_e, hF.hp, hF.at]
    refine opStep_append app35 (L := []) (own_hp (k := 0) hF (Up.refl _) rfl rfl (by simp)) (hF.hpF _) (hF.hpU _) (hv.up (hF.hpU _)) (hM.cells) (by simp [maxBytes]) (by simp [maxBytes]) (fun u K' hO hU' hF' => ?_)
    simp (maxSteps := 1000000) only [sy, fy, implies_true, evBuildSlice, fillE, fillA, splice, AV.isCell, here, plain, laid, evOp, avOf, avCell, strOf, evBin, evInt, evStr, evUn, evResults, evResultsL, AV.isUndef, AV.cells, Heap.store, Nat.reduceMul, Nat.reducePow, Nat.reduceSub, Nat.reduceBEq, UInt8.reduceToNat, Nat.reduceEqDiff, Nat.reduceLT, reduceCtorEq, Nat.reduceAdd, Nat.reduceLeDiff]
    exact hK _ _ hU' hF' (by simpa using hO)
  · simp (maxSteps := 1000000) only [sy, fy, implies_true, evBuildSlice, fillE, fillA, splice, AV.isCell, here, plain, laid, evOp, avOf, avCell, strOf, evBin, evInt, evStr, evUn, evResults, evResultsL, AV.isUndef, AV.cells, Heap.store, Nat.reduceMul, Nat.reducePow, Nat.reduceSub, Nat.reduceBEq, UInt8.reduceToNat, Nat.reduceEqDiff, Nat.reduceLT, reduceCtorEq, Nat.reduceAdd, Nat.reduceLeDiff, eqOk, eqn35_l, hF.hp, hF.at]
    refine opStep_append app35 (L := []) (own_hp (k := 0) hF (Up.refl _) rfl rfl (by simp)) (hF.hpF _) (hF.hpU _) (hv.up (hF.hpU _)) (hM.cells) (by simp [maxBytes]; omega) (by simp [maxBytes]; omega) (fun u K' hO hU' hF' => ?_)
    simp (maxSteps := 1000000) only [sy, fy, implies_true, evBuildSlice, fillE, fillA, splice, AV.isCell, here, plain, laid, evOp, avOf, avCell, strOf, evBin, evInt, evStr, evUn, evResults, evResultsL, AV.isUndef, AV.cells, Heap.store, Nat.reduceMul, Nat.reducePow, Nat.reduceSub, Nat.reduceBEq, UInt8.reduceToNat, Nat.reduceEqDiff, Nat.reduceLT, reduceCtorEq, Nat.reduceAdd, Nat.reduceLeDiff]
    exact hK _ _ hU' hF' (by simpa using hO)
  · simp (maxSteps := 1000000) only [sy, fy, implies_true, evBuildSlice, fillE, fillA, splice, AV.isCell, here, plain, laid, evOp, avOf, avCell, strOf, evBin, evInt, evStr, evUn, evResults, evResultsL, AV.isUndef, AV.cells, Heap.store, Nat.reduceMul, Nat.reducePow, Nat.reduceSub, Nat.reduceBEq, UInt8.reduceToNat, Nat.reduceEqDiff, Nat.reduceLT, reduceCtorEq, Nat.reduceAdd, Nat.reduceLeDiff, eqOk, eqn35_s, hF.hp, hF.at]
    refine opStep_append app35 (L := []) (own_hp (k := 0) hF (Up.refl _) rfl rfl (by simp)) (hF.hpF _) (hF.hpU _) (hv.up (hF.hpU _)) (hM.cells) (by simp [maxBytes]; omega) (by simp [maxBytes]; omega) (fun u K' hO hU' hF' => ?_)
    simp (maxSteps := 1000000) only [sy, fy, implies_true, evBuildSlice, fillE, fillA, splice, AV.isCell, here, plain, laid, evOp, avOf, avCell, strOf, evBin, evInt, evStr, evUn, evResults, evResultsL, AV.isUndef, AV.cells, Heap.store, Nat.reduceMul, Nat.reducePow, Nat.reduceSub, Nat.reduceBEq, UInt8.reduceToNat, Nat.reduceEqDiff, Nat.reduceLT, reduceCtorEq, Nat.reduceAdd, Nat.reduceLeDiff]
    exact hK _ _ hU' hF' (by simpa using hO)
end Go.Proofs.T
end
section
set_option linter.unusedVariables false
set_option linter.unusedSimpArgs false
set_option maxRecDepth 100000
namespace Go.Proofs.T
open Go.Ev

theorem splice_one {cs : List AV} {o : Nat} {u : AV} (h : o < cs.length) : splice cs o [u] = cs.set o u := by
  rw [List.set_eq_take_append_cons_drop, if_pos h]
  simp [splice]
theorem splice_whole {cs vs : List AV} (h : vs.length = cs.length) : splice cs 0 vs = vs := by simp [splice, h]
theorem set_same {H : Heap} {b : Nat} {x : Blk} : (H.set b x).blk b = some x := Heap.set_same _ _ _
theorem set_set_same {H : Heap} {b : Nat} {x y : Blk} : (H.set b x).set b y = H.set b y := Heap.ext' (fun i => by simp only [Heap.set]; split <;> rfl) rfl
theorem set_01 {H : Heap} {b : Nat} {x : Blk} : (H.set b x).blk (b + 1) = H.blk (b + 1) := Heap.set_other _ _ _ (by omega)
theorem set_10 {H : Heap} {b : Nat} {x : Blk} : (H.set (b + 1) x).blk b = H.blk b := Heap.set_other _ _ _ (by omega)
theorem set_next {H : Heap} {b : Nat} {x : Blk} : (H.set b x).next = H.next := rfl
theorem ev_max {P : Program} {G : Heap} {ts : Array TypeId} {k : IntKind} {a b : Int} : evBuiltin P G .max ts [.int k a, .int k b] = some (.int k (if b > a then b else a), G) := by simp [evBuiltin]
theorem evResult_cell {P : Program} {env : Env} {G : Heap} {a : Tmp} {t : TypeId} : evResult P env G (.cell a t) = (match aggOf P t, szOf P t with
    | some true, some n => (G.load (env.at (.tmp a)) n).map .agg
    | some false, _ => (match G.load (env.at (.tmp a)) 1 with | some [v] => some v | _ => none)
    | _, _ => none) := rfl
theorem cell_set_ne {cs : List AV} {o i : Nat} {u : AV} (h : o ≠ i) : ((cs.set o u).drop i).take 1 = (cs.drop i).take 1 := by
  apply List.ext_getElem?
  intro k
  simp only [List.getElem?_take, List.getElem?_drop]
  split
  · rw [List.getElem?_set_ne (by omega)]
  · rfl
theorem cell_set_eq {cs : List AV} {i : Nat} {u : AV} (h : i < cs.length) : ((cs.set i u).drop i).take 1 = [u] := by
  apply List.ext_getElem?
  intro k
  simp only [List.getElem?_take, List.getElem?_drop]
  split
  · have : k = 0 := by omega
    subst this
    simp [h]
  · rw [List.getElem?_eq_none]; simp; omega
theorem take_set_ne {cs : List AV} {o : Nat} {u : AV} (h : 0 < o) : (cs.set o u).take 1 = cs.take 1 := by
  have := cell_set_ne (cs := cs) (o := o) (i := 0) (u := u) (by omega)
  simpa using this

theorem own_set {G H : Heap} {ty esz : Nat} {v : AV} {L : List (List AV)} (h : Own G H ty esz v L) {c : Nat} (hc : G.blk c ≠ none) (x : Blk) : Own G (H.set c x) ty esz v L := by
  obtain ⟨h0, h | ⟨b, g, wgen, h1, h2, h3, h4⟩ | ⟨b, g, ty', gen, wgen, h1, h2, h3, h4⟩⟩ := h
  · exact ⟨h0, .inl h⟩
  · exact ⟨h0, .inr (.inl ⟨b, g, wgen, h1, by rw [Heap.set_other _ _ _ (fun e => hc (by rw [← e]; exact h4))]; exact h2, h3, h4⟩)⟩
  · exact ⟨h0, .inr (.inr ⟨b, g, ty', gen, wgen, h1, by rw [Heap.set_other _ _ _ (fun e => hc (by rw [← e]; exact h4))]; exact h2, h3, h4⟩)⟩

def kindOf (cs : List AV) : Int := iAt cs 1
def okKind (cs : List AV) : Bool := decide (1 ≤ kindOf cs) && decide (kindOf cs ≤ 6)
def setIWR (i : Int) (wf rn : List Nat) : List AV → List AV
  | [_, b, c, d, e, f, _, _, q] => [.int .i64 i, b, c, d, e, f, .str wf, .str rn, q]
  | cs => cs
/-- The tasks with their identifiers. -/
def numb (nx : Int) (wf rn : List Nat) : List (List AV) → List (List AV)
  | [] => []
  | cs :: L => setIWR nx wf rn cs :: numb (nx + 1) wf rn L

theorem numb_snoc (wf rn : List Nat) : ∀ (L : List (List AV)) (nx : Int) (cs : List AV), numb nx wf rn (L ++ [cs]) = numb nx wf rn L ++ [setIWR (nx + L.length) wf rn cs]
  | [], nx, cs => by simp [numb]
  | c :: L, nx, cs => by
    simp only [List.cons_append, numb, numb_snoc wf rn L, List.length_cons]
    congr 3
    push_cast
    congr 1
    omega
theorem numb_len (wf rn : List Nat) : ∀ (L : List (List AV)) (nx : Int), (numb nx wf rn L).length = L.length
  | [], nx => rfl
  | c :: L, nx => by simp [numb, numb_len wf rn L]

noncomputable def zero37 : List AV := match zeroOf Try.prog 37 with | some (.agg cs) => cs | _ => []

theorem f15_ok {rc : List AV} {wf rn : List Nat} {nx : Int} {tv v : AV} {L M : List (List AV)} (hrl : rc.length = 34) (hrc : rc.all AV.isCell = true) (r0 : rc.take 1 = [.str wf]) (r1 : (rc.drop 1).take 1 = [.str rn]) (r31 : (rc.drop 31).take 1 = [tv]) (r32 : (rc.drop 32).take 1 = [.int .i64 nx])
    (H : Heap) (hF : Free H) (hv : Holds H 9 v L) (htv : Holds H 9 tv M) (hL : TaskL L) (hM : TaskL M) (hn : L.length ≤ 1000) (hm : M.length ≤ 1000) (hnx : nx ≤ 1000000000) (K : AV → Heap → Prop)
    (hK1 : L.all okKind = true → ∀ u H', Up H H' → Free H' → Own H H' 51 9 u (M ++ numb (if 1 > nx then 1 else nx) wf rn L) → K (.tuple [.agg ((rc.set 31 u).set 32 (.int .i64 ((if 1 > nx then 1 else nx) + L.length))), .int .i64 0]) H')
    (hK2 : L.all okKind = false → ∀ H', Up H H' → Free H' → K (.tuple [.agg zero37, .int .i64 11]) H') : WF Try.prog 15 [.agg rc, v] H K := by
  refine WF_body Try.func15 (by kernel_rfl) rfl Try.ntmps15 (by rw [Try.results15]) (of_decide_eq_true (by kernel_rfl)) ?_
  simp (maxSteps := 1000000) only [sy, fy, splice_one, splice_whole, List.length_set, implies_true, evBuildSlice, fillE, fillA, AV.isCell, here, plain, laid, evOp, avOf, avCell, strOf, evBin, evInt, evStr, evUn, evResults, evResultsL, AV.isUndef, AV.cells, Heap.store, Nat.reduceMul, Nat.reducePow, Nat.reduceSub, Nat.reduceBEq, UInt8.reduceToNat, Nat.reduceEqDiff, Nat.reduceLT, reduceCtorEq, Nat.reduceAdd, Nat.reduceLeDiff, hF.at, hF.hp, hrl, r31, r32, ev_max]
  generalize hnx' : (if 1 > nx then 1 else nx) = nx' at *
  have hnx2 : 1 ≤ nx' ∧ nx' ≤ 1000000000 := by rw [← hnx']; split <;> omega
  refine callStep (f31_ok _ (hF.hpF _) (htv.up (hF.hpU _)) hM (by omega) _ fun u0 H2 hU2 hF2 hO2 => ?_)
  obtain ⟨G, gU, gO, g0, g1, gH⟩ : ∃ G, Up G H2 ∧ Own G H2 51 9 u0 M ∧ G.blk H.next = some (.row 37 34 [rc] 0 0) ∧ G.blk (H.next + 1) = some (.row 37 34 [zero37] 0 0) ∧ Up H G :=
    ⟨_, hU2, hO2, by rw [hp_blk0]; rfl, by rw [hp_blk]; simp only [zero37, ze37]; rfl, hF.hpU _⟩
  have hvG := hv.up gH
  have hz : zero37.length = 34 := by simp only [zero37, ze37]; rfl
  simp (maxSteps := 1000000) only [sy, fy, splice_one, splice_whole, List.length_set, implies_true, evBuildSlice, fillE, fillA, AV.isCell, here, plain, laid, evOp, avOf, avCell, strOf, evBin, evInt, evStr, evUn, evResults, evResultsL, AV.isUndef, AV.cells, Heap.store, Nat.reduceMul, Nat.reducePow, Nat.reduceSub, Nat.reduceBEq, UInt8.reduceToNat, Nat.reduceEqDiff, Nat.reduceLT, reduceCtorEq, Nat.reduceAdd, Nat.reduceLeDiff, (hvG.up gU).lenAt und35]
  refine loopStep' (fun env H' => ∃ (i : Nat) (out : AV), i ≤ L.length ∧ env.at (.tmp 18) = .int .i64 i ∧ env.at (.tmp 17) = .int .i64 L.length ∧ env.at (.tmp 16) = v ∧ env.at (.tmp 7) = out ∧ env.at (.tmp 6) = .int .i64 (nx' + i) ∧
      env.at (.tmp 2) = .ptr H.next 0 0 0 ∧ env.at (.tmp 4) = .ptr (H.next + 1) 0 0 0 ∧ (L.take i).all okKind = true ∧ Own G H' 51 9 out (M ++ numb nx' wf rn (L.take i)) ∧ Up G H' ∧ Free H')
    (fun env H' => match env.at (.tmp 18) with | .int _ i => ((L.length : Int) - i).toNat | _ => 0) ?_ ?_
  · refine ⟨0, u0, Nat.zero_le _, ?_, ?_, ?_, ?_, ?_, ?_, ?_, rfl, ?_, gU, hF2⟩
    · simp only [sy, fy, implies_true, evBuildSlice, fillE, fillA, splice, AV.isCell, here, plain, laid, evOp, avOf, avCell, strOf, evBin, evInt, evStr, evUn, evResults, evResultsL, AV.isUndef, AV.cells, Heap.store, Nat.reduceMul, Nat.reducePow, Nat.reduceSub, Nat.reduceBEq, UInt8.reduceToNat, Nat.reduceEqDiff, Nat.reduceLT, reduceCtorEq, Nat.reduceAdd, Nat.reduceLeDiff]; rfl
    · simp only [sy, fy, implies_true, evBuildSlice, fillE, fillA, splice, AV.isCell, here, plain, laid, evOp, avOf, avCell, strOf, evBin, evInt, evStr, evUn, evResults, evResultsL, AV.isUndef, AV.cells, Heap.store, Nat.reduceMul, Nat.reducePow, Nat.reduceSub, Nat.reduceBEq, UInt8.reduceToNat, Nat.reduceEqDiff, Nat.reduceLT, reduceCtorEq, Nat.reduceAdd, Nat.reduceLeDiff]
    · simp only [sy, fy, implies_true, evBuildSlice, fillE, fillA, splice, AV.isCell, here, plain, laid, evOp, avOf, avCell, strOf, evBin, evInt, evStr, evUn, evResults, evResultsL, AV.isUndef, AV.cells, Heap.store, Nat.reduceMul, Nat.reducePow, Nat.reduceSub, Nat.reduceBEq, UInt8.reduceToNat, Nat.reduceEqDiff, Nat.reduceLT, reduceCtorEq, Nat.reduceAdd, Nat.reduceLeDiff]
    · simp only [sy, fy, implies_true, evBuildSlice, fillE, fillA, splice, AV.isCell, here, plain, laid, evOp, avOf, avCell, strOf, evBin, evInt, evStr, evUn, evResults, evResultsL, AV.isUndef, AV.cells, Heap.store, Nat.reduceMul, Nat.reducePow, Nat.reduceSub, Nat.reduceBEq, UInt8.reduceToNat, Nat.reduceEqDiff, Nat.reduceLT, reduceCtorEq, Nat.reduceAdd, Nat.reduceLeDiff]
    · simp only [sy, fy, implies_true, evBuildSlice, fillE, fillA, splice, AV.isCell, here, plain, laid, evOp, avOf, avCell, strOf, evBin, evInt, evStr, evUn, evResults, evResultsL, AV.isUndef, AV.cells, Heap.store, Nat.reduceMul, Nat.reducePow, Nat.reduceSub, Nat.reduceBEq, UInt8.reduceToNat, Nat.reduceEqDiff, Nat.reduceLT, reduceCtorEq, Nat.reduceAdd, Nat.reduceLeDiff]; simp
    · simp only [sy, fy, implies_true, evBuildSlice, fillE, fillA, splice, AV.isCell, here, plain, laid, evOp, avOf, avCell, strOf, evBin, evInt, evStr, evUn, evResults, evResultsL, AV.isUndef, AV.cells, Heap.store, Nat.reduceMul, Nat.reducePow, Nat.reduceSub, Nat.reduceBEq, UInt8.reduceToNat, Nat.reduceEqDiff, Nat.reduceLT, reduceCtorEq, Nat.reduceAdd, Nat.reduceLeDiff]
    · simp only [sy, fy, implies_true, evBuildSlice, fillE, fillA, splice, AV.isCell, here, plain, laid, evOp, avOf, avCell, strOf, evBin, evInt, evStr, evUn, evResults, evResultsL, AV.isUndef, AV.cells, Heap.store, Nat.reduceMul, Nat.reducePow, Nat.reduceSub, Nat.reduceBEq, UInt8.reduceToNat, Nat.reduceEqDiff, Nat.reduceLT, reduceCtorEq, Nat.reduceAdd, Nat.reduceLeDiff]
    · simpa [numb] using gO
  · rintro env H' ⟨i, out, hi, e18, e17, e16, e7, e6, e2, e4, hok, hO, hU, hF'⟩
    have b0 := hU _ _ g0
    have b1 := hU _ _ g1
    by_cases hlt : i < L.length
    · obtain ⟨cs, hcs⟩ : ∃ cs, L[i]? = some cs := ⟨_, List.getElem?_eq_getElem hlt⟩
      obtain ⟨tid, tk, tev, tsq, tdue, tatt, twf, trn, tq, rfl⟩ := hL cs (List.mem_of_getElem? hcs)
      obtain ⟨p, hp, hload, _⟩ := (hvG.up hU).index und35 sz51 .i64 hcs
      have hold0 : ∀ xs, (HP H' xs).blk H.next = some (.row 37 34 [rc] 0 0) := fun xs => hF'.hpU xs _ _ b0
      have hold1 : ∀ xs, (HP H' xs).blk (H.next + 1) = some (.row 37 34 [zero37] 0 0) := fun xs => hF'.hpU xs _ _ b1
      have hkind : okKind (task tid tk tev tsq tdue tatt twf trn tq) = (decide (1 ≤ tk) && decide (tk ≤ 6)) := rfl
      have hbad : ¬ (1 ≤ tk ∧ tk ≤ 6) → L.all okKind = false := fun hb => by
        rw [List.all_eq_false]
        refine ⟨_, List.mem_of_getElem? hcs, ?_⟩
        rw [hkind]
        simpa using hb
      have hw : IntKind.i64.wrap (nx' + (i : Int) + 1) = nx' + ((i + 1 : Nat) : Int) := by
        rw [IntWalk.i64_in _ (by omega)]; omega
      by_cases k1 : tk < 1
      · have hK := hK2 (hbad (by omega))
        simp only [zero37, ze37] at hK
        simp (maxSteps := 1000000) only [sy, fy, splice_one, splice_whole, List.length_set, implies_true, evBuildSlice, fillE, fillA, AV.isCell, here, plain, laid, evOp, avOf, avCell, strOf, evBin, evInt, evStr, evUn, evResults, evResultsL, AV.isUndef, AV.cells, Heap.store, Nat.reduceMul, Nat.reducePow, Nat.reduceSub, Nat.reduceBEq, UInt8.reduceToNat, Nat.reduceEqDiff, Nat.reduceLT, reduceCtorEq, Nat.reduceAdd, Nat.reduceLeDiff, e18, e17, e16, e7, e6, e2, e4, lt_true hlt, hF'.at, hF'.hp, hp, hload H' (Up.refl _), task, k1, hold1, hz, set_same, set_next, evResult_cell]
        exact hK _ (((gH.trans hU).trans (hF'.hpU _)).set (hF _ (by omega)) _) ((hF'.hpF _).set ((hF'.hpF _).lt (hold1 _)) _)
      · by_cases k2 : tk > 6
        · have hK := hK2 (hbad (by omega))
          simp only [zero37, ze37] at hK
          simp (maxSteps := 1000000) only [sy, fy, splice_one, splice_whole, List.length_set, implies_true, evBuildSlice, fillE, fillA, AV.isCell, here, plain, laid, evOp, avOf, avCell, strOf, evBin, evInt, evStr, evUn, evResults, evResultsL, AV.isUndef, AV.cells, Heap.store, Nat.reduceMul, Nat.reducePow, Nat.reduceSub, Nat.reduceBEq, UInt8.reduceToNat, Nat.reduceEqDiff, Nat.reduceLT, reduceCtorEq, Nat.reduceAdd, Nat.reduceLeDiff, e18, e17, e16, e7, e6, e2, e4, lt_true hlt, hF'.at, hF'.hp, hp, hload H' (Up.refl _), task, k1, k2, hold1, hz, set_same, set_next, evResult_cell]
          exact hK _ (((gH.trans hU).trans (hF'.hpU _)).set (hF _ (by omega)) _) ((hF'.hpF _).set ((hF'.hpF _).lt (hold1 _)) _)
        · simp (maxSteps := 1000000) only [sy, fy, splice_one, splice_whole, List.length_set, implies_true, evBuildSlice, fillE, fillA, AV.isCell, here, plain, laid, evOp, avOf, avCell, strOf, evBin, evInt, evStr, evUn, evResults, evResultsL, AV.isUndef, AV.cells, Heap.store, Nat.reduceMul, Nat.reducePow, Nat.reduceSub, Nat.reduceBEq, UInt8.reduceToNat, Nat.reduceEqDiff, Nat.reduceLT, reduceCtorEq, Nat.reduceAdd, Nat.reduceLeDiff, e18, e17, e16, e7, e6, e2, e4, lt_true hlt, hF'.at, hF'.hp, hp, hload H' (Up.refl _), task, k1, k2, hold0, r0, r1]
          refine opStep_append app35 (hO.up (hF'.hpU _)) (hF'.hpF _) (hU.trans (hF'.hpU _)) (holds_hp rfl rfl (Nat.le_refl _) (by simp)) (by simp [AV.isCell]) ?_ ?_ (fun u K' hO4 hU4 hF4 => ?_)
          · simp [numb_len, maxBytes]; omega
          · simp [numb_len, maxBytes]; omega
          simp (maxSteps := 1000000) only [sy, fy, splice_one, splice_whole, List.length_set, implies_true, evBuildSlice, fillE, fillA, AV.isCell, here, plain, laid, evOp, avOf, avCell, strOf, evBin, evInt, evStr, evUn, evResults, evResultsL, AV.isUndef, AV.cells, Heap.store, Nat.reduceMul, Nat.reducePow, Nat.reduceSub, Nat.reduceBEq, UInt8.reduceToNat, Nat.reduceEqDiff, Nat.reduceLT, reduceCtorEq, Nat.reduceAdd, Nat.reduceLeDiff, e18, e17, e16, e7, e6, e2, e4, hw, wrap_succ (i := i) (by omega)]
          refine ⟨⟨i + 1, u, hlt, rfl, rfl, rfl, ?_, ?_, hU4, hF4⟩, ?_⟩
          · rw [List.take_add_one, hcs]
            simp [hok, hkind]; omega
          · rw [List.take_add_one, hcs]
            simpa [numb_snoc, setIWR, task, Nat.min_eq_left hi] using hO4
          · omega
    · obtain rfl : i = L.length := by omega
      have hK := hK1 (by simpa using hok)
      have hcell1 : ((rc.set 31 out).set 32 (.int .i64 (nx' + L.length))).all AV.isCell = true := by
        rw [List.all_eq_true] at hrc ⊢
        intro x hx
        rcases List.mem_or_eq_of_mem_set hx with hx | rfl
        · rcases List.mem_or_eq_of_mem_set hx with hx | rfl
          · exact hrc x hx
          · obtain ⟨_, ⟨_, rfl | rfl⟩ | ⟨_, _, _, rfl, _⟩ | ⟨_, _, _, _, _, rfl, _⟩⟩ := hO <;> rfl
        · rfl
      have hlen2 : ((rc.set 31 out).set 32 (.int .i64 (nx' + L.length))).take 34 = (rc.set 31 out).set 32 (.int .i64 (nx' + L.length)) := List.take_of_length_le (by simp [hrl])
      have hF3 := hF'.set (hF'.lt b0) (.row 37 34 [((rc.set 31 out).set 32 (.int .i64 (nx' + L.length)))] 0 0)
      have fin : ∀ y, Up H ((H'.set H.next (.row 37 34 [((rc.set 31 out).set 32 (.int .i64 (nx' + L.length)))] 0 0)).set (H.next + 1) y) ∧ Free ((H'.set H.next (.row 37 34 [((rc.set 31 out).set 32 (.int .i64 (nx' + L.length)))] 0 0)).set (H.next + 1) y) ∧
          Own H ((H'.set H.next (.row 37 34 [((rc.set 31 out).set 32 (.int .i64 (nx' + L.length)))] 0 0)).set (H.next + 1) y) 51 9 out (M ++ numb nx' wf rn L) := fun y =>
        ⟨((gH.trans hU).set (hF _ (Nat.le_refl _)) _).set (hF _ (by omega)) _, hF3.set (hF'.lt b1) _, by
          have := (own_set (own_set hO (c := H.next) (by rw [g0]; simp) (.row 37 34 [((rc.set 31 out).set 32 (.int .i64 (nx' + L.length)))] 0 0)) (c := H.next + 1) (by rw [g1]; simp) y).base gH
          simpa using this⟩
      have hsh : out = .nilslice ∨ out = .eslice ∨ ∃ b o l c ex g, out = .slice b o l c ex g := by
        obtain ⟨_, ⟨_, h | h⟩ | ⟨_, _, _, h, _⟩ | ⟨_, _, _, _, _, h, _⟩⟩ := hO
        · exact .inl h
        · exact .inr (.inl h)
        · exact .inr (.inr ⟨_, _, _, _, _, _, h⟩)
        · exact .inr (.inr ⟨_, _, _, _, _, _, h⟩)
      rcases hsh with rfl | rfl | ⟨b, o, l, c, ex, g, rfl⟩
      all_goals
        simp (maxSteps := 1000000) only [sy, fy, splice_one, splice_whole, List.length_set, implies_true, evBuildSlice, fillE, fillA, AV.isCell, here, plain, laid, evOp, avOf, avCell, strOf, evBin, evInt, evStr, evUn, evResults, evResultsL, AV.isUndef, AV.cells, Heap.store, Nat.reduceMul, Nat.reducePow, Nat.reduceSub, Nat.reduceBEq, UInt8.reduceToNat, Nat.reduceEqDiff, Nat.reduceLT, reduceCtorEq, Nat.reduceAdd, Nat.reduceLeDiff, e18, e17, e16, e7, e6, e2, e4, lt_false hlt, b0, b1, hrl, hz, set_same, set_next, set_set_same, set_01, set_10, evResult_cell, hcell1, hlen2]
        exact hK _ _ (fin _).1 (fin _).2.1 (fin _).2.2
end Go.Proofs.T
end
section
set_option linter.unusedVariables false
set_option linter.unusedSimpArgs false
set_option maxRecDepth 100000
namespace Go.Proofs.T
open Go.Ev

theorem own_index {P : Program} {G H : Heap} {ty esz : Nat} {v : AV} {L : List (List AV)} (h : Own G H ty esz v L) {t e : TypeId} (ht : P.underlying t = some (.slice e)) (hs : szOf P e = some esz) (k : IntKind) {i : Nat} {cs : List AV} (hi : L[i]? = some cs) :
    ∃ b j g ty els gen wgen, evIndexAddr P H t v (.int k i) = some (.ptr b j 0 g) ∧ H.blk b = some (.row ty esz els gen wgen) ∧ wgen ≤ g ∧ els[j]? = some cs := by
  rcases index2 h.holds ht hs k hi with h1 | h1
  · exfalso
    obtain ⟨_, ⟨rfl, _⟩ | ⟨b, g, wgen, rfl, h2, h3, h4⟩ | ⟨b, g, ty', gen, wgen, rfl, h2, h3, h4⟩⟩ := h
    · simp at hi
    all_goals
      simp only [evIndexAddr, ht] at h1
      split at h1
      · simp [hs] at h1
      · cases h1
  · exact h1

theorem own_slice {G H : Heap} {ty esz : Nat} {v : AV} {L : List (List AV)} (h : Own G H ty esz v L) (hL : L ≠ []) : ∃ b ex g, v = .slice b 0 L.length L.length ex g := by
  obtain ⟨_, ⟨h, _⟩ | ⟨b, g, wgen, h, _⟩ | ⟨b, g, ty', gen, wgen, h, _⟩⟩ := h
  · exact absurd h hL
  · exact ⟨_, _, _, h⟩
  · exact ⟨_, _, _, h⟩

def wQ : List Nat := [119]
def rQ : List Nat := [114, 49]

theorem f10_ok (H : Heap) (hF : Free H) (K : AV → Heap → Prop) (hK : ∀ H', Up H H' → Free H' → K (.bool true) H') : WF Try.prog 10 [] H K := by
  refine WF_body Try.func10 (by kernel_rfl) rfl Try.ntmps10 (by rw [Try.results10]) (of_decide_eq_true (by kernel_rfl)) ?_
  simp (maxSteps := 1000000) only [sy, fy, splice_one, splice_whole, List.length_set, implies_true, evBuildSlice, fillE, fillA, AV.isCell, here, plain, laid, evOp, avOf, avCell, strOf, evBin, evInt, evStr, evUn, evResults, evResultsL, AV.isUndef, AV.cells, Heap.store, Nat.reduceMul, Nat.reducePow, Nat.reduceSub, Nat.reduceBEq, UInt8.reduceToNat, Nat.reduceEqDiff, Nat.reduceLT, reduceCtorEq, Nat.reduceAdd, Nat.reduceLeDiff, hF.at, hF.hp]
  refine callStep ?_
  refine f11_ok (L := [_, _]) (v := .slice (H.next + 1) 0 2 2 true 0) rfl rfl rfl _ (hF.hpF _) (holds_hp (k := 1) (ty := 63) rfl rfl (by decide) ?_) ?_ (by simp) _ (fun t2 H2 hU2 hF2 hO2 => ?_)
  · simp
  · intro cs hc
    simp only [List.mem_cons, List.not_mem_nil, or_false] at hc
    rcases hc with rfl | rfl <;> exact ⟨rfl, rfl, rfl, rfl, rfl, rfl, rfl⟩
  have b0 : H2.blk H.next = some (.row 37 34 [_] 0 0) := hU2 _ _ (by rw [hp_blk0]; rfl)
  have hO2' : Own _ H2 51 9 t2 [task 0 6 1 0 0 0 wQ rQ [], task 0 1 2 0 0 0 wQ rQ mainQ] := hO2
  simp (maxSteps := 1000000) only [sy, fy, splice_one, splice_whole, List.length_set, implies_true, evBuildSlice, fillE, fillA, AV.isCell, here, plain, laid, evOp, avOf, avCell, strOf, evBin, evInt, evStr, evUn, evResults, evResultsL, AV.isUndef, AV.cells, Heap.store, Nat.reduceMul, Nat.reducePow, Nat.reduceSub, Nat.reduceBEq, UInt8.reduceToNat, Nat.reduceEqDiff, Nat.reduceLT, reduceCtorEq, Nat.reduceAdd, Nat.reduceLeDiff, b0]
  refine callStep (f15_ok (wf := wQ) (rn := rQ) (nx := 0) (tv := .nilslice) (M := []) rfl rfl rfl rfl rfl rfl _ hF2 hO2'.holds Holds.nil ?_ (by simp [TaskL]) (by simp) (by simp) (by simp) _ (fun hok u H3 hU3 hF3 hO3 => ?_) (fun hbad => ?_))
  · intro cs hc
    simp only [List.mem_cons, List.not_mem_nil, or_false] at hc
    rcases hc with rfl | rfl <;> exact ⟨_, _, _, _, _, _, _, _, _, rfl⟩
  · have hO3' : Own H2 H3 51 9 u [task 1 6 1 0 0 0 wQ rQ [], task 2 1 2 0 0 0 wQ rQ mainQ] := hO3
    have b0' := hU3 _ _ b0
    obtain ⟨ub, uex, ug, rfl⟩ := own_slice hO3' (by simp)
    have hold3 := fun xs => hF3.hpU xs _ _ b0'
    simp (maxSteps := 1000000) only [sy, fy, splice_one, splice_whole, List.length_set, implies_true, evBuildSlice, fillE, fillA, AV.isCell, here, plain, laid, evOp, avOf, avCell, strOf, evBin, evInt, evStr, evUn, evResults, evResultsL, AV.isUndef, AV.cells, Heap.store, Nat.reduceMul, Nat.reducePow, Nat.reduceSub, Nat.reduceBEq, UInt8.reduceToNat, Nat.reduceEqDiff, Nat.reduceLT, reduceCtorEq, Nat.reduceAdd, Nat.reduceLeDiff, b0', hold3, hF3.at, hF3.hp]
    refine callStep ?_
    refine f11_ok (L := [_]) (v := .slice (H3.next + 1) 0 1 1 true 0) rfl rfl rfl _ (hF3.hpF _) (holds_hp (k := 1) (ty := 63) rfl rfl (by decide) ?_) ?_ (by simp) _ (fun t5 H4 hU4 hF4 hO4 => ?_)
    · simp
    · intro cs hc
      simp only [List.mem_cons, List.not_mem_nil, or_false] at hc
      subst hc
      exact ⟨rfl, rfl, rfl, rfl, rfl, rfl, rfl⟩
    · have hO4' : Own _ H4 51 9 t5 [task 0 5 9 0 0 0 wQ rQ [], task 0 6 9 0 0 0 wQ rQ []] := hO4
      have hO3'' := (hO3'.up (hF3.hpU _)).up hU4
      have hO2'' := ((hO2'.up hU3).up (hF3.hpU _)).up hU4
      obtain ⟨tb, tex, tg, rfl⟩ := own_slice hO4' (by simp)
      obtain ⟨sb, sex, sg, rfl⟩ := own_slice hO2'' (by simp)
      obtain ⟨a1, a2, a3, a4, a5, a6, a7, a8, a9, a10, a11⟩ := own_index hO3'' und35 sz51 .i64 (i := 0) rfl
      obtain ⟨c1, c2, c3, c4, c5, c6, c7, c8, c9, c10, c11⟩ := own_index hO3'' und35 sz51 .i64 (i := 1) rfl
      obtain ⟨d1, d2, d3, d4, d5, d6, d7, d8, d9, d10, d11⟩ := own_index hO4' und35 sz51 .i64 (i := 0) rfl
      obtain ⟨e1, e2, e3, e4, e5, e6, e7, e8, e9, e10, e11⟩ := own_index hO4' und35 sz51 .i64 (i := 1) rfl
      have b3 : H4.blk H3.next = some (.row 37 34 [_] 0 0) := hU4 _ _ (by rw [hp_blk0]; rfl)
      have a8' : evIndexAddr Try.prog H4 35 (.slice ub 0 2 2 uex ug) (.int .i64 0) = some (.ptr a1 a2 0 a3) := a8
      have c8' : evIndexAddr Try.prog H4 35 (.slice ub 0 2 2 uex ug) (.int .i64 1) = some (.ptr c1 c2 0 c3) := c8
      have d8' : evIndexAddr Try.prog H4 35 (.slice tb 0 2 2 tex tg) (.int .i64 0) = some (.ptr d1 d2 0 d3) := d8
      have e8' : evIndexAddr Try.prog H4 35 (.slice tb 0 2 2 tex tg) (.int .i64 1) = some (.ptr e1 e2 0 e3) := e8
      have ts : eqA Try.prog 10000 51 (.agg [.int .i64 2, .int .i64 1, .int .i64 2, .int .i64 0, .int .i64 0, .int .i64 0, .str [119], .str [114, 49], .str [109, 97, 105, 110]]) (.agg [.int .i64 2, .int .i64 1, .int .i64 2, .int .i64 0, .int .i64 0, .int .i64 0, .str [119], .str [114, 49], .str [109, 97, 105, 110]]) = some true := task_same 2 1 2 0 0 0 wQ rQ mainQ
      simp (maxSteps := 1000000) only [sy, fy, splice_one, splice_whole, List.length_set, implies_true, evBuildSlice, fillE, fillA, AV.isCell, here, plain, laid, evOp, avOf, avCell, strOf, evBin, evInt, evStr, evUn, evResults, evResultsL, AV.isUndef, AV.cells, Heap.store, Nat.reduceMul, Nat.reducePow, Nat.reduceSub, Nat.reduceBEq, UInt8.reduceToNat, Nat.reduceEqDiff, Nat.reduceLT, reduceCtorEq, Nat.reduceAdd, Nat.reduceLeDiff, b3, a8', c8', d8', e8', a9, a10, a11, c9, c10, c11, d9, d10, d11, e9, e10, e11, lns35, task, wQ, rQ, mainQ, ts, task_eqOk, gt_iff_lt, Int.reduceLT, Int.reduceAdd, Int.reduceBEq, Int.reduceBNe, Int.cast_ofNat_Int, Int.zero_lt_one]
      exact hK _ (((((hF.hpU _).trans hU2).trans hU3).trans (hF3.hpU _)).trans hU4) hF4
  · exact absurd hbad (by decide)
end Go.Proofs.T
end
section
set_option linter.unusedVariables false
set_option linter.unusedSimpArgs false
namespace Go.Proofs.T
open Go.Ev
theorem ag4 : aggOf Try.prog 4 = some false := by kernel_rfl
theorem sz4 : szOf Try.prog 4 = some 1 := by kernel_rfl
theorem und4 : Try.prog.underlying 4 = some .bool := by kernel_rfl
theorem ag44 : aggOf Try.prog 44 = some false := by kernel_rfl
theorem sz44 : szOf Try.prog 44 = some 1 := by kernel_rfl
theorem und44 : Try.prog.underlying 44 = some (.slice 3) := by kernel_rfl
theorem el44 : elemOfSlice Try.prog 44 = some 3 := by kernel_rfl
theorem fd37_2 : fieldOf Try.prog 37 2 = some ({ name := "Parent", type := 9, offset := 2, embedded := false, tag := "", pkgPath := "", byteOffset := 32 }) := by kernel_rfl
theorem fd37_10 : fieldOf Try.prog 37 10 = some ({ name := "Version", type := 3, offset := 33, embedded := false, tag := "", pkgPath := "", byteOffset := 536 }) := by kernel_rfl
end Go.Proofs.T
end
section
set_option linter.unusedVariables false
set_option linter.unusedSimpArgs false
namespace Go.Proofs.T
open Go.Ev
theorem ag5 : aggOf Try.prog 5 = some false := by kernel_rfl
theorem sz5 : szOf Try.prog 5 = some 1 := by kernel_rfl
theorem und5 : Try.prog.underlying 5 = some (.int IntKind.u8) := by kernel_rfl
theorem ag27 : aggOf Try.prog 27 = some false := by kernel_rfl
theorem sz27 : szOf Try.prog 27 = some 1 := by kernel_rfl
theorem und27 : Try.prog.underlying 27 = some (.slice 60) := by kernel_rfl
theorem el27 : elemOfSlice Try.prog 27 = some 60 := by kernel_rfl
theorem ag28 : aggOf Try.prog 28 = some false := by kernel_rfl
theorem sz28 : szOf Try.prog 28 = some 1 := by kernel_rfl
theorem und28 : Try.prog.underlying 28 = some (.slice 107) := by kernel_rfl
theorem el28 : elemOfSlice Try.prog 28 = some 107 := by kernel_rfl
theorem ag29 : aggOf Try.prog 29 = some false := by kernel_rfl
theorem sz29 : szOf Try.prog 29 = some 1 := by kernel_rfl
theorem und29 : Try.prog.underlying 29 = some (.slice 109) := by kernel_rfl
theorem el29 : elemOfSlice Try.prog 29 = some 109 := by kernel_rfl
theorem ag30 : aggOf Try.prog 30 = some false := by kernel_rfl
theorem sz30 : szOf Try.prog 30 = some 1 := by kernel_rfl
theorem und30 : Try.prog.underlying 30 = some (.slice 111) := by kernel_rfl
theorem el30 : elemOfSlice Try.prog 30 = some 111 := by kernel_rfl
theorem ag31 : aggOf Try.prog 31 = some false := by kernel_rfl
theorem sz31 : szOf Try.prog 31 = some 1 := by kernel_rfl
theorem und31 : Try.prog.underlying 31 = some (.slice 120) := by kernel_rfl
theorem el31 : elemOfSlice Try.prog 31 = some 120 := by kernel_rfl
theorem ag33 : aggOf Try.prog 33 = some true := by kernel_rfl
theorem sz33 : szOf Try.prog 33 = some 24 := by kernel_rfl
theorem ag60 : aggOf Try.prog 60 = some true := by kernel_rfl
theorem sz60 : szOf Try.prog 60 = some 32 := by kernel_rfl
theorem ag88 : aggOf Try.prog 88 = some true := by kernel_rfl
theorem sz88 : szOf Try.prog 88 = some 20 := by kernel_rfl
theorem ag97 : aggOf Try.prog 97 = some true := by kernel_rfl
theorem sz97 : szOf Try.prog 97 = some 8 := by kernel_rfl
theorem ag107 : aggOf Try.prog 107 = some true := by kernel_rfl
theorem sz107 : szOf Try.prog 107 = some 3 := by kernel_rfl
theorem ag109 : aggOf Try.prog 109 = some true := by kernel_rfl
theorem sz109 : szOf Try.prog 109 = some 6 := by kernel_rfl
theorem ag111 : aggOf Try.prog 111 = some true := by kernel_rfl
theorem sz111 : szOf Try.prog 111 = some 4 := by kernel_rfl
theorem ag120 : aggOf Try.prog 120 = some true := by kernel_rfl
theorem sz120 : szOf Try.prog 120 = some 2 := by kernel_rfl
theorem ag128 : aggOf Try.prog 128 = some false := by kernel_rfl
theorem sz128 : szOf Try.prog 128 = some 1 := by kernel_rfl
theorem und128 : Try.prog.underlying 128 = some (.slice 5) := by kernel_rfl
theorem el128 : elemOfSlice Try.prog 128 = some 5 := by kernel_rfl
theorem fd26_0 : fieldOf Try.prog 26 0 = some ({ name := "Kind", type := 3, offset := 0, embedded := false, tag := "", pkgPath := "", byteOffset := 0 }) := by kernel_rfl
theorem fd26_1 : fieldOf Try.prog 26 1 = some ({ name := "Int", type := 3, offset := 1, embedded := false, tag := "", pkgPath := "", byteOffset := 8 }) := by kernel_rfl
theorem fd33_0 : fieldOf Try.prog 33 0 = some ({ name := "Next", type := 3, offset := 0, embedded := false, tag := "", pkgPath := "", byteOffset := 0 }) := by kernel_rfl
theorem fd33_1 : fieldOf Try.prog 33 1 = some ({ name := "Status", type := 3, offset := 1, embedded := false, tag := "", pkgPath := "", byteOffset := 8 }) := by kernel_rfl
theorem fd33_2 : fieldOf Try.prog 33 2 = some ({ name := "Task", type := 3, offset := 2, embedded := false, tag := "", pkgPath := "", byteOffset := 16 }) := by kernel_rfl
theorem fd33_3 : fieldOf Try.prog 33 3 = some ({ name := "TaskID", type := 3, offset := 3, embedded := false, tag := "", pkgPath := "", byteOffset := 24 }) := by kernel_rfl
theorem fd33_4 : fieldOf Try.prog 33 4 = some ({ name := "Attempt", type := 3, offset := 4, embedded := false, tag := "", pkgPath := "", byteOffset := 32 }) := by kernel_rfl
theorem fd33_5 : fieldOf Try.prog 33 5 = some ({ name := "Seq", type := 3, offset := 5, embedded := false, tag := "", pkgPath := "", byteOffset := 40 }) := by kernel_rfl
theorem fd33_8 : fieldOf Try.prog 33 8 = some ({ name := "Attrs", type := 26, offset := 12, embedded := false, tag := "", pkgPath := "", byteOffset := 144 }) := by kernel_rfl
theorem fd33_9 : fieldOf Try.prog 33 9 = some ({ name := "Cancel", type := 4, offset := 17, embedded := false, tag := "", pkgPath := "", byteOffset := 224 }) := by kernel_rfl
theorem fd33_10 : fieldOf Try.prog 33 10 = some ({ name := "Acts", type := 27, offset := 18, embedded := false, tag := "", pkgPath := "", byteOffset := 232 }) := by kernel_rfl
theorem fd33_11 : fieldOf Try.prog 33 11 = some ({ name := "Timers", type := 28, offset := 19, embedded := false, tag := "", pkgPath := "", byteOffset := 256 }) := by kernel_rfl
theorem fd33_12 : fieldOf Try.prog 33 12 = some ({ name := "Kids", type := 29, offset := 20, embedded := false, tag := "", pkgPath := "", byteOffset := 280 }) := by kernel_rfl
theorem fd33_13 : fieldOf Try.prog 33 13 = some ({ name := "Sends", type := 30, offset := 21, embedded := false, tag := "", pkgPath := "", byteOffset := 304 }) := by kernel_rfl
theorem fd33_14 : fieldOf Try.prog 33 14 = some ({ name := "Updates", type := 31, offset := 22, embedded := false, tag := "", pkgPath := "", byteOffset := 328 }) := by kernel_rfl
theorem fd33_15 : fieldOf Try.prog 33 15 = some ({ name := "Requests", type := 24, offset := 23, embedded := false, tag := "", pkgPath := "", byteOffset := 352 }) := by kernel_rfl
theorem fd37_5 : fieldOf Try.prog 37 5 = some ({ name := "Pending", type := 33, offset := 5, embedded := false, tag := "", pkgPath := "", byteOffset := 80 }) := by kernel_rfl
theorem fd51_2 : fieldOf Try.prog 51 2 = some ({ name := "Event", type := 3, offset := 2, embedded := false, tag := "", pkgPath := "", byteOffset := 16 }) := by kernel_rfl
theorem fd58_1 : fieldOf Try.prog 58 1 = some ({ name := "ToStart", type := 3, offset := 1, embedded := false, tag := "", pkgPath := "", byteOffset := 16 }) := by kernel_rfl
theorem fd58_2 : fieldOf Try.prog 58 2 = some ({ name := "ToClose", type := 3, offset := 2, embedded := false, tag := "", pkgPath := "", byteOffset := 24 }) := by kernel_rfl
theorem fd58_3 : fieldOf Try.prog 58 3 = some ({ name := "Total", type := 3, offset := 3, embedded := false, tag := "", pkgPath := "", byteOffset := 32 }) := by kernel_rfl
theorem fd58_4 : fieldOf Try.prog 58 4 = some ({ name := "Beat", type := 3, offset := 4, embedded := false, tag := "", pkgPath := "", byteOffset := 40 }) := by kernel_rfl
theorem fd58_5 : fieldOf Try.prog 58 5 = some ({ name := "First", type := 3, offset := 5, embedded := false, tag := "", pkgPath := "", byteOffset := 48 }) := by kernel_rfl
theorem fd58_6 : fieldOf Try.prog 58 6 = some ({ name := "Coef", type := 3, offset := 6, embedded := false, tag := "", pkgPath := "", byteOffset := 56 }) := by kernel_rfl
theorem fd58_7 : fieldOf Try.prog 58 7 = some ({ name := "Most", type := 3, offset := 7, embedded := false, tag := "", pkgPath := "", byteOffset := 64 }) := by kernel_rfl
theorem fd58_8 : fieldOf Try.prog 58 8 = some ({ name := "Attempts", type := 3, offset := 8, embedded := false, tag := "", pkgPath := "", byteOffset := 72 }) := by kernel_rfl
theorem fd60_0 : fieldOf Try.prog 60 0 = some ({ name := "Seq", type := 3, offset := 0, embedded := false, tag := "", pkgPath := "", byteOffset := 0 }) := by kernel_rfl
theorem fd60_1 : fieldOf Try.prog 60 1 = some ({ name := "Event", type := 3, offset := 1, embedded := false, tag := "", pkgPath := "", byteOffset := 8 }) := by kernel_rfl
theorem fd60_2 : fieldOf Try.prog 60 2 = some ({ name := "Name", type := 9, offset := 2, embedded := false, tag := "", pkgPath := "", byteOffset := 16 }) := by kernel_rfl
theorem fd60_3 : fieldOf Try.prog 60 3 = some ({ name := "Data", type := 26, offset := 3, embedded := false, tag := "", pkgPath := "", byteOffset := 32 }) := by kernel_rfl
theorem fd60_4 : fieldOf Try.prog 60 4 = some ({ name := "Opts", type := 58, offset := 8, embedded := false, tag := "", pkgPath := "", byteOffset := 112 }) := by kernel_rfl
theorem fd60_5 : fieldOf Try.prog 60 5 = some ({ name := "State", type := 3, offset := 18, embedded := false, tag := "", pkgPath := "", byteOffset := 216 }) := by kernel_rfl
theorem fd60_6 : fieldOf Try.prog 60 6 = some ({ name := "Attempt", type := 3, offset := 19, embedded := false, tag := "", pkgPath := "", byteOffset := 224 }) := by kernel_rfl
theorem fd60_7 : fieldOf Try.prog 60 7 = some ({ name := "Scheduled", type := 3, offset := 20, embedded := false, tag := "", pkgPath := "", byteOffset := 232 }) := by kernel_rfl
theorem fd60_12 : fieldOf Try.prog 60 12 = some ({ name := "Cancel", type := 4, offset := 25, embedded := false, tag := "", pkgPath := "", byteOffset := 272 }) := by kernel_rfl
theorem fd60_13 : fieldOf Try.prog 60 13 = some ({ name := "Details", type := 26, offset := 26, embedded := false, tag := "", pkgPath := "", byteOffset := 280 }) := by kernel_rfl
theorem fd60_14 : fieldOf Try.prog 60 14 = some ({ name := "Failure", type := 9, offset := 31, embedded := false, tag := "", pkgPath := "", byteOffset := 360 }) := by kernel_rfl
theorem fd63_4 : fieldOf Try.prog 63 4 = some ({ name := "Ref", type := 3, offset := 4, embedded := false, tag := "", pkgPath := "", byteOffset := 32 }) := by kernel_rfl
theorem fd63_5 : fieldOf Try.prog 63 5 = some ({ name := "N", type := 3, offset := 5, embedded := false, tag := "", pkgPath := "", byteOffset := 40 }) := by kernel_rfl
theorem fd63_6 : fieldOf Try.prog 63 6 = some ({ name := "Code", type := 3, offset := 6, embedded := false, tag := "", pkgPath := "", byteOffset := 48 }) := by kernel_rfl
theorem fd88_0 : fieldOf Try.prog 88 0 = some ({ name := "Kind", type := 3, offset := 0, embedded := false, tag := "", pkgPath := "", byteOffset := 0 }) := by kernel_rfl
theorem fd88_1 : fieldOf Try.prog 88 1 = some ({ name := "Seq", type := 3, offset := 1, embedded := false, tag := "", pkgPath := "", byteOffset := 8 }) := by kernel_rfl
theorem fd88_2 : fieldOf Try.prog 88 2 = some ({ name := "Name", type := 9, offset := 2, embedded := false, tag := "", pkgPath := "", byteOffset := 16 }) := by kernel_rfl
theorem fd88_3 : fieldOf Try.prog 88 3 = some ({ name := "Key", type := 9, offset := 3, embedded := false, tag := "", pkgPath := "", byteOffset := 32 }) := by kernel_rfl
theorem fd88_4 : fieldOf Try.prog 88 4 = some ({ name := "N", type := 3, offset := 4, embedded := false, tag := "", pkgPath := "", byteOffset := 48 }) := by kernel_rfl
theorem fd88_5 : fieldOf Try.prog 88 5 = some ({ name := "Data", type := 26, offset := 5, embedded := false, tag := "", pkgPath := "", byteOffset := 56 }) := by kernel_rfl
theorem fd88_6 : fieldOf Try.prog 88 6 = some ({ name := "Opts", type := 58, offset := 10, embedded := false, tag := "", pkgPath := "", byteOffset := 136 }) := by kernel_rfl
theorem fd97_0 : fieldOf Try.prog 97 0 = some ({ name := "seq", type := 4, offset := 0, embedded := false, tag := "", pkgPath := "workflow/workflowref22", byteOffset := 0 }) := by kernel_rfl
theorem fd97_1 : fieldOf Try.prog 97 1 = some ({ name := "ref", type := 4, offset := 1, embedded := false, tag := "", pkgPath := "workflow/workflowref22", byteOffset := 1 }) := by kernel_rfl
theorem fd97_2 : fieldOf Try.prog 97 2 = some ({ name := "n", type := 4, offset := 2, embedded := false, tag := "", pkgPath := "workflow/workflowref22", byteOffset := 2 }) := by kernel_rfl
theorem fd97_3 : fieldOf Try.prog 97 3 = some ({ name := "code", type := 4, offset := 3, embedded := false, tag := "", pkgPath := "workflow/workflowref22", byteOffset := 3 }) := by kernel_rfl
theorem fd97_4 : fieldOf Try.prog 97 4 = some ({ name := "name", type := 4, offset := 4, embedded := false, tag := "", pkgPath := "workflow/workflowref22", byteOffset := 4 }) := by kernel_rfl
theorem fd97_5 : fieldOf Try.prog 97 5 = some ({ name := "key", type := 4, offset := 5, embedded := false, tag := "", pkgPath := "workflow/workflowref22", byteOffset := 5 }) := by kernel_rfl
theorem fd97_6 : fieldOf Try.prog 97 6 = some ({ name := "data", type := 4, offset := 6, embedded := false, tag := "", pkgPath := "workflow/workflowref22", byteOffset := 6 }) := by kernel_rfl
theorem fd97_7 : fieldOf Try.prog 97 7 = some ({ name := "opts", type := 4, offset := 7, embedded := false, tag := "", pkgPath := "workflow/workflowref22", byteOffset := 7 }) := by kernel_rfl
theorem fd107_0 : fieldOf Try.prog 107 0 = some ({ name := "Seq", type := 3, offset := 0, embedded := false, tag := "", pkgPath := "", byteOffset := 0 }) := by kernel_rfl
theorem fd107_1 : fieldOf Try.prog 107 1 = some ({ name := "Event", type := 3, offset := 1, embedded := false, tag := "", pkgPath := "", byteOffset := 8 }) := by kernel_rfl
theorem fd109_0 : fieldOf Try.prog 109 0 = some ({ name := "Seq", type := 3, offset := 0, embedded := false, tag := "", pkgPath := "", byteOffset := 0 }) := by kernel_rfl
theorem fd109_1 : fieldOf Try.prog 109 1 = some ({ name := "Event", type := 3, offset := 1, embedded := false, tag := "", pkgPath := "", byteOffset := 8 }) := by kernel_rfl
theorem fd109_5 : fieldOf Try.prog 109 5 = some ({ name := "Run", type := 9, offset := 5, embedded := false, tag := "", pkgPath := "", byteOffset := 56 }) := by kernel_rfl
theorem fd111_0 : fieldOf Try.prog 111 0 = some ({ name := "Seq", type := 3, offset := 0, embedded := false, tag := "", pkgPath := "", byteOffset := 0 }) := by kernel_rfl
theorem fd111_1 : fieldOf Try.prog 111 1 = some ({ name := "Event", type := 3, offset := 1, embedded := false, tag := "", pkgPath := "", byteOffset := 8 }) := by kernel_rfl
theorem fd120_0 : fieldOf Try.prog 120 0 = some ({ name := "Key", type := 9, offset := 0, embedded := false, tag := "", pkgPath := "", byteOffset := 0 }) := by kernel_rfl
theorem fd120_1 : fieldOf Try.prog 120 1 = some ({ name := "Done", type := 4, offset := 1, embedded := false, tag := "", pkgPath := "", byteOffset := 16 }) := by kernel_rfl
theorem ze33 : zeroOf Try.prog 33 = some (AV.agg [AV.int IntKind.i64 0, AV.int IntKind.i64 0, AV.int IntKind.i64 0, AV.int IntKind.i64 0, AV.int IntKind.i64 0, AV.int IntKind.i64 0, AV.str [], AV.int IntKind.i64 0, AV.int IntKind.i64 0, AV.str [], AV.nilslice, AV.nilslice, AV.int IntKind.i64 0, AV.int IntKind.i64 0, AV.str [], AV.nilslice, AV.nilslice, AV.bool false, AV.nilslice, AV.nilslice, AV.nilslice, AV.nilslice, AV.nilslice, AV.nilslice]) := by kernel_rfl
theorem ze60 : zeroOf Try.prog 60 = some (AV.agg [AV.int IntKind.i64 0, AV.int IntKind.i64 0, AV.str [], AV.int IntKind.i64 0, AV.int IntKind.i64 0, AV.str [], AV.nilslice, AV.nilslice, AV.str [], AV.int IntKind.i64 0, AV.int IntKind.i64 0, AV.int IntKind.i64 0, AV.int IntKind.i64 0, AV.int IntKind.i64 0, AV.int IntKind.i64 0, AV.int IntKind.i64 0, AV.int IntKind.i64 0, AV.nilslice, AV.int IntKind.i64 0, AV.int IntKind.i64 0, AV.int IntKind.i64 0, AV.int IntKind.i64 0, AV.int IntKind.i64 0, AV.int IntKind.i64 0, AV.int IntKind.i64 0, AV.bool false, AV.int IntKind.i64 0, AV.int IntKind.i64 0, AV.str [], AV.nilslice, AV.nilslice, AV.str []]) := by kernel_rfl
theorem ze26 : zeroOf Try.prog 26 = some (AV.agg [AV.int IntKind.i64 0, AV.int IntKind.i64 0, AV.str [], AV.nilslice, AV.nilslice]) := by kernel_rfl
theorem ze97 : zeroOf Try.prog 97 = some (AV.agg [AV.bool false, AV.bool false, AV.bool false, AV.bool false, AV.bool false, AV.bool false, AV.bool false, AV.bool false]) := by kernel_rfl
theorem ze58 : zeroOf Try.prog 58 = some (AV.agg [AV.str [], AV.int IntKind.i64 0, AV.int IntKind.i64 0, AV.int IntKind.i64 0, AV.int IntKind.i64 0, AV.int IntKind.i64 0, AV.int IntKind.i64 0, AV.int IntKind.i64 0, AV.int IntKind.i64 0, AV.nilslice]) := by kernel_rfl
theorem ze88 : zeroOf Try.prog 88 = some (AV.agg [AV.int IntKind.i64 0, AV.int IntKind.i64 0, AV.str [], AV.str [], AV.int IntKind.i64 0, AV.int IntKind.i64 0, AV.int IntKind.i64 0, AV.str [], AV.nilslice, AV.nilslice, AV.str [], AV.int IntKind.i64 0, AV.int IntKind.i64 0, AV.int IntKind.i64 0, AV.int IntKind.i64 0, AV.int IntKind.i64 0, AV.int IntKind.i64 0, AV.int IntKind.i64 0, AV.int IntKind.i64 0, AV.nilslice]) := by kernel_rfl
theorem ze107 : zeroOf Try.prog 107 = some (AV.agg [AV.int IntKind.i64 0, AV.int IntKind.i64 0, AV.int IntKind.i64 0]) := by kernel_rfl
theorem ze109 : zeroOf Try.prog 109 = some (AV.agg [AV.int IntKind.i64 0, AV.int IntKind.i64 0, AV.str [], AV.str [], AV.int IntKind.i64 0, AV.str []]) := by kernel_rfl
theorem ze111 : zeroOf Try.prog 111 = some (AV.agg [AV.int IntKind.i64 0, AV.int IntKind.i64 0, AV.str [], AV.str []]) := by kernel_rfl
theorem ze120 : zeroOf Try.prog 120 = some (AV.agg [AV.str [], AV.bool false]) := by kernel_rfl
theorem ze9 : zeroOf Try.prog 9 = some (AV.str []) := by kernel_rfl
theorem ze3 : zeroOf Try.prog 3 = some (AV.int IntKind.i64 0) := by kernel_rfl
theorem ze5 : zeroOf Try.prog 5 = some (AV.int IntKind.u8 0) := by kernel_rfl
theorem bu33 (parts : List (Nat × AV)) : evBuild Try.prog 33 parts = (fillA (fun i => ([(0, 1),
 (1, 1),
 (2, 1),
 (3, 1),
 (4, 1),
 (5, 1),
 (6, 1),
 (7, 5),
 (12, 5),
 (17, 1),
 (18, 1),
 (19, 1),
 (20, 1),
 (21, 1),
 (22, 1),
 (23, 1)] : List (Nat × Nat))[i]?) [AV.int IntKind.i64 0, AV.int IntKind.i64 0, AV.int IntKind.i64 0, AV.int IntKind.i64 0, AV.int IntKind.i64 0, AV.int IntKind.i64 0, AV.str [], AV.int IntKind.i64 0, AV.int IntKind.i64 0, AV.str [], AV.nilslice, AV.nilslice, AV.int IntKind.i64 0, AV.int IntKind.i64 0, AV.str [], AV.nilslice, AV.nilslice, AV.bool false, AV.nilslice, AV.nilslice, AV.nilslice, AV.nilslice, AV.nilslice, AV.nilslice] parts).map .agg := evBuild_struct ze33 (by kernel_rfl) parts
theorem bu26 (parts : List (Nat × AV)) : evBuild Try.prog 26 parts = (fillA (fun i => ([(0, 1), (1, 1), (2, 1), (3, 1), (4, 1)] : List (Nat × Nat))[i]?) [AV.int IntKind.i64 0, AV.int IntKind.i64 0, AV.str [], AV.nilslice, AV.nilslice] parts).map .agg := evBuild_struct ze26 (by kernel_rfl) parts
theorem bu60 (parts : List (Nat × AV)) : evBuild Try.prog 60 parts = (fillA (fun i => ([(0, 1),
 (1, 1),
 (2, 1),
 (3, 5),
 (8, 10),
 (18, 1),
 (19, 1),
 (20, 1),
 (21, 1),
 (22, 1),
 (23, 1),
 (24, 1),
 (25, 1),
 (26, 5),
 (31, 1)] : List (Nat × Nat))[i]?) [AV.int IntKind.i64 0, AV.int IntKind.i64 0, AV.str [], AV.int IntKind.i64 0, AV.int IntKind.i64 0, AV.str [], AV.nilslice, AV.nilslice, AV.str [], AV.int IntKind.i64 0, AV.int IntKind.i64 0, AV.int IntKind.i64 0, AV.int IntKind.i64 0, AV.int IntKind.i64 0, AV.int IntKind.i64 0, AV.int IntKind.i64 0, AV.int IntKind.i64 0, AV.nilslice, AV.int IntKind.i64 0, AV.int IntKind.i64 0, AV.int IntKind.i64 0, AV.int IntKind.i64 0, AV.int IntKind.i64 0, AV.int IntKind.i64 0, AV.int IntKind.i64 0, AV.bool false, AV.int IntKind.i64 0, AV.int IntKind.i64 0, AV.str [], AV.nilslice, AV.nilslice, AV.str []] parts).map .agg := evBuild_struct ze60 (by kernel_rfl) parts
theorem bu58 (parts : List (Nat × AV)) : evBuild Try.prog 58 parts = (fillA (fun i => ([(0, 1), (1, 1), (2, 1), (3, 1), (4, 1), (5, 1), (6, 1), (7, 1), (8, 1), (9, 1)] : List (Nat × Nat))[i]?) [AV.str [], AV.int IntKind.i64 0, AV.int IntKind.i64 0, AV.int IntKind.i64 0, AV.int IntKind.i64 0, AV.int IntKind.i64 0, AV.int IntKind.i64 0, AV.int IntKind.i64 0, AV.int IntKind.i64 0, AV.nilslice] parts).map .agg := evBuild_struct ze58 (by kernel_rfl) parts
theorem bu88 (parts : List (Nat × AV)) : evBuild Try.prog 88 parts = (fillA (fun i => ([(0, 1), (1, 1), (2, 1), (3, 1), (4, 1), (5, 5), (10, 10)] : List (Nat × Nat))[i]?) [AV.int IntKind.i64 0, AV.int IntKind.i64 0, AV.str [], AV.str [], AV.int IntKind.i64 0, AV.int IntKind.i64 0, AV.int IntKind.i64 0, AV.str [], AV.nilslice, AV.nilslice, AV.str [], AV.int IntKind.i64 0, AV.int IntKind.i64 0, AV.int IntKind.i64 0, AV.int IntKind.i64 0, AV.int IntKind.i64 0, AV.int IntKind.i64 0, AV.int IntKind.i64 0, AV.int IntKind.i64 0, AV.nilslice] parts).map .agg := evBuild_struct ze88 (by kernel_rfl) parts
theorem bu107 (parts : List (Nat × AV)) : evBuild Try.prog 107 parts = (fillA (fun i => ([(0, 1), (1, 1), (2, 1)] : List (Nat × Nat))[i]?) [AV.int IntKind.i64 0, AV.int IntKind.i64 0, AV.int IntKind.i64 0] parts).map .agg := evBuild_struct ze107 (by kernel_rfl) parts
theorem bu109 (parts : List (Nat × AV)) : evBuild Try.prog 109 parts = (fillA (fun i => ([(0, 1), (1, 1), (2, 1), (3, 1), (4, 1), (5, 1)] : List (Nat × Nat))[i]?) [AV.int IntKind.i64 0, AV.int IntKind.i64 0, AV.str [], AV.str [], AV.int IntKind.i64 0, AV.str []] parts).map .agg := evBuild_struct ze109 (by kernel_rfl) parts
theorem bu111 (parts : List (Nat × AV)) : evBuild Try.prog 111 parts = (fillA (fun i => ([(0, 1), (1, 1), (2, 1), (3, 1)] : List (Nat × Nat))[i]?) [AV.int IntKind.i64 0, AV.int IntKind.i64 0, AV.str [], AV.str []] parts).map .agg := evBuild_struct ze111 (by kernel_rfl) parts
theorem bu120 (parts : List (Nat × AV)) : evBuild Try.prog 120 parts = (fillA (fun i => ([(0, 1), (1, 1)] : List (Nat × Nat))[i]?) [AV.str [], AV.bool false] parts).map .agg := evBuild_struct ze120 (by kernel_rfl) parts
theorem bu97 (parts : List (Nat × AV)) : evBuild Try.prog 97 parts = (fillA (fun i => ([(0, 1), (1, 1), (2, 1), (3, 1), (4, 1), (5, 1), (6, 1), (7, 1)] : List (Nat × Nat))[i]?) [AV.bool false, AV.bool false, AV.bool false, AV.bool false, AV.bool false, AV.bool false, AV.bool false, AV.bool false] parts).map .agg := evBuild_struct ze97 (by kernel_rfl) parts
/-- The rules of stepping, together. -/
theorem sx : (((((((type_of% @false_implies) ∧ ((type_of% @imp_false) ∧ (type_of% @not_false_eq_true))) ∧ (((type_of% @List.getElem?_cons_zero.{0}) ∧ (type_of% @List.getElem?_cons_succ.{0})) ∧ ((type_of% @List.take_succ_cons.{0}) ∧ (type_of% @List.take_zero.{0})))) ∧ ((((type_of% @List.drop_succ_cons.{0}) ∧ (type_of% @List.drop_zero.{0})) ∧ ((type_of% @List.set_cons_zero.{0}) ∧ (type_of% @List.set_cons_succ.{0}))) ∧ (((type_of% @List.replicate_succ.{0}) ∧ (type_of% @List.replicate_zero.{0})) ∧ ((type_of% @List.all_cons.{0}) ∧ (type_of% @List.all_nil.{0}))))) ∧ ((((type_of% @Bool.and_true) ∧ ((type_of% @Bool.and_self) ∧ (type_of% @Nat.le_refl))) ∧ (((type_of% @after_seq) ∧ (type_of% @after_skip)) ∧ ((type_of% @after_label) ∧ (type_of% @after_exit)))) ∧ ((((type_of% @after_ret) ∧ (type_of% @after_code_exit)) ∧ ((type_of% @after_code_ret) ∧ (type_of% @after_blk))) ∧ (((type_of% @after_blk_ret) ∧ (type_of% @after_blk_exit)) ∧ ((type_of% @after_nil) ∧ (type_of% @after_block)))))) ∧ (((((type_of% @after_cond) ∧ ((type_of% @condStep_true) ∧ (type_of% @condStep_false))) ∧ (((type_of% @after_region) ∧ (type_of% @after_draw)) ∧ ((type_of% @after_loop) ∧ (type_of% @afterOps_nil)))) ∧ ((((type_of% @opStep_some) ∧ (type_of% @opStep_flag)) ∧ ((type_of% @afterOps_op) ∧ (type_of% @hereStep_true))) ∧ (((type_of% @hereStep_flag) ∧ (type_of% @hereStep_false)) ∧ ((type_of% @afterOps_guard) ∧ (type_of% @guardStep_true))))) ∧ (((((type_of% @guardStep_false) ∧ (type_of% @roundEnd_normal)) ∧ ((type_of% @roundEnd_exit) ∧ (type_of% @roundEnd_ret))) ∧ (((type_of% @roundR_normal) ∧ (type_of% @roundR_exit)) ∧ ((type_of% @roundR_ret) ∧ (type_of% @fin_normal)))) ∧ ((((type_of% @fin_ret) ∧ (type_of% @finR_some)) ∧ ((type_of% @put_at) ∧ (type_of% @put_none))) ∧ (((type_of% @at_const) ∧ (type_of% @at_func)) ∧ ((type_of% @args_at) ∧ (type_of% @evResult_tmp))))))) ∧ ((((((type_of% @List.filterMap_cons.{0,0}) ∧ ((type_of% @List.filterMap_nil.{0,0}) ∧ (type_of% @List.contains_nil.{0}))) ∧ (((type_of% @List.contains_cons.{0}) ∧ (type_of% @Bool.or_false)) ∧ ((type_of% @Bool.or_true) ∧ (type_of% @List.map_cons.{0,0})))) ∧ ((((type_of% @List.map_nil.{0,0}) ∧ (type_of% @wantedA_guard)) ∧ ((type_of% @wstep_some) ∧ (type_of% @wbool_true))) ∧ (((type_of% @wbool_false) ∧ (type_of% @List.getElem?_toArray.{0})) ∧ ((type_of% @Option.bind_none.{0,0}) ∧ (type_of% @dstOk_none))))) ∧ ((((type_of% @dstOk_some) ∧ ((type_of% @List.toList_toArray.{0}) ∧ (type_of% @if_true.{1}))) ∧ (((type_of% @if_false.{1}) ∧ (type_of% @List.getD_cons_zero.{0})) ∧ ((type_of% @List.getD_cons_succ.{0}) ∧ (type_of% @Option.map_some.{0,0})))) ∧ ((((type_of% @decide_true) ∧ (type_of% @ite_self.{1})) ∧ ((type_of% @true_or) ∧ (type_of% @true_and))) ∧ (((type_of% @and_true) ∧ (type_of% @or_true)) ∧ ((type_of% @Bool.false_eq_true) ∧ (type_of% @List.nil_append.{0})))))) ∧ (((((type_of% @List.append_nil.{0}) ∧ ((type_of% @List.cons_append.{0}) ∧ (type_of% @List.length_cons.{0}))) ∧ (((type_of% @List.length_nil.{0}) ∧ (type_of% @load_ptr)) ∧ ((type_of% @load_iptr) ∧ (type_of% @hp_push)))) ∧ ((((type_of% @hp_next) ∧ (type_of% @hp_blk0)) ∧ ((type_of% @hp_blk) ∧ (type_of% @hp_set0))) ∧ (((type_of% @hp_set) ∧ (type_of% @List.getElem?_nil.{0})) ∧ ((type_of% @Nat.lt_add_one) ∧ (type_of% @Nat.zero_lt_succ))))) ∧ (((((type_of% @List.isEmpty_cons.{0}) ∧ (type_of% @Nat.zero_lt_one)) ∧ ((type_of% @Option.bind_some.{0,0}) ∧ (type_of% @Nat.add_zero))) ∧ (((type_of% @Nat.zero_add) ∧ (type_of% @decide_eq_true_eq)) ∧ ((type_of% @decide_false) ∧ (type_of% @Bool.not_true)))) ∧ ((((type_of% @Bool.not_false) ∧ (type_of% @splice_one)) ∧ ((type_of% @splice_whole) ∧ (type_of% @List.length_set.{0}))) ∧ (((type_of% @set_same) ∧ (type_of% @set_next)) ∧ ((type_of% @set_set_same) ∧ (type_of% @evResult_cell)))))))) :=
  And.intro (And.intro (And.intro (And.intro (And.intro (And.intro (@false_implies) (And.intro (@imp_false) (@not_false_eq_true))) (And.intro (And.intro (@List.getElem?_cons_zero.{0}) (@List.getElem?_cons_succ.{0})) (And.intro (@List.take_succ_cons.{0}) (@List.take_zero.{0})))) (And.intro (And.intro (And.intro (@List.drop_succ_cons.{0}) (@List.drop_zero.{0})) (And.intro (@List.set_cons_zero.{0}) (@List.set_cons_succ.{0}))) (And.intro (And.intro (@List.replicate_succ.{0}) (@List.replicate_zero.{0})) (And.intro (@List.all_cons.{0}) (@List.all_nil.{0}))))) (And.intro (And.intro (And.intro (@Bool.and_true) (And.intro (@Bool.and_self) (@Nat.le_refl))) (And.intro (And.intro (@after_seq) (@after_skip)) (And.intro (@after_label) (@after_exit)))) (And.intro (And.intro (And.intro (@after_ret) (@after_code_exit)) (And.intro (@after_code_ret) (@after_blk))) (And.intro (And.intro (@after_blk_ret) (@after_blk_exit)) (And.intro (@after_nil) (@after_block)))))) (And.intro (And.intro (And.intro (And.intro (@after_cond) (And.intro (@condStep_true) (@condStep_false))) (And.intro (And.intro (@after_region) (@after_draw)) (And.intro (@after_loop) (@afterOps_nil)))) (And.intro (And.intro (And.intro (@opStep_some) (@opStep_flag)) (And.intro (@afterOps_op) (@hereStep_true))) (And.intro (And.intro (@hereStep_flag) (@hereStep_false)) (And.intro (@afterOps_guard) (@guardStep_true))))) (And.intro (And.intro (And.intro (And.intro (@guardStep_false) (@roundEnd_normal)) (And.intro (@roundEnd_exit) (@roundEnd_ret))) (And.intro (And.intro (@roundR_normal) (@roundR_exit)) (And.intro (@roundR_ret) (@fin_normal)))) (And.intro (And.intro (And.intro (@fin_ret) (@finR_some)) (And.intro (@put_at) (@put_none))) (And.intro (And.intro (@at_const) (@at_func)) (And.intro (@args_at) (@evResult_tmp))))))) (And.intro (And.intro (And.intro (And.intro (And.intro (@List.filterMap_cons.{0,0}) (And.intro (@List.filterMap_nil.{0,0}) (@List.contains_nil.{0}))) (And.intro (And.intro (@List.contains_cons.{0}) (@Bool.or_false)) (And.intro (@Bool.or_true) (@List.map_cons.{0,0})))) (And.intro (And.intro (And.intro (@List.map_nil.{0,0}) (@wantedA_guard)) (And.intro (@wstep_some) (@wbool_true))) (And.intro (And.intro (@wbool_false) (@List.getElem?_toArray.{0})) (And.intro (@Option.bind_none.{0,0}) (@dstOk_none))))) (And.intro (And.intro (And.intro (@dstOk_some) (And.intro (@List.toList_toArray.{0}) (@if_true.{1}))) (And.intro (And.intro (@if_false.{1}) (@List.getD_cons_zero.{0})) (And.intro (@List.getD_cons_succ.{0}) (@Option.map_some.{0,0})))) (And.intro (And.intro (And.intro (@decide_true) (@ite_self.{1})) (And.intro (@true_or) (@true_and))) (And.intro (And.intro (@and_true) (@or_true)) (And.intro (@Bool.false_eq_true) (@List.nil_append.{0})))))) (And.intro (And.intro (And.intro (And.intro (@List.append_nil.{0}) (And.intro (@List.cons_append.{0}) (@List.length_cons.{0}))) (And.intro (And.intro (@List.length_nil.{0}) (@load_ptr)) (And.intro (@load_iptr) (@hp_push)))) (And.intro (And.intro (And.intro (@hp_next) (@hp_blk0)) (And.intro (@hp_blk) (@hp_set0))) (And.intro (And.intro (@hp_set) (@List.getElem?_nil.{0})) (And.intro (@Nat.lt_add_one) (@Nat.zero_lt_succ))))) (And.intro (And.intro (And.intro (And.intro (@List.isEmpty_cons.{0}) (@Nat.zero_lt_one)) (And.intro (@Option.bind_some.{0,0}) (@Nat.add_zero))) (And.intro (And.intro (@Nat.zero_add) (@decide_eq_true_eq)) (And.intro (@decide_false) (@Bool.not_true)))) (And.intro (And.intro (And.intro (@Bool.not_false) (@splice_one)) (And.intro (@splice_whole) (@List.length_set.{0}))) (And.intro (And.intro (@set_same) (@set_next)) (And.intro (@set_set_same) (@evResult_cell)))))))
/-- The facts on types, together. -/
theorem fx : ((((((((type_of% @ag3) ∧ ((type_of% @sz3) ∧ (type_of% @und3))) ∧ ((type_of% @ag4) ∧ ((type_of% @sz4) ∧ (type_of% @und4)))) ∧ (((type_of% @ag5) ∧ ((type_of% @sz5) ∧ (type_of% @und5))) ∧ ((type_of% @ag9) ∧ ((type_of% @sz9) ∧ (type_of% @und9))))) ∧ ((((type_of% @ag22) ∧ ((type_of% @sz22) ∧ (type_of% @und22))) ∧ ((type_of% @el22) ∧ ((type_of% @ag23) ∧ (type_of% @sz23)))) ∧ (((type_of% @und23) ∧ ((type_of% @el23) ∧ (type_of% @ag24))) ∧ (((type_of% @sz24) ∧ (type_of% @und24)) ∧ ((type_of% @el24) ∧ (type_of% @ag26)))))) ∧ (((((type_of% @sz26) ∧ ((type_of% @ag27) ∧ (type_of% @sz27))) ∧ ((type_of% @und27) ∧ ((type_of% @el27) ∧ (type_of% @ag28)))) ∧ (((type_of% @sz28) ∧ ((type_of% @und28) ∧ (type_of% @el28))) ∧ (((type_of% @ag29) ∧ (type_of% @sz29)) ∧ ((type_of% @und29) ∧ (type_of% @el29))))) ∧ ((((type_of% @ag30) ∧ ((type_of% @sz30) ∧ (type_of% @und30))) ∧ ((type_of% @el30) ∧ ((type_of% @ag31) ∧ (type_of% @sz31)))) ∧ (((type_of% @und31) ∧ ((type_of% @el31) ∧ (type_of% @ag33))) ∧ (((type_of% @sz33) ∧ (type_of% @ag35)) ∧ ((type_of% @sz35) ∧ (type_of% @und35))))))) ∧ ((((((type_of% @el35) ∧ ((type_of% @ag37) ∧ (type_of% @sz37))) ∧ ((type_of% @ag44) ∧ ((type_of% @sz44) ∧ (type_of% @und44)))) ∧ (((type_of% @el44) ∧ ((type_of% @ag47) ∧ (type_of% @sz47))) ∧ ((type_of% @und47) ∧ ((type_of% @ag51) ∧ (type_of% @sz51))))) ∧ ((((type_of% @ag58) ∧ ((type_of% @sz58) ∧ (type_of% @ag60))) ∧ ((type_of% @sz60) ∧ ((type_of% @ag63) ∧ (type_of% @sz63)))) ∧ (((type_of% @ag88) ∧ ((type_of% @sz88) ∧ (type_of% @ag97))) ∧ (((type_of% @sz97) ∧ (type_of% @ag107)) ∧ ((type_of% @sz107) ∧ (type_of% @ag109)))))) ∧ (((((type_of% @sz109) ∧ ((type_of% @ag111) ∧ (type_of% @sz111))) ∧ ((type_of% @ag120) ∧ ((type_of% @sz120) ∧ (type_of% @ag128)))) ∧ (((type_of% @sz128) ∧ ((type_of% @und128) ∧ (type_of% @el128))) ∧ (((type_of% @fd26_0) ∧ (type_of% @fd26_1)) ∧ ((type_of% @fd26_2) ∧ (type_of% @fd26_3))))) ∧ ((((type_of% @fd26_4) ∧ ((type_of% @fd33_0) ∧ (type_of% @fd33_1))) ∧ ((type_of% @fd33_2) ∧ ((type_of% @fd33_3) ∧ (type_of% @fd33_4)))) ∧ (((type_of% @fd33_5) ∧ ((type_of% @fd33_8) ∧ (type_of% @fd33_9))) ∧ (((type_of% @fd33_10) ∧ (type_of% @fd33_11)) ∧ ((type_of% @fd33_12) ∧ (type_of% @fd33_13)))))))) ∧ (((((((type_of% @fd33_14) ∧ ((type_of% @fd33_15) ∧ (type_of% @fd37_5))) ∧ ((type_of% @fd51_1) ∧ ((type_of% @fd51_2) ∧ (type_of% @fd51_3)))) ∧ (((type_of% @fd51_5) ∧ ((type_of% @fd58_0) ∧ (type_of% @fd58_1))) ∧ ((type_of% @fd58_2) ∧ ((type_of% @fd58_3) ∧ (type_of% @fd58_4))))) ∧ ((((type_of% @fd58_5) ∧ ((type_of% @fd58_6) ∧ (type_of% @fd58_7))) ∧ ((type_of% @fd58_8) ∧ ((type_of% @fd58_9) ∧ (type_of% @fd60_0)))) ∧ (((type_of% @fd60_1) ∧ ((type_of% @fd60_2) ∧ (type_of% @fd60_3))) ∧ (((type_of% @fd60_4) ∧ (type_of% @fd60_5)) ∧ ((type_of% @fd60_6) ∧ (type_of% @fd60_7)))))) ∧ (((((type_of% @fd60_12) ∧ ((type_of% @fd60_13) ∧ (type_of% @fd60_14))) ∧ ((type_of% @fd63_0) ∧ ((type_of% @fd63_1) ∧ (type_of% @fd63_2)))) ∧ (((type_of% @fd63_3) ∧ ((type_of% @fd63_4) ∧ (type_of% @fd63_5))) ∧ (((type_of% @fd63_6) ∧ (type_of% @fd63_7)) ∧ ((type_of% @fd63_8) ∧ (type_of% @fd63_9))))) ∧ ((((type_of% @fd63_10) ∧ ((type_of% @fd88_0) ∧ (type_of% @fd88_1))) ∧ ((type_of% @fd88_2) ∧ ((type_of% @fd88_3) ∧ (type_of% @fd88_4)))) ∧ (((type_of% @fd88_5) ∧ ((type_of% @fd88_6) ∧ (type_of% @fd97_0))) ∧ (((type_of% @fd97_1) ∧ (type_of% @fd97_2)) ∧ ((type_of% @fd97_3) ∧ (type_of% @fd97_4))))))) ∧ ((((((type_of% @fd97_5) ∧ ((type_of% @fd97_6) ∧ (type_of% @fd97_7))) ∧ ((type_of% @fd107_0) ∧ ((type_of% @fd107_1) ∧ (type_of% @fd109_0)))) ∧ (((type_of% @fd109_1) ∧ ((type_of% @fd109_5) ∧ (type_of% @fd111_0))) ∧ (((type_of% @fd111_1) ∧ (type_of% @fd120_0)) ∧ ((type_of% @fd120_1) ∧ (type_of% @ze63))))) ∧ ((((type_of% @ze33) ∧ ((type_of% @ze37) ∧ (type_of% @ze60))) ∧ ((type_of% @ze26) ∧ ((type_of% @ze97) ∧ (type_of% @ze58)))) ∧ (((type_of% @ze88) ∧ ((type_of% @ze107) ∧ (type_of% @ze109))) ∧ (((type_of% @ze111) ∧ (type_of% @ze120)) ∧ ((type_of% @ze9) ∧ (type_of% @ze3)))))) ∧ (((((type_of% @ze5) ∧ ((type_of% @bu63) ∧ (type_of% @bu37))) ∧ ((type_of% @bu33) ∧ ((type_of% @bu26) ∧ (type_of% @bu60)))) ∧ (((type_of% @bu58) ∧ ((type_of% @bu88) ∧ (type_of% @bu107))) ∧ (((type_of% @bu109) ∧ (type_of% @bu111)) ∧ ((type_of% @bu120) ∧ (type_of% @bu97))))) ∧ ((((type_of% @fd37_0) ∧ ((type_of% @fd37_1) ∧ (type_of% @fd37_8))) ∧ ((type_of% @fd37_9) ∧ ((type_of% @fd51_0) ∧ (type_of% @fd51_4)))) ∧ (((type_of% @fd51_6) ∧ ((type_of% @fd51_7) ∧ (type_of% @fd51_8))) ∧ (((type_of% @ze51) ∧ (type_of% @bu51)) ∧ ((type_of% @fd37_2) ∧ (type_of% @fd37_10))))))))) :=
  And.intro (And.intro (And.intro (And.intro (And.intro (And.intro (And.intro (@ag3) (And.intro (@sz3) (@und3))) (And.intro (@ag4) (And.intro (@sz4) (@und4)))) (And.intro (And.intro (@ag5) (And.intro (@sz5) (@und5))) (And.intro (@ag9) (And.intro (@sz9) (@und9))))) (And.intro (And.intro (And.intro (@ag22) (And.intro (@sz22) (@und22))) (And.intro (@el22) (And.intro (@ag23) (@sz23)))) (And.intro (And.intro (@und23) (And.intro (@el23) (@ag24))) (And.intro (And.intro (@sz24) (@und24)) (And.intro (@el24) (@ag26)))))) (And.intro (And.intro (And.intro (And.intro (@sz26) (And.intro (@ag27) (@sz27))) (And.intro (@und27) (And.intro (@el27) (@ag28)))) (And.intro (And.intro (@sz28) (And.intro (@und28) (@el28))) (And.intro (And.intro (@ag29) (@sz29)) (And.intro (@und29) (@el29))))) (And.intro (And.intro (And.intro (@ag30) (And.intro (@sz30) (@und30))) (And.intro (@el30) (And.intro (@ag31) (@sz31)))) (And.intro (And.intro (@und31) (And.intro (@el31) (@ag33))) (And.intro (And.intro (@sz33) (@ag35)) (And.intro (@sz35) (@und35))))))) (And.intro (And.intro (And.intro (And.intro (And.intro (@el35) (And.intro (@ag37) (@sz37))) (And.intro (@ag44) (And.intro (@sz44) (@und44)))) (And.intro (And.intro (@el44) (And.intro (@ag47) (@sz47))) (And.intro (@und47) (And.intro (@ag51) (@sz51))))) (And.intro (And.intro (And.intro (@ag58) (And.intro (@sz58) (@ag60))) (And.intro (@sz60) (And.intro (@ag63) (@sz63)))) (And.intro (And.intro (@ag88) (And.intro (@sz88) (@ag97))) (And.intro (And.intro (@sz97) (@ag107)) (And.intro (@sz107) (@ag109)))))) (And.intro (And.intro (And.intro (And.intro (@sz109) (And.intro (@ag111) (@sz111))) (And.intro (@ag120) (And.intro (@sz120) (@ag128)))) (And.intro (And.intro (@sz128) (And.intro (@und128) (@el128))) (And.intro (And.intro (@fd26_0) (@fd26_1)) (And.intro (@fd26_2) (@fd26_3))))) (And.intro (And.intro (And.intro (@fd26_4) (And.intro (@fd33_0) (@fd33_1))) (And.intro (@fd33_2) (And.intro (@fd33_3) (@fd33_4)))) (And.intro (And.intro (@fd33_5) (And.intro (@fd33_8) (@fd33_9))) (And.intro (And.intro (@fd33_10) (@fd33_11)) (And.intro (@fd33_12) (@fd33_13)))))))) (And.intro (And.intro (And.intro (And.intro (And.intro (And.intro (@fd33_14) (And.intro (@fd33_15) (@fd37_5))) (And.intro (@fd51_1) (And.intro (@fd51_2) (@fd51_3)))) (And.intro (And.intro (@fd51_5) (And.intro (@fd58_0) (@fd58_1))) (And.intro (@fd58_2) (And.intro (@fd58_3) (@fd58_4))))) (And.intro (And.intro (And.intro (@fd58_5) (And.intro (@fd58_6) (@fd58_7))) (And.intro (@fd58_8) (And.intro (@fd58_9) (@fd60_0)))) (And.intro (And.intro (@fd60_1) (And.intro (@fd60_2) (@fd60_3))) (And.intro (And.intro (@fd60_4) (@fd60_5)) (And.intro (@fd60_6) (@fd60_7)))))) (And.intro (And.intro (And.intro (And.intro (@fd60_12) (And.intro (@fd60_13) (@fd60_14))) (And.intro (@fd63_0) (And.intro (@fd63_1) (@fd63_2)))) (And.intro (And.intro (@fd63_3) (And.intro (@fd63_4) (@fd63_5))) (And.intro (And.intro (@fd63_6) (@fd63_7)) (And.intro (@fd63_8) (@fd63_9))))) (And.intro (And.intro (And.intro (@fd63_10) (And.intro (@fd88_0) (@fd88_1))) (And.intro (@fd88_2) (And.intro (@fd88_3) (@fd88_4)))) (And.intro (And.intro (@fd88_5) (And.intro (@fd88_6) (@fd97_0))) (And.intro (And.intro (@fd97_1) (@fd97_2)) (And.intro (@fd97_3) (@fd97_4))))))) (And.intro (And.intro (And.intro (And.intro (And.intro (@fd97_5) (And.intro (@fd97_6) (@fd97_7))) (And.intro (@fd107_0) (And.intro (@fd107_1) (@fd109_0)))) (And.intro (And.intro (@fd109_1) (And.intro (@fd109_5) (@fd111_0))) (And.intro (And.intro (@fd111_1) (@fd120_0)) (And.intro (@fd120_1) (@ze63))))) (And.intro (And.intro (And.intro (@ze33) (And.intro (@ze37) (@ze60))) (And.intro (@ze26) (And.intro (@ze97) (@ze58)))) (And.intro (And.intro (@ze88) (And.intro (@ze107) (@ze109))) (And.intro (And.intro (@ze111) (@ze120)) (And.intro (@ze9) (@ze3)))))) (And.intro (And.intro (And.intro (And.intro (@ze5) (And.intro (@bu63) (@bu37))) (And.intro (@bu33) (And.intro (@bu26) (@bu60)))) (And.intro (And.intro (@bu58) (And.intro (@bu88) (@bu107))) (And.intro (And.intro (@bu109) (@bu111)) (And.intro (@bu120) (@bu97))))) (And.intro (And.intro (And.intro (@fd37_0) (And.intro (@fd37_1) (@fd37_8))) (And.intro (@fd37_9) (And.intro (@fd51_0) (@fd51_4)))) (And.intro (And.intro (@fd51_6) (And.intro (@fd51_7) (@fd51_8))) (And.intro (And.intro (@ze51) (@bu51)) (And.intro (@fd37_2) (@fd37_10))))))))
end Go.Proofs.T
end
section
set_option linter.unusedVariables false
set_option linter.unusedSimpArgs false
set_option maxRecDepth 100000
namespace Go.Proofs.T
open Go.Ev

/-! ### From readings to cells -/
section
variable {P : Program}

theorem shp_bool {n : Nat} {t : TypeId} {xs : List AV} (hu : P.underlying t = some .bool) (h : Shp P n t xs) : ∃ b, xs = [.bool b] := by
  cases n with
  | zero => exact h.elim
  | succ n => simpa [Shp, hu] using h
theorem shp_int {n : Nat} {t : TypeId} {k : IntKind} {xs : List AV} (hu : P.underlying t = some (.int k)) (h : Shp P n t xs) : ∃ x, xs = [.int k x] ∧ k.min ≤ x ∧ x ≤ k.max := by
  cases n with
  | zero => exact h.elim
  | succ n => simpa [Shp, hu] using h
theorem shp_str {n : Nat} {t : TypeId} {xs : List AV} (hu : P.underlying t = some .string) (h : Shp P n t xs) : ∃ s, xs = [.str s] := by
  cases n with
  | zero => exact h.elim
  | succ n => simp [Shp, hu] at h; obtain ⟨l, h1, _⟩ := h; exact ⟨l, h1⟩
theorem shp_slice {n : Nat} {t e : TypeId} {c b : Nat} {xs : List AV} (hu : P.underlying t = some (.slice e)) (hc : P.cellsOf e = c) (hb : P.bytesOf e = b) (hc0 : 0 < c) (h : Shp P n t xs) :
    ∃ m v L, xs = [v] ∧ (∀ H, Holds H c v L) ∧ L.length * b ≤ reachBytes ∧ (∀ x ∈ L, Shp P m e x) ∧ n = m + 1 ∧ AV.isCell v = true := by
  cases n with
  | zero => exact h.elim
  | succ n =>
    simp only [Shp, hu, hc, hb] at h
    rcases h with h | ⟨h, _⟩ | ⟨es, h1, h2, h3⟩
    · exact ⟨n, .nilslice, [], h, fun H => Holds.nil, by simp, by simp, rfl, rfl⟩
    · omega
    · exact ⟨n, .lst c es, es, h1, fun H => Holds.lst fun x hx => (h3 x hx).1, h2, fun x hx => (h3 x hx).2, rfl, rfl⟩
theorem shp_struct {n : Nat} {t : TypeId} {fs : Array Field} {c : Nat} {xs : List AV} (hu : P.underlying t = some (.struct fs)) (hc : P.cellsOf t = c) (h : Shp P n t xs) :
    ∃ m, n = m + 1 ∧ xs.length = c ∧ ∀ f ∈ fs.toList, Shp P m f.type ((xs.drop f.offset).take (P.cellsOf f.type)) := by
  cases n with
  | zero => exact h.elim
  | succ n =>
    simp only [Shp, hu, hc] at h
    exact ⟨n, rfl, h.1, h.2⟩

theorem contig_all {tot : Nat} {xs : List AV} (hl : xs.length = tot) : ∀ (fs : List Field) (off : Nat), contig P fs off tot = true → (∀ f ∈ fs, ((xs.drop f.offset).take (P.cellsOf f.type)).all AV.isCell = true) → (xs.drop off).all AV.isCell = true
  | [], off, h, _ => by
    simp only [contig, beq_iff_eq] at h
    rw [List.drop_eq_nil_of_le (by omega)]; rfl
  | f :: fs, off, h, hc => by
    simp only [contig, Bool.and_eq_true, beq_iff_eq] at h
    obtain ⟨h1, h2⟩ := h
    have e : xs.drop off = (xs.drop off).take (P.cellsOf f.type) ++ xs.drop (off + P.cellsOf f.type) := by
      rw [← List.drop_drop, List.take_append_drop]
    rw [e, List.all_append, contig_all hl fs _ h2 (fun g hg => hc g (List.mem_cons_of_mem _ hg)), Bool.and_true]
    have := hc f List.mem_cons_self
    rw [h1] at this; exact this

/-- Types whose cells are all told. -/
def okT (P : Program) : Nat → TypeId → Bool
  | 0, _ => false
  | n + 1, t =>
    match P.underlying t with
    | some .bool | some (.int _) | some .string => true
    | some (.slice e) => decide (0 < P.cellsOf e)
    | some (.struct fs) => contig P fs.toList 0 (P.cellsOf t) && fs.toList.all fun f => okT P n f.type
    | _ => false

theorem shp_cells : ∀ (d : Nat) {n : Nat} {t : TypeId} {xs : List AV}, okT P d t = true → Shp P n t xs → xs.all AV.isCell = true
  | 0, n, t, xs, h, _ => by simp [okT] at h
  | d + 1, n, t, xs, h, hs => by
    simp only [okT] at h
    split at h
    · rename_i hu; obtain ⟨b, rfl⟩ := shp_bool hu hs; rfl
    · rename_i hu; obtain ⟨b, rfl, _⟩ := shp_int hu hs; rfl
    · rename_i hu; obtain ⟨b, rfl⟩ := shp_str hu hs; rfl
    · rename_i e hu
      obtain ⟨m, v, L, rfl, _, _, _, _, hv⟩ := shp_slice hu rfl rfl (by simpa using h) hs
      simp [hv]
    · rename_i fs hu
      simp only [Bool.and_eq_true, List.all_eq_true] at h
      obtain ⟨m, rfl, hl, hf⟩ := shp_struct hu rfl hs
      have := contig_all hl fs.toList 0 h.1 (fun f hf' => shp_cells d (h.2 f hf') (hf f hf'))
      simpa using this
    · cases h

theorem cell_of_take {cs : List AV} {i : Nat} {a : AV} (h : (cs.drop i).take 1 = [a]) : cs[i]? = some a := by
  have := congrArg (·[0]?) h
  simpa [List.getElem?_take] using this
end

theorem cells3 : Try.prog.cellsOf 3 = 1 := by kernel_rfl
theorem cells9 : Try.prog.cellsOf 9 = 1 := by kernel_rfl
theorem cells23 : Try.prog.cellsOf 23 = 1 := by kernel_rfl
theorem cells24 : Try.prog.cellsOf 24 = 1 := by kernel_rfl
theorem cells26 : Try.prog.cellsOf 26 = 5 := by kernel_rfl
theorem cells58 : Try.prog.cellsOf 58 = 10 := by kernel_rfl
theorem cells63 : Try.prog.cellsOf 63 = 24 := by kernel_rfl
theorem bytes9 : Try.prog.bytesOf 9 = 16 := by kernel_rfl
theorem bytes26 : Try.prog.bytesOf 26 = 80 := by kernel_rfl
theorem bytes63 : Try.prog.bytesOf 63 = 272 := by kernel_rfl
theorem okT63 : okT Try.prog 5 63 = true := by kernel_rfl
theorem okT26 : okT Try.prog 5 26 = true := by kernel_rfl
theorem lay_all (t : TypeId) (h : t < Try.prog.types.size) : layB Try.prog t = true ∧ kidB Try.prog Try.prog.types.size t = true := by
  have : (List.range Try.prog.types.size).all (fun t => layB Try.prog t && kidB Try.prog Try.prog.types.size t) = true := by kernel_rfl
  have := List.all_eq_true.1 this t (by simpa using h)
  simpa using this

theorem und63 : Try.prog.underlying 63 = some (.struct #[{ name := "ID", type := 3, offset := 0, embedded := false, tag := "", pkgPath := "", byteOffset := 0 },
 { name := "Kind", type := 3, offset := 1, embedded := false, tag := "", pkgPath := "", byteOffset := 8 },
 { name := "Time", type := 3, offset := 2, embedded := false, tag := "", pkgPath := "", byteOffset := 16 },
 { name := "Seq", type := 3, offset := 3, embedded := false, tag := "", pkgPath := "", byteOffset := 24 },
 { name := "Ref", type := 3, offset := 4, embedded := false, tag := "", pkgPath := "", byteOffset := 32 },
 { name := "N", type := 3, offset := 5, embedded := false, tag := "", pkgPath := "", byteOffset := 40 },
 { name := "Code", type := 3, offset := 6, embedded := false, tag := "", pkgPath := "", byteOffset := 48 },
 { name := "Name", type := 9, offset := 7, embedded := false, tag := "", pkgPath := "", byteOffset := 56 },
 { name := "Key", type := 9, offset := 8, embedded := false, tag := "", pkgPath := "", byteOffset := 72 },
 { name := "Data", type := 26, offset := 9, embedded := false, tag := "", pkgPath := "", byteOffset := 88 },
 { name := "Opts", type := 58, offset := 14, embedded := false, tag := "", pkgPath := "", byteOffset := 168 }]) := by kernel_rfl
theorem und26 : Try.prog.underlying 26 = some (.struct #[{ name := "Kind", type := 3, offset := 0, embedded := false, tag := "", pkgPath := "", byteOffset := 0 },
 { name := "Int", type := 3, offset := 1, embedded := false, tag := "", pkgPath := "", byteOffset := 8 },
 { name := "Text", type := 9, offset := 2, embedded := false, tag := "", pkgPath := "", byteOffset := 16 },
 { name := "Items", type := 23, offset := 3, embedded := false, tag := "", pkgPath := "", byteOffset := 32 },
 { name := "Keys", type := 24, offset := 4, embedded := false, tag := "", pkgPath := "", byteOffset := 56 }]) := by kernel_rfl
theorem und58 : Try.prog.underlying 58 = some (.struct #[{ name := "Queue", type := 9, offset := 0, embedded := false, tag := "", pkgPath := "", byteOffset := 0 },
 { name := "ToStart", type := 3, offset := 1, embedded := false, tag := "", pkgPath := "", byteOffset := 16 },
 { name := "ToClose", type := 3, offset := 2, embedded := false, tag := "", pkgPath := "", byteOffset := 24 },
 { name := "Total", type := 3, offset := 3, embedded := false, tag := "", pkgPath := "", byteOffset := 32 },
 { name := "Beat", type := 3, offset := 4, embedded := false, tag := "", pkgPath := "", byteOffset := 40 },
 { name := "First", type := 3, offset := 5, embedded := false, tag := "", pkgPath := "", byteOffset := 48 },
 { name := "Coef", type := 3, offset := 6, embedded := false, tag := "", pkgPath := "", byteOffset := 56 },
 { name := "Most", type := 3, offset := 7, embedded := false, tag := "", pkgPath := "", byteOffset := 64 },
 { name := "Attempts", type := 3, offset := 8, embedded := false, tag := "", pkgPath := "", byteOffset := 72 },
 { name := "Fatal", type := 24, offset := 9, embedded := false, tag := "", pkgPath := "", byteOffset := 80 }]) := by kernel_rfl

end Go.Proofs.T
end
