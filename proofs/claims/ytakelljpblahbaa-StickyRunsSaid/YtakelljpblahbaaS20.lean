import Derived.Test.YtakelljpblahbaaS15
set_option linter.unusedVariables false
set_option linter.unusedSimpArgs false
set_option maxRecDepth 100000
namespace Go.Proofs.T
open Go.Ev

/-! ### The document's cache -/
theorem app71 : appB Try.prog 71 71 106 18 272 = true := by kernel_rfl
theorem eqp54_n : eqA Try.prog 10000 54 .nilptr .nilptr = some true := by rw [show (10000 : Nat) = 9999 + 1 from rfl]; simp [eqA, und54]
theorem eqp54_p {b i o g : Nat} : eqA Try.prog 10000 54 (.ptr b i o g) .nilptr = some false := by rw [show (10000 : Nat) = 9999 + 1 from rfl]; simp [eqA, und54]

def ecell (k : List Nat) (g : AV) (n : Int) : List AV := .str k :: ptN g n
def refRow (sz : Int) (ev : AV) (fo wr : Int) : Blk := .row 73 5 [[.bool true, .int .i64 sz, ev, .int .i64 fo, .int .i64 wr]] 0 0

/-- The entries' cells, and what they stand for. -/
def ER (H : Heap) (P : Nat → Prop) : List (List AV) → Stored → Prop
  | [], [] => True
  | e :: E, p :: L => (∃ g, e = ecell p.1 g p.2 ∧ Holds H 5 g [vi 2 p.2] ∧ ∀ b, blkOf g = some b → P b) ∧ ER H P E L
  | _, _ => False

theorem ER.len {H : Heap} {P : Nat → Prop} : ∀ {E : List (List AV)} {L : Stored}, ER H P E L → E.length = L.length
  | [], [], _ => rfl
  | e :: E, p :: L, h => by simp [ER.len h.2]
  | [], p :: L, h => h.elim
  | e :: E, [], h => h.elim

theorem ER.get {H : Heap} {P : Nat → Prop} : ∀ {E : List (List AV)} {L : Stored}, ER H P E L → ∀ (i : Nat) e, E[i]? = some e → ∃ p g, L[i]? = some p ∧ e = ecell p.1 g p.2 ∧ Holds H 5 g [vi 2 p.2] ∧ ∀ b, blkOf g = some b → P b
  | [], [], _, i, e, h => by simp at h
  | e :: E, p :: L, hr, 0, e', h => by
    simp at h; subst h
    obtain ⟨g, h1, h2, h3⟩ := hr.1
    exact ⟨p, g, rfl, h1, h2, h3⟩
  | e :: E, p :: L, hr, i + 1, e', h => by simpa using ER.get hr.2 i e' (by simpa using h)
  | [], p :: L, h, _, _, _ => h.elim
  | e :: E, [], h, _, _, _ => h.elim

theorem ER.off {H H' : Heap} {P : Nat → Prop} {B : Nat → Prop} (ho : Off B H H') (hB : ∀ b, P b → ¬ B b) : ∀ {E : List (List AV)} {L : Stored}, ER H P E L → ER H' P E L
  | [], [], _ => trivial
  | e :: E, p :: L, h => by
    obtain ⟨⟨g, h1, h2, h3⟩, h4⟩ := h
    exact ⟨⟨g, h1, Holds.off h2 ho (fun b hb => hB b (h3 b hb)), h3⟩, ER.off ho hB h4⟩
  | [], p :: L, h => h.elim
  | e :: E, [], h => h.elim

theorem ER.mono {H : Heap} {P P' : Nat → Prop} (hP : ∀ b, P b → P' b) : ∀ {E : List (List AV)} {L : Stored}, ER H P E L → ER H P' E L
  | [], [], _ => trivial
  | e :: E, p :: L, h => by
    obtain ⟨⟨g, h1, h2, h3⟩, h4⟩ := h
    exact ⟨⟨g, h1, h2, fun b hb => hP b (h3 b hb)⟩, ER.mono hP h4⟩
  | [], p :: L, h => h.elim
  | e :: E, [], h => h.elim

theorem ER.append {H : Heap} {P : Nat → Prop} : ∀ {E : List (List AV)} {L : Stored} {E' : List (List AV)} {L' : Stored}, ER H P E L → ER H P E' L' → ER H P (E ++ E') (L ++ L')
  | [], [], _, _, _, h => h
  | e :: E, p :: L, _, _, h, h' => ⟨h.1, ER.append h.2 h'⟩
  | [], p :: L, _, _, h, _ => h.elim
  | e :: E, [], _, _, h, _ => h.elim

theorem ER.tail {H : Heap} {P : Nat → Prop} : ∀ {E : List (List AV)} {L : Stored}, ER H P E L → ER H P E.tail L.tail
  | [], [], _ => trivial
  | e :: E, p :: L, h => h.2
  | [], p :: L, h => h.elim
  | e :: E, [], h => h.elim

def keepE (key : List Nat) (e : List AV) : Bool := match e with | .str k :: _ => keep key k | _ => false

theorem ER.filter {H : Heap} {P : Nat → Prop} (key : List Nat) : ∀ {E : List (List AV)} {L : Stored}, ER H P E L → ER H P (E.filter (keepE key)) (without key L)
  | [], [], _ => trivial
  | e :: E, p :: L, h => by
    have ih := ER.filter key h.2
    obtain ⟨⟨g, rfl, h2, h3⟩, h4⟩ := h
    have e1 : keepE key (ecell p.1 g p.2) = keep key p.1 := rfl
    simp only [without, List.filter_cons, e1] at ih ⊢
    cases hk : keep key p.1
    · exact ih
    · exact ⟨⟨g, rfl, h2, h3⟩, ih⟩
  | [], p :: L, h => h.elim
  | e :: E, [], h => h.elim

structure RInv (H : Heap) (G : Nat → Prop) (rx : Nat) (ev : AV) (E : List (List AV)) (sz fo wr : Int) (L : Stored) : Prop where
  row : H.blk rx = some (refRow sz ev fo wr)
  slice : Holds H 18 ev E
  ents : ER H (fun b => G b ∧ b ≠ rx) E L
  ev : ∀ b, blkOf ev = some b → G b ∧ b ≠ rx
  gx : G rx
  dom : ∀ b, G b → H.blk b ≠ none
  nod : (L.map Prod.fst).Nodup
  len : L.length ≤ 100

def Ref (H : Heap) (G : Nat → Prop) (rx : Nat) (sz fo wr : Int) (L : Stored) : Prop := ∃ ev E, RInv H G rx ev E sz fo wr L

theorem Ref.off {H H' : Heap} {G : Nat → Prop} {rx : Nat} {sz fo wr : Int} {L : Stored} (h : Ref H G rx sz fo wr L) {B : Nat → Prop} (ho : Off B H H') (hB : ∀ b, G b → ¬ B b) : Ref H' G rx sz fo wr L := by
  obtain ⟨ev, E, h⟩ := h
  refine ⟨ev, E, ho _ _ (hB _ h.gx) h.row, Holds.off h.slice ho (fun b hb => hB _ (h.ev b hb).1), ER.off ho (fun b hb => hB _ hb.1) h.ents, h.ev, h.gx, fun b hb => ?_, h.nod, h.len⟩
  cases hx : H.blk b with
  | none => exact absurd hx (h.dom b hb)
  | some x => rw [ho _ _ (hB _ hb) hx]; simp
theorem Ref.up {H H' : Heap} {G : Nat → Prop} {rx : Nat} {sz fo wr : Int} {L : Stored} (h : Ref H G rx sz fo wr L) (hU : Up H H') : Ref H' G rx sz fo wr L := h.off (B := fun _ => False) (Off.of_up hU) (fun _ _ => id)

/-- What a call on the document's cache leaves. -/
def RPost (H : Heap) (G : Nat → Prop) (rx : Nat) (sz fo wr : Int) (L : Stored) (H' : Heap) : Prop :=
  ∃ G', Ref H' G' rx sz fo wr L ∧ (∀ b, G' b → G b ∨ H.blk b = none) ∧ Off (fun b => b = rx) H H' ∧ Free H'

theorem f20_bad {n : Int} (hb : n < 1 ∨ n > 64) (H : Heap) (Q : AV → Heap → Prop) (hQ : Q (.tuple [.nilptr, .int .i64 2]) H) : WF Try.prog 20 [.int .i64 n] H Q := by
  refine WF_body Try.func20 (by kernel_rfl) rfl Try.ntmps20 (by rw [Try.results20]) (of_decide_eq_true (by kernel_rfl)) ?_
  by_cases h1 : n < 1
  · simp (maxSteps := 1000000) only [sx, fx, implies_true, evBuildSlice, fillE, fillA, Nat.reduceMul, Nat.reducePow, AV.isCell, Nat.reduceSub, here, plain, laid, Nat.reduceBEq, evOp, avOf, avCell, strOf, UInt8.reduceToNat, evBin, evInt, evStr, evUn, Nat.reduceEqDiff, Nat.reduceLT, evResults, evResultsL, reduceCtorEq, AV.isUndef, AV.cells, Nat.reduceAdd, Heap.store, Nat.reduceLeDiff, h1]
    exact hQ
  · have h2 : n > 64 := by omega
    simp (maxSteps := 1000000) only [sx, fx, implies_true, evBuildSlice, fillE, fillA, Nat.reduceMul, Nat.reducePow, AV.isCell, Nat.reduceSub, here, plain, laid, Nat.reduceBEq, evOp, avOf, avCell, strOf, UInt8.reduceToNat, evBin, evInt, evStr, evUn, Nat.reduceEqDiff, Nat.reduceLT, evResults, evResultsL, reduceCtorEq, AV.isUndef, AV.cells, Nat.reduceAdd, Heap.store, Nat.reduceLeDiff, h1, h2]
    exact hQ

theorem f20_ok {n : Int} (hb : 1 ≤ n ∧ n ≤ 64) (H : Heap) (hF : Free H) (Q : AV → Heap → Prop) (hQ : ∀ rx G H', Ref H' G rx n 0 0 [] → (∀ b, G b → H.blk b = none) → Up H H' → Free H' → Q (.tuple [.ptr rx 0 0 0, .int .i64 0]) H') : WF Try.prog 20 [.int .i64 n] H Q := by
  refine WF_body Try.func20 (by kernel_rfl) rfl Try.ntmps20 (by rw [Try.results20]) (of_decide_eq_true (by kernel_rfl)) ?_
  have h1 : (n < 1) = False := by simp; omega
  have h2 : (n > 64) = False := by simp; omega
  simp (maxSteps := 1000000) only [sx, fx, implies_true, evBuildSlice, fillE, fillA, Nat.reduceMul, Nat.reducePow, AV.isCell, Nat.reduceSub, here, plain, laid, Nat.reduceBEq, evOp, avOf, avCell, strOf, UInt8.reduceToNat, evBin, evInt, evStr, evUn, Nat.reduceEqDiff, Nat.reduceLT, evResults, evResultsL, reduceCtorEq, AV.isUndef, AV.cells, Nat.reduceAdd, Heap.store, Nat.reduceLeDiff, h1, h2, hF.at, hF.hp]
  refine hQ H.next (fun b => b = H.next) _ ⟨.nilslice, [], ?_, Holds.nil, trivial, fun b hb => (by cases hb), rfl, fun b hb => ?_, by simp, by simp⟩ (fun b hb => by rw [hb]; exact hF.at) (hF.hpU _) (hF.hpF _)
  · rw [hp_blk0]; rfl
  · rw [hb, hp_blk0]; simp

theorem f38_ok {H : Heap} {G : Nat → Prop} {rx : Nat} {sz fo wr : Int} {L : Stored} (hR : Ref H G rx sz fo wr L) (Q : AV → Heap → Prop) (hQ : Q (.int .i64 fo) H) : WF Try.prog 38 [.ptr rx 0 0 0] H Q := by
  obtain ⟨ev, E, hR⟩ := hR
  refine WF_body Try.func38 (by kernel_rfl) rfl Try.ntmps38 (by rw [Try.results38]) (of_decide_eq_true (by kernel_rfl)) ?_
  have hrow := hR.row
  simp only [refRow] at hrow
  simp (maxSteps := 1000000) only [sx, fx, implies_true, evBuildSlice, fillE, fillA, Nat.reduceMul, Nat.reducePow, AV.isCell, Nat.reduceSub, here, plain, laid, Nat.reduceBEq, evOp, avOf, avCell, strOf, UInt8.reduceToNat, evBin, evInt, evStr, evUn, Nat.reduceEqDiff, Nat.reduceLT, evResults, evResultsL, reduceCtorEq, AV.isUndef, AV.cells, Nat.reduceAdd, Heap.store, Nat.reduceLeDiff, eqOk, eqp54_p, hrow]
  exact hQ
theorem f39_ok {H : Heap} {G : Nat → Prop} {rx : Nat} {sz fo wr : Int} {L : Stored} (hR : Ref H G rx sz fo wr L) (Q : AV → Heap → Prop) (hQ : Q (.int .i64 wr) H) : WF Try.prog 39 [.ptr rx 0 0 0] H Q := by
  obtain ⟨ev, E, hR⟩ := hR
  refine WF_body Try.func39 (by kernel_rfl) rfl Try.ntmps39 (by rw [Try.results39]) (of_decide_eq_true (by kernel_rfl)) ?_
  have hrow := hR.row
  simp only [refRow] at hrow
  simp (maxSteps := 1000000) only [sx, fx, implies_true, evBuildSlice, fillE, fillA, Nat.reduceMul, Nat.reducePow, AV.isCell, Nat.reduceSub, here, plain, laid, Nat.reduceBEq, evOp, avOf, avCell, strOf, UInt8.reduceToNat, evBin, evInt, evStr, evUn, Nat.reduceEqDiff, Nat.reduceLT, evResults, evResultsL, reduceCtorEq, AV.isUndef, AV.cells, Nat.reduceAdd, Heap.store, Nat.reduceLeDiff, eqOk, eqp54_p, hrow]
  exact hQ

theorem f35_ok {H : Heap} {G : Nat → Prop} {rx : Nat} {sz fo wr : Int} {L : Stored} (hF : Free H) (hR : Ref H G rx sz fo wr L) (Q : AV → Heap → Prop) (hQ : ∀ r H', RPost H G rx sz fo wr [] H' → Q r H') : WF Try.prog 35 [.ptr rx 0 0 0] H Q := by
  obtain ⟨ev, E, hR⟩ := hR
  refine WF_body Try.func35 (by kernel_rfl) rfl Try.ntmps35 (by rw [Try.results35]) (of_decide_eq_true (by kernel_rfl)) ?_
  have hrow := hR.row
  simp only [refRow] at hrow
  simp (maxSteps := 1000000) only [sx, fx, implies_true, evBuildSlice, fillE, fillA, Nat.reduceMul, Nat.reducePow, AV.isCell, Nat.reduceSub, here, plain, laid, Nat.reduceBEq, evOp, avOf, avCell, strOf, UInt8.reduceToNat, evBin, evInt, evStr, evUn, Nat.reduceEqDiff, Nat.reduceLT, evResults, evResultsL, reduceCtorEq, AV.isUndef, AV.cells, Nat.reduceAdd, Heap.store, Nat.reduceLeDiff, eqOk, eqp54_p, hrow]
  refine hQ _ _ ⟨G, ⟨.nilslice, [], set_same, Holds.nil, trivial, fun b hb => (by cases hb), hR.gx, fun b hb => ?_, by simp, by simp⟩, fun b hb => .inl hb, Off.set (B := fun b => b = rx) rfl _, hF.set (hF.lt hR.row) _⟩
  exact Heap.set_ne (hR.dom b hb)

theorem ER.cells {H : Heap} {P : Nat → Prop} : ∀ {E : List (List AV)} {L : Stored}, ER H P E L → ∀ e ∈ E, e.length = 18 ∧ e.all AV.isCell = true := by
  intro E L h e he
  obtain ⟨i, hi⟩ := List.getElem?_of_mem he
  obtain ⟨p, g, _, rfl, hg, _⟩ := ER.get h i e hi
  refine ⟨rfl, ?_⟩
  simp only [ecell, List.all_cons]
  rw [show (ptN g p.2).all AV.isCell = true from pt_cells (holds_isCell hg)]; rfl

theorem f36_ok {H : Heap} {G : Nat → Prop} {rx : Nat} {sz fo wr : Int} {L : Stored} (hF : Free H) (hR : Ref H G rx sz fo wr L) (Q : AV → Heap → Prop) (hQ : ∀ u H', Up H H' → Free H' → Own H H' 9 1 u ((L.map Prod.fst).map kcell) → Q u H') : WF Try.prog 36 [.ptr rx 0 0 0] H Q := by
  obtain ⟨ev, E, hR⟩ := hR
  refine WF_body Try.func36 (by kernel_rfl) rfl Try.ntmps36 (by rw [Try.results36]) (of_decide_eq_true (by kernel_rfl)) ?_
  have hrow := hR.row
  have hlen := hR.ents.len
  have hl := hR.slice.lenAt und71
  rw [hlen] at hl
  have hl100 := hR.len
  simp only [refRow] at hrow
  simp (maxSteps := 1000000) only [sx, fx, implies_true, evBuildSlice, fillE, fillA, Nat.reduceMul, Nat.reducePow, AV.isCell, Nat.reduceSub, here, plain, laid, Nat.reduceBEq, evOp, avOf, avCell, strOf, UInt8.reduceToNat, evBin, evInt, evStr, evUn, Nat.reduceEqDiff, Nat.reduceLT, evResults, evResultsL, reduceCtorEq, AV.isUndef, AV.cells, Nat.reduceAdd, Heap.store, Nat.reduceLeDiff, eqOk, eqp54_p, hrow, hl]
  refine loopStep' (fun env H' => Up H H' ∧ Free H' ∧ ∃ (i : Nat) (out : AV), i ≤ L.length ∧ env.at (.tmp 21) = .int .i64 i ∧ env.at (.tmp 20) = .int .i64 L.length ∧ env.at (.tmp 19) = ev ∧ env.at (.tmp 3) = out ∧ Own H H' 9 1 out (((L.take i).map Prod.fst).map kcell))
    (fun env H' => match env.at (.tmp 21) with | .int _ i => ((L.length : Int) - i).toNat | _ => 0) ?_ ?_
  · refine ⟨Up.refl _, hF, 0, .nilslice, Nat.zero_le _, ?_, ?_, ?_, ?_, by simpa using Own.nil⟩
    · simp only [sx, fx, implies_true, evBuildSlice, fillE, fillA, splice, Nat.reduceMul, Nat.reducePow, AV.isCell, Nat.reduceSub, here, plain, laid, Nat.reduceBEq, evOp, avOf, avCell, strOf, UInt8.reduceToNat, evBin, evInt, evStr, evUn, Nat.reduceEqDiff, Nat.reduceLT, evResults, evResultsL, reduceCtorEq, AV.isUndef, AV.cells, Nat.reduceAdd, Heap.store, Nat.reduceLeDiff]; rfl
    · simp only [sx, fx, implies_true, evBuildSlice, fillE, fillA, splice, Nat.reduceMul, Nat.reducePow, AV.isCell, Nat.reduceSub, here, plain, laid, Nat.reduceBEq, evOp, avOf, avCell, strOf, UInt8.reduceToNat, evBin, evInt, evStr, evUn, Nat.reduceEqDiff, Nat.reduceLT, evResults, evResultsL, reduceCtorEq, AV.isUndef, AV.cells, Nat.reduceAdd, Heap.store, Nat.reduceLeDiff]
    · simp only [sx, fx, implies_true, evBuildSlice, fillE, fillA, splice, Nat.reduceMul, Nat.reducePow, AV.isCell, Nat.reduceSub, here, plain, laid, Nat.reduceBEq, evOp, avOf, avCell, strOf, UInt8.reduceToNat, evBin, evInt, evStr, evUn, Nat.reduceEqDiff, Nat.reduceLT, evResults, evResultsL, reduceCtorEq, AV.isUndef, AV.cells, Nat.reduceAdd, Heap.store, Nat.reduceLeDiff]
    · simp only [sx, fx, implies_true, evBuildSlice, fillE, fillA, splice, Nat.reduceMul, Nat.reducePow, AV.isCell, Nat.reduceSub, here, plain, laid, Nat.reduceBEq, evOp, avOf, avCell, strOf, UInt8.reduceToNat, evBin, evInt, evStr, evUn, Nat.reduceEqDiff, Nat.reduceLT, evResults, evResultsL, reduceCtorEq, AV.isUndef, AV.cells, Nat.reduceAdd, Heap.store, Nat.reduceLeDiff]
  · rintro env H' ⟨hU, hF', i, out, hi, e21, e20, e19, e3, hO⟩
    by_cases hlt : i < L.length
    · obtain ⟨e, he⟩ : ∃ e, E[i]? = some e := ⟨_, List.getElem?_eq_getElem (by omega)⟩
      obtain ⟨p, g, hp, rfl, hg, _⟩ := hR.ents.get i e he
      obtain ⟨q, hq, hload, _⟩ := (hR.slice.up hU).index und71 sz106 .i64 he
      have hcell : (ecell p.1 g p.2).all AV.isCell = true := (hR.ents.cells _ (List.mem_of_getElem? he)).2
      have hl18 : (ecell p.1 g p.2).length = 18 := rfl
      have htk18 : (ecell p.1 g p.2).take 18 = ecell p.1 g p.2 := rfl
      have htk1 : (ecell p.1 g p.2).take 1 = [.str p.1] := rfl
      simp (maxSteps := 1000000) only [sx, fx, implies_true, evBuildSlice, fillE, fillA, Nat.reduceMul, Nat.reducePow, AV.isCell, Nat.reduceSub, here, plain, laid, Nat.reduceBEq, evOp, avOf, avCell, strOf, UInt8.reduceToNat, evBin, evInt, evStr, evUn, Nat.reduceEqDiff, Nat.reduceLT, evResults, evResultsL, reduceCtorEq, AV.isUndef, AV.cells, Nat.reduceAdd, Heap.store, Nat.reduceLeDiff, e21, e20, e19, e3, lt_true hlt, hq, hload _ (Up.refl _), hF'.at, hF'.hp, hcell, hl18, htk18, htk1]
      refine opStep_append app51 (hO.up (hF'.hpU _)) (hF'.hpF _) (hU.trans (hF'.hpU _)) (holds_hp (k := 1) rfl rfl (Nat.le_refl _) (by simp)) (by simp [AV.isCell]) (by simp [maxBytes]; omega) (by simp [maxBytes]; omega) (fun u K' hO4 hU4 hF4 => ?_)
      simp (maxSteps := 1000000) only [sx, fx, implies_true, evBuildSlice, fillE, fillA, Nat.reduceMul, Nat.reducePow, AV.isCell, Nat.reduceSub, here, plain, laid, Nat.reduceBEq, evOp, avOf, avCell, strOf, UInt8.reduceToNat, evBin, evInt, evStr, evUn, Nat.reduceEqDiff, Nat.reduceLT, evResults, evResultsL, reduceCtorEq, AV.isUndef, AV.cells, Nat.reduceAdd, Heap.store, Nat.reduceLeDiff, e21, e20, e19, e3, wrap_succ (i := i) (by omega)]
      refine ⟨⟨hU4, hF4, i + 1, u, hlt, rfl, ?_⟩, ?_⟩
      · rw [List.take_add_one, hp]
        simpa [kcell] using hO4
      · omega
    · obtain rfl : i = L.length := by omega
      simp (maxSteps := 1000000) only [sx, fx, implies_true, evBuildSlice, fillE, fillA, Nat.reduceMul, Nat.reducePow, AV.isCell, Nat.reduceSub, here, plain, laid, Nat.reduceBEq, evOp, avOf, avCell, strOf, UInt8.reduceToNat, evBin, evInt, evStr, evUn, Nat.reduceEqDiff, Nat.reduceLT, evResults, evResultsL, reduceCtorEq, AV.isUndef, AV.cells, Nat.reduceAdd, Heap.store, Nat.reduceLeDiff, e21, e20, e19, e3, lt_false hlt]
      exact hQ _ _ hU hF' (by simpa using hO)

theorem f37_ok {H : Heap} {G : Nat → Prop} {rx : Nat} {sz fo wr : Int} {L : Stored} (hF : Free H) (hR : Ref H G rx sz fo wr L) (Q : AV → Heap → Prop) (hQ : ∀ H', Up H H' → Free H' → Q (.int .i64 L.length) H') : WF Try.prog 37 [.ptr rx 0 0 0] H Q := by
  refine WF_body Try.func37 (by kernel_rfl) rfl Try.ntmps37 (by rw [Try.results37]) (of_decide_eq_true (by kernel_rfl)) ?_
  simp (maxSteps := 1000000) only [sx, fx, implies_true, evBuildSlice, fillE, fillA, Nat.reduceMul, Nat.reducePow, AV.isCell, Nat.reduceSub, here, plain, laid, Nat.reduceBEq, evOp, avOf, avCell, strOf, UInt8.reduceToNat, evBin, evInt, evStr, evUn, Nat.reduceEqDiff, Nat.reduceLT, evResults, evResultsL, reduceCtorEq, AV.isUndef, AV.cells, Nat.reduceAdd, Heap.store, Nat.reduceLeDiff]
  refine callStep (f36_ok hF hR _ fun u H2 hU hF2 hO => ?_)
  have hl := hO.holds.lenAt und51
  simp only [List.length_map] at hl
  simp (maxSteps := 1000000) only [sx, fx, implies_true, evBuildSlice, fillE, fillA, Nat.reduceMul, Nat.reducePow, AV.isCell, Nat.reduceSub, here, plain, laid, Nat.reduceBEq, evOp, avOf, avCell, strOf, UInt8.reduceToNat, evBin, evInt, evStr, evUn, Nat.reduceEqDiff, Nat.reduceLT, evResults, evResultsL, reduceCtorEq, AV.isUndef, AV.cells, Nat.reduceAdd, Heap.store, Nat.reduceLeDiff, hl]
  exact hQ _ hU hF2
end Go.Proofs.T
