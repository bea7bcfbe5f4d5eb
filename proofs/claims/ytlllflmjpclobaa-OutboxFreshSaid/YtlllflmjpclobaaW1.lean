import Derived.Test.YtlllflmjpclobaaV7
set_option linter.unusedVariables false
set_option linter.unusedSimpArgs false
set_option linter.unusedVariables false
set_option linter.unusedSimpArgs false
set_option maxRecDepth 100000
namespace Go.Proofs.T
open Go.Ev

/-- The number of an operation. -/
def seqOf : List AV → Int
  | .int _ s :: _ => s
  | _ => 0
/-- An operation's cells. -/
def ElB (n : Nat) (c : List AV) : Prop := c.length = n ∧ c.all AV.isCell = true ∧ c.take 1 = [.int .i64 (seqOf c)]

theorem find_none_snoc {α : Type} {f : α → Bool} {L : List α} {i : Nat} {c : α} (hc : L[i]? = some c) (h : (L.take i).find? f = none) (hf : f c = false) : (L.take (i + 1)).find? f = none := by
  rw [List.take_add_one, hc, List.find?_append, h]; simp [hf]
theorem find_some_at {α : Type} {f : α → Bool} {L : List α} {i : Nat} {c : α} (hc : L[i]? = some c) (h : (L.take i).find? f = none) (hf : f c = true) : L.find? f = some c := by
  have hlt := (List.getElem?_eq_some_iff.1 hc).1
  have e : L = L.take i ++ c :: L.drop (i + 1) := by
    have := List.take_append_drop i L
    rw [List.drop_eq_getElem_cons hlt] at this
    rw [(List.getElem?_eq_some_iff.1 hc).2] at this
    exact this.symm
  rw [e, List.find?_append, h]; simp [hf]

def z107 : List AV := [.int .i64 0, .int .i64 0, .int .i64 0]
theorem f80_ok {pc : List AV} {v : AV} {L : List (List AV)} {s : Int} {H : Heap} (hF : Free H) (hl : pc.length = 24) (hv' : (pc.drop 19).take 1 = [v]) (hv : Holds H 3 v L) (hn : L.length < 2 ^ 60) (hL : ∀ c ∈ L, ElB 3 c) (K : AV → Heap → Prop)
    (h1 : ∀ c H', L.find? (fun c => seqOf c == s) = some c → Up H H' → Free H' → K (.tuple [.agg c, .bool true]) H') (h2 : ∀ H', L.find? (fun c => seqOf c == s) = none → Up H H' → Free H' → K (.tuple [.agg z107, .bool false]) H') : WF Try.prog 80 [.agg pc, .int .i64 s] H K := by
  refine WF_body Try.func80 (by kernel_rfl) rfl Try.ntmps80 (by rw [Try.results80]) (of_decide_eq_true (by kernel_rfl)) ?_
  simp (maxSteps := 1000000) only [sx, fx, implies_true, evBuildSlice, fillE, fillA, AV.isCell, here, plain, laid, evOp, avOf, avCell, strOf, evBin, evInt, evStr, evUn, evResults, evResultsL, AV.isUndef, AV.cells, Heap.store, wbool_off, after_scope, Nat.reduceMul, Nat.reducePow, Nat.reduceSub, Nat.reduceBEq, UInt8.reduceToNat, Nat.reduceEqDiff, Nat.reduceLT, reduceCtorEq, Nat.reduceAdd, Nat.reduceLeDiff, hF.at, hF.hp, hl]
  generalize hH1 : HP H [Blk.row 33 24 [pc] 0 0, Blk.row 107 3 [z107] 0 0] = H1
  have hH1' := hH1
  unfold z107 at hH1'
  simp only [hH1']
  have hb : H1.blk H.next = some (.row 33 24 [pc] 0 0) := by rw [← hH1, hp_blk0]; rfl
  have hb' : H1.blk (H.next + 1) = some (.row 107 3 [z107] 0 0) := by rw [← hH1, hp_blk]; rfl
  have hF1 : Free H1 := hH1 ▸ hF.hpF _
  have hU1 : Up H H1 := hH1 ▸ hF.hpU _
  have hv1 := hv.up hU1
  have hUs := hU1.set (hF (H.next + 1) (by omega))
  have hFs := hF1.set (hF1.lt hb')
  refine loopStep' (fun env H' => H' = H1 ∧ ∃ (i : Nat), i ≤ L.length ∧ (L.take i).find? (fun c => seqOf c == s) = none ∧ env.at (.tmp 6) = .int .i64 i ∧ env.at (.tmp 1) = .int .i64 s ∧ env.at (.tmp 2) = .ptr H.next 0 0 0 ∧ env.at (.tmp 4) = .ptr (H.next + 1) 0 0 0)
    (fun env H' => match env.at (.tmp 6) with | .int _ i => ((L.length : Int) - i).toNat | _ => 0) ?_ ?_
  · exact ⟨rfl, 0, Nat.zero_le _, rfl, by simp only [sx, fx, implies_true, evBuildSlice, fillE, fillA, AV.isCell, here, plain, laid, evOp, avOf, avCell, strOf, evBin, evInt, evStr, evUn, evResults, evResultsL, AV.isUndef, AV.cells, Heap.store, wbool_off, after_scope, Nat.reduceMul, Nat.reducePow, Nat.reduceSub, Nat.reduceBEq, UInt8.reduceToNat, Nat.reduceEqDiff, Nat.reduceLT, reduceCtorEq, Nat.reduceAdd, Nat.reduceLeDiff]; rfl, by simp only [sx, fx, implies_true, evBuildSlice, fillE, fillA, AV.isCell, here, plain, laid, evOp, avOf, avCell, strOf, evBin, evInt, evStr, evUn, evResults, evResultsL, AV.isUndef, AV.cells, Heap.store, wbool_off, after_scope, Nat.reduceMul, Nat.reducePow, Nat.reduceSub, Nat.reduceBEq, UInt8.reduceToNat, Nat.reduceEqDiff, Nat.reduceLT, reduceCtorEq, Nat.reduceAdd, Nat.reduceLeDiff], by simp only [sx, fx, implies_true, evBuildSlice, fillE, fillA, AV.isCell, here, plain, laid, evOp, avOf, avCell, strOf, evBin, evInt, evStr, evUn, evResults, evResultsL, AV.isUndef, AV.cells, Heap.store, wbool_off, after_scope, Nat.reduceMul, Nat.reducePow, Nat.reduceSub, Nat.reduceBEq, UInt8.reduceToNat, Nat.reduceEqDiff, Nat.reduceLT, reduceCtorEq, Nat.reduceAdd, Nat.reduceLeDiff], by simp only [sx, fx, implies_true, evBuildSlice, fillE, fillA, AV.isCell, here, plain, laid, evOp, avOf, avCell, strOf, evBin, evInt, evStr, evUn, evResults, evResultsL, AV.isUndef, AV.cells, Heap.store, wbool_off, after_scope, Nat.reduceMul, Nat.reducePow, Nat.reduceSub, Nat.reduceBEq, UInt8.reduceToNat, Nat.reduceEqDiff, Nat.reduceLT, reduceCtorEq, Nat.reduceAdd, Nat.reduceLeDiff]⟩
  · rintro env H' ⟨rfl, i, hi, hno, e6, e1, e2, e4⟩
    by_cases hlt : i < L.length
    · obtain ⟨c, hc⟩ : ∃ c, L[i]? = some c := ⟨_, List.getElem?_eq_getElem hlt⟩
      obtain ⟨cl, cc, c0⟩ := hL c (List.mem_of_getElem? hc)
      have hw := wrap_succ (i := i) (by omega)
      have ct : c.take 3 = c := List.take_of_length_le (by omega)
      have hsp : splice z107 0 c = c := by simp [splice, z107, cl]
      unfold z107 at hsp
      rcases index2 hv1 und28 sz107 .i64 hc with hp | ⟨b, j, g, ty, els, gen, wgen, hp, hbk, hwg, hel⟩
      · cases hx : (seqOf c == s) with
        | true =>
          simp (maxSteps := 1000000) only [sx, fx, implies_true, evBuildSlice, fillE, fillA, AV.isCell, here, plain, laid, evOp, avOf, avCell, strOf, evBin, evInt, evStr, evUn, evResults, evResultsL, AV.isUndef, AV.cells, Heap.store, wbool_off, after_scope, Nat.reduceMul, Nat.reducePow, Nat.reduceSub, Nat.reduceBEq, UInt8.reduceToNat, Nat.reduceEqDiff, Nat.reduceLT, reduceCtorEq, Nat.reduceAdd, Nat.reduceLeDiff, e6, e1, e2, e4, hb, hv', hv1.lenAt und28, lt_true hlt, hp, c0, cl, cc, hb', z107, hx, ct, hsp]
          exact h1 c _ (find_some_at hc hno hx) (hUs _) (hFs _)
        | false =>
          simp (maxSteps := 1000000) only [sx, fx, implies_true, evBuildSlice, fillE, fillA, AV.isCell, here, plain, laid, evOp, avOf, avCell, strOf, evBin, evInt, evStr, evUn, evResults, evResultsL, AV.isUndef, AV.cells, Heap.store, wbool_off, after_scope, Nat.reduceMul, Nat.reducePow, Nat.reduceSub, Nat.reduceBEq, UInt8.reduceToNat, Nat.reduceEqDiff, Nat.reduceLT, reduceCtorEq, Nat.reduceAdd, Nat.reduceLeDiff, e6, e1, e2, e4, hb, hv', hv1.lenAt und28, lt_true hlt, hp, c0, cl, hx, hw]
          refine ⟨⟨i + 1, hlt, find_none_snoc hc hno hx, rfl⟩, ?_⟩
          omega
      · cases hx : (seqOf c == s) with
        | true =>
          simp (maxSteps := 1000000) only [sx, fx, implies_true, evBuildSlice, fillE, fillA, AV.isCell, here, plain, laid, evOp, avOf, avCell, strOf, evBin, evInt, evStr, evUn, evResults, evResultsL, AV.isUndef, AV.cells, Heap.store, wbool_off, after_scope, Nat.reduceMul, Nat.reducePow, Nat.reduceSub, Nat.reduceBEq, UInt8.reduceToNat, Nat.reduceEqDiff, Nat.reduceLT, reduceCtorEq, Nat.reduceAdd, Nat.reduceLeDiff, e6, e1, e2, e4, hb, hv', hv1.lenAt und28, lt_true hlt, hp, c0, cl, hbk, hwg, hel, cc, hb', z107, hx, ct, hsp]
          exact h1 c _ (find_some_at hc hno hx) (hUs _) (hFs _)
        | false =>
          simp (maxSteps := 1000000) only [sx, fx, implies_true, evBuildSlice, fillE, fillA, AV.isCell, here, plain, laid, evOp, avOf, avCell, strOf, evBin, evInt, evStr, evUn, evResults, evResultsL, AV.isUndef, AV.cells, Heap.store, wbool_off, after_scope, Nat.reduceMul, Nat.reducePow, Nat.reduceSub, Nat.reduceBEq, UInt8.reduceToNat, Nat.reduceEqDiff, Nat.reduceLT, reduceCtorEq, Nat.reduceAdd, Nat.reduceLeDiff, e6, e1, e2, e4, hb, hv', hv1.lenAt und28, lt_true hlt, hp, c0, cl, hbk, hwg, hel, hx, hw]
          refine ⟨⟨i + 1, hlt, find_none_snoc hc hno hx, rfl⟩, ?_⟩
          omega
    · obtain rfl : i = L.length := by omega
      simp (maxSteps := 1000000) only [sx, fx, implies_true, evBuildSlice, fillE, fillA, AV.isCell, here, plain, laid, evOp, avOf, avCell, strOf, evBin, evInt, evStr, evUn, evResults, evResultsL, AV.isUndef, AV.cells, Heap.store, wbool_off, after_scope, Nat.reduceMul, Nat.reducePow, Nat.reduceSub, Nat.reduceBEq, UInt8.reduceToNat, Nat.reduceEqDiff, Nat.reduceLT, reduceCtorEq, Nat.reduceAdd, Nat.reduceLeDiff, e6, e1, e2, e4, hb, hv', hv1.lenAt und28, lt_false hlt, hb', z107]
      exact h2 _ (by simpa using hno) (hUs _) (hFs _)

def z109 : List AV := [.int .i64 0, .int .i64 0, .str [], .str [], .int .i64 0, .str []]
theorem f81_ok {pc : List AV} {v : AV} {L : List (List AV)} {s : Int} {H : Heap} (hF : Free H) (hl : pc.length = 24) (hv' : (pc.drop 20).take 1 = [v]) (hv : Holds H 6 v L) (hn : L.length < 2 ^ 60) (hL : ∀ c ∈ L, ElB 6 c) (K : AV → Heap → Prop)
    (h1 : ∀ c H', L.find? (fun c => seqOf c == s) = some c → Up H H' → Free H' → K (.tuple [.agg c, .bool true]) H') (h2 : ∀ H', L.find? (fun c => seqOf c == s) = none → Up H H' → Free H' → K (.tuple [.agg z109, .bool false]) H') : WF Try.prog 81 [.agg pc, .int .i64 s] H K := by
  refine WF_body Try.func81 (by kernel_rfl) rfl Try.ntmps81 (by rw [Try.results81]) (of_decide_eq_true (by kernel_rfl)) ?_
  simp (maxSteps := 1000000) only [sx, fx, implies_true, evBuildSlice, fillE, fillA, AV.isCell, here, plain, laid, evOp, avOf, avCell, strOf, evBin, evInt, evStr, evUn, evResults, evResultsL, AV.isUndef, AV.cells, Heap.store, wbool_off, after_scope, Nat.reduceMul, Nat.reducePow, Nat.reduceSub, Nat.reduceBEq, UInt8.reduceToNat, Nat.reduceEqDiff, Nat.reduceLT, reduceCtorEq, Nat.reduceAdd, Nat.reduceLeDiff, hF.at, hF.hp, hl]
  generalize hH1 : HP H [Blk.row 33 24 [pc] 0 0, Blk.row 109 6 [z109] 0 0] = H1
  have hH1' := hH1
  unfold z109 at hH1'
  simp only [hH1']
  have hb : H1.blk H.next = some (.row 33 24 [pc] 0 0) := by rw [← hH1, hp_blk0]; rfl
  have hb' : H1.blk (H.next + 1) = some (.row 109 6 [z109] 0 0) := by rw [← hH1, hp_blk]; rfl
  have hF1 : Free H1 := hH1 ▸ hF.hpF _
  have hU1 : Up H H1 := hH1 ▸ hF.hpU _
  have hv1 := hv.up hU1
  have hUs := hU1.set (hF (H.next + 1) (by omega))
  have hFs := hF1.set (hF1.lt hb')
  refine loopStep' (fun env H' => H' = H1 ∧ ∃ (i : Nat), i ≤ L.length ∧ (L.take i).find? (fun c => seqOf c == s) = none ∧ env.at (.tmp 6) = .int .i64 i ∧ env.at (.tmp 1) = .int .i64 s ∧ env.at (.tmp 2) = .ptr H.next 0 0 0 ∧ env.at (.tmp 4) = .ptr (H.next + 1) 0 0 0)
    (fun env H' => match env.at (.tmp 6) with | .int _ i => ((L.length : Int) - i).toNat | _ => 0) ?_ ?_
  · exact ⟨rfl, 0, Nat.zero_le _, rfl, by simp only [sx, fx, implies_true, evBuildSlice, fillE, fillA, AV.isCell, here, plain, laid, evOp, avOf, avCell, strOf, evBin, evInt, evStr, evUn, evResults, evResultsL, AV.isUndef, AV.cells, Heap.store, wbool_off, after_scope, Nat.reduceMul, Nat.reducePow, Nat.reduceSub, Nat.reduceBEq, UInt8.reduceToNat, Nat.reduceEqDiff, Nat.reduceLT, reduceCtorEq, Nat.reduceAdd, Nat.reduceLeDiff]; rfl, by simp only [sx, fx, implies_true, evBuildSlice, fillE, fillA, AV.isCell, here, plain, laid, evOp, avOf, avCell, strOf, evBin, evInt, evStr, evUn, evResults, evResultsL, AV.isUndef, AV.cells, Heap.store, wbool_off, after_scope, Nat.reduceMul, Nat.reducePow, Nat.reduceSub, Nat.reduceBEq, UInt8.reduceToNat, Nat.reduceEqDiff, Nat.reduceLT, reduceCtorEq, Nat.reduceAdd, Nat.reduceLeDiff], by simp only [sx, fx, implies_true, evBuildSlice, fillE, fillA, AV.isCell, here, plain, laid, evOp, avOf, avCell, strOf, evBin, evInt, evStr, evUn, evResults, evResultsL, AV.isUndef, AV.cells, Heap.store, wbool_off, after_scope, Nat.reduceMul, Nat.reducePow, Nat.reduceSub, Nat.reduceBEq, UInt8.reduceToNat, Nat.reduceEqDiff, Nat.reduceLT, reduceCtorEq, Nat.reduceAdd, Nat.reduceLeDiff], by simp only [sx, fx, implies_true, evBuildSlice, fillE, fillA, AV.isCell, here, plain, laid, evOp, avOf, avCell, strOf, evBin, evInt, evStr, evUn, evResults, evResultsL, AV.isUndef, AV.cells, Heap.store, wbool_off, after_scope, Nat.reduceMul, Nat.reducePow, Nat.reduceSub, Nat.reduceBEq, UInt8.reduceToNat, Nat.reduceEqDiff, Nat.reduceLT, reduceCtorEq, Nat.reduceAdd, Nat.reduceLeDiff]⟩
  · rintro env H' ⟨rfl, i, hi, hno, e6, e1, e2, e4⟩
    by_cases hlt : i < L.length
    · obtain ⟨c, hc⟩ : ∃ c, L[i]? = some c := ⟨_, List.getElem?_eq_getElem hlt⟩
      obtain ⟨cl, cc, c0⟩ := hL c (List.mem_of_getElem? hc)
      have hw := wrap_succ (i := i) (by omega)
      have ct : c.take 6 = c := List.take_of_length_le (by omega)
      have hsp : splice z109 0 c = c := by simp [splice, z109, cl]
      unfold z109 at hsp
      rcases index2 hv1 und29 sz109 .i64 hc with hp | ⟨b, j, g, ty, els, gen, wgen, hp, hbk, hwg, hel⟩
      · cases hx : (seqOf c == s) with
        | true =>
          simp (maxSteps := 1000000) only [sx, fx, implies_true, evBuildSlice, fillE, fillA, AV.isCell, here, plain, laid, evOp, avOf, avCell, strOf, evBin, evInt, evStr, evUn, evResults, evResultsL, AV.isUndef, AV.cells, Heap.store, wbool_off, after_scope, Nat.reduceMul, Nat.reducePow, Nat.reduceSub, Nat.reduceBEq, UInt8.reduceToNat, Nat.reduceEqDiff, Nat.reduceLT, reduceCtorEq, Nat.reduceAdd, Nat.reduceLeDiff, e6, e1, e2, e4, hb, hv', hv1.lenAt und29, lt_true hlt, hp, c0, cl, cc, hb', z109, hx, ct, hsp]
          exact h1 c _ (find_some_at hc hno hx) (hUs _) (hFs _)
        | false =>
          simp (maxSteps := 1000000) only [sx, fx, implies_true, evBuildSlice, fillE, fillA, AV.isCell, here, plain, laid, evOp, avOf, avCell, strOf, evBin, evInt, evStr, evUn, evResults, evResultsL, AV.isUndef, AV.cells, Heap.store, wbool_off, after_scope, Nat.reduceMul, Nat.reducePow, Nat.reduceSub, Nat.reduceBEq, UInt8.reduceToNat, Nat.reduceEqDiff, Nat.reduceLT, reduceCtorEq, Nat.reduceAdd, Nat.reduceLeDiff, e6, e1, e2, e4, hb, hv', hv1.lenAt und29, lt_true hlt, hp, c0, cl, hx, hw]
          refine ⟨⟨i + 1, hlt, find_none_snoc hc hno hx, rfl⟩, ?_⟩
          omega
      · cases hx : (seqOf c == s) with
        | true =>
          simp (maxSteps := 1000000) only [sx, fx, implies_true, evBuildSlice, fillE, fillA, AV.isCell, here, plain, laid, evOp, avOf, avCell, strOf, evBin, evInt, evStr, evUn, evResults, evResultsL, AV.isUndef, AV.cells, Heap.store, wbool_off, after_scope, Nat.reduceMul, Nat.reducePow, Nat.reduceSub, Nat.reduceBEq, UInt8.reduceToNat, Nat.reduceEqDiff, Nat.reduceLT, reduceCtorEq, Nat.reduceAdd, Nat.reduceLeDiff, e6, e1, e2, e4, hb, hv', hv1.lenAt und29, lt_true hlt, hp, c0, cl, hbk, hwg, hel, cc, hb', z109, hx, ct, hsp]
          exact h1 c _ (find_some_at hc hno hx) (hUs _) (hFs _)
        | false =>
          simp (maxSteps := 1000000) only [sx, fx, implies_true, evBuildSlice, fillE, fillA, AV.isCell, here, plain, laid, evOp, avOf, avCell, strOf, evBin, evInt, evStr, evUn, evResults, evResultsL, AV.isUndef, AV.cells, Heap.store, wbool_off, after_scope, Nat.reduceMul, Nat.reducePow, Nat.reduceSub, Nat.reduceBEq, UInt8.reduceToNat, Nat.reduceEqDiff, Nat.reduceLT, reduceCtorEq, Nat.reduceAdd, Nat.reduceLeDiff, e6, e1, e2, e4, hb, hv', hv1.lenAt und29, lt_true hlt, hp, c0, cl, hbk, hwg, hel, hx, hw]
          refine ⟨⟨i + 1, hlt, find_none_snoc hc hno hx, rfl⟩, ?_⟩
          omega
    · obtain rfl : i = L.length := by omega
      simp (maxSteps := 1000000) only [sx, fx, implies_true, evBuildSlice, fillE, fillA, AV.isCell, here, plain, laid, evOp, avOf, avCell, strOf, evBin, evInt, evStr, evUn, evResults, evResultsL, AV.isUndef, AV.cells, Heap.store, wbool_off, after_scope, Nat.reduceMul, Nat.reducePow, Nat.reduceSub, Nat.reduceBEq, UInt8.reduceToNat, Nat.reduceEqDiff, Nat.reduceLT, reduceCtorEq, Nat.reduceAdd, Nat.reduceLeDiff, e6, e1, e2, e4, hb, hv', hv1.lenAt und29, lt_false hlt, hb', z109]
      exact h2 _ (by simpa using hno) (hUs _) (hFs _)

def z111 : List AV := [.int .i64 0, .int .i64 0, .str [], .str []]
theorem f82_ok {pc : List AV} {v : AV} {L : List (List AV)} {s : Int} {H : Heap} (hF : Free H) (hl : pc.length = 24) (hv' : (pc.drop 21).take 1 = [v]) (hv : Holds H 4 v L) (hn : L.length < 2 ^ 60) (hL : ∀ c ∈ L, ElB 4 c) (K : AV → Heap → Prop)
    (h1 : ∀ c H', L.find? (fun c => seqOf c == s) = some c → Up H H' → Free H' → K (.tuple [.agg c, .bool true]) H') (h2 : ∀ H', L.find? (fun c => seqOf c == s) = none → Up H H' → Free H' → K (.tuple [.agg z111, .bool false]) H') : WF Try.prog 82 [.agg pc, .int .i64 s] H K := by
  refine WF_body Try.func82 (by kernel_rfl) rfl Try.ntmps82 (by rw [Try.results82]) (of_decide_eq_true (by kernel_rfl)) ?_
  simp (maxSteps := 1000000) only [sx, fx, implies_true, evBuildSlice, fillE, fillA, AV.isCell, here, plain, laid, evOp, avOf, avCell, strOf, evBin, evInt, evStr, evUn, evResults, evResultsL, AV.isUndef, AV.cells, Heap.store, wbool_off, after_scope, Nat.reduceMul, Nat.reducePow, Nat.reduceSub, Nat.reduceBEq, UInt8.reduceToNat, Nat.reduceEqDiff, Nat.reduceLT, reduceCtorEq, Nat.reduceAdd, Nat.reduceLeDiff, hF.at, hF.hp, hl]
  generalize hH1 : HP H [Blk.row 33 24 [pc] 0 0, Blk.row 111 4 [z111] 0 0] = H1
  have hH1' := hH1
  unfold z111 at hH1'
  simp only [hH1']
  have hb : H1.blk H.next = some (.row 33 24 [pc] 0 0) := by rw [← hH1, hp_blk0]; rfl
  have hb' : H1.blk (H.next + 1) = some (.row 111 4 [z111] 0 0) := by rw [← hH1, hp_blk]; rfl
  have hF1 : Free H1 := hH1 ▸ hF.hpF _
  have hU1 : Up H H1 := hH1 ▸ hF.hpU _
  have hv1 := hv.up hU1
  have hUs := hU1.set (hF (H.next + 1) (by omega))
  have hFs := hF1.set (hF1.lt hb')
  refine loopStep' (fun env H' => H' = H1 ∧ ∃ (i : Nat), i ≤ L.length ∧ (L.take i).find? (fun c => seqOf c == s) = none ∧ env.at (.tmp 6) = .int .i64 i ∧ env.at (.tmp 1) = .int .i64 s ∧ env.at (.tmp 2) = .ptr H.next 0 0 0 ∧ env.at (.tmp 4) = .ptr (H.next + 1) 0 0 0)
    (fun env H' => match env.at (.tmp 6) with | .int _ i => ((L.length : Int) - i).toNat | _ => 0) ?_ ?_
  · exact ⟨rfl, 0, Nat.zero_le _, rfl, by simp only [sx, fx, implies_true, evBuildSlice, fillE, fillA, AV.isCell, here, plain, laid, evOp, avOf, avCell, strOf, evBin, evInt, evStr, evUn, evResults, evResultsL, AV.isUndef, AV.cells, Heap.store, wbool_off, after_scope, Nat.reduceMul, Nat.reducePow, Nat.reduceSub, Nat.reduceBEq, UInt8.reduceToNat, Nat.reduceEqDiff, Nat.reduceLT, reduceCtorEq, Nat.reduceAdd, Nat.reduceLeDiff]; rfl, by simp only [sx, fx, implies_true, evBuildSlice, fillE, fillA, AV.isCell, here, plain, laid, evOp, avOf, avCell, strOf, evBin, evInt, evStr, evUn, evResults, evResultsL, AV.isUndef, AV.cells, Heap.store, wbool_off, after_scope, Nat.reduceMul, Nat.reducePow, Nat.reduceSub, Nat.reduceBEq, UInt8.reduceToNat, Nat.reduceEqDiff, Nat.reduceLT, reduceCtorEq, Nat.reduceAdd, Nat.reduceLeDiff], by simp only [sx, fx, implies_true, evBuildSlice, fillE, fillA, AV.isCell, here, plain, laid, evOp, avOf, avCell, strOf, evBin, evInt, evStr, evUn, evResults, evResultsL, AV.isUndef, AV.cells, Heap.store, wbool_off, after_scope, Nat.reduceMul, Nat.reducePow, Nat.reduceSub, Nat.reduceBEq, UInt8.reduceToNat, Nat.reduceEqDiff, Nat.reduceLT, reduceCtorEq, Nat.reduceAdd, Nat.reduceLeDiff], by simp only [sx, fx, implies_true, evBuildSlice, fillE, fillA, AV.isCell, here, plain, laid, evOp, avOf, avCell, strOf, evBin, evInt, evStr, evUn, evResults, evResultsL, AV.isUndef, AV.cells, Heap.store, wbool_off, after_scope, Nat.reduceMul, Nat.reducePow, Nat.reduceSub, Nat.reduceBEq, UInt8.reduceToNat, Nat.reduceEqDiff, Nat.reduceLT, reduceCtorEq, Nat.reduceAdd, Nat.reduceLeDiff]⟩
  · rintro env H' ⟨rfl, i, hi, hno, e6, e1, e2, e4⟩
    by_cases hlt : i < L.length
    · obtain ⟨c, hc⟩ : ∃ c, L[i]? = some c := ⟨_, List.getElem?_eq_getElem hlt⟩
      obtain ⟨cl, cc, c0⟩ := hL c (List.mem_of_getElem? hc)
      have hw := wrap_succ (i := i) (by omega)
      have ct : c.take 4 = c := List.take_of_length_le (by omega)
      have hsp : splice z111 0 c = c := by simp [splice, z111, cl]
      unfold z111 at hsp
      rcases index2 hv1 und30 sz111 .i64 hc with hp | ⟨b, j, g, ty, els, gen, wgen, hp, hbk, hwg, hel⟩
      · cases hx : (seqOf c == s) with
        | true =>
          simp (maxSteps := 1000000) only [sx, fx, implies_true, evBuildSlice, fillE, fillA, AV.isCell, here, plain, laid, evOp, avOf, avCell, strOf, evBin, evInt, evStr, evUn, evResults, evResultsL, AV.isUndef, AV.cells, Heap.store, wbool_off, after_scope, Nat.reduceMul, Nat.reducePow, Nat.reduceSub, Nat.reduceBEq, UInt8.reduceToNat, Nat.reduceEqDiff, Nat.reduceLT, reduceCtorEq, Nat.reduceAdd, Nat.reduceLeDiff, e6, e1, e2, e4, hb, hv', hv1.lenAt und30, lt_true hlt, hp, c0, cl, cc, hb', z111, hx, ct, hsp]
          exact h1 c _ (find_some_at hc hno hx) (hUs _) (hFs _)
        | false =>
          simp (maxSteps := 1000000) only [sx, fx, implies_true, evBuildSlice, fillE, fillA, AV.isCell, here, plain, laid, evOp, avOf, avCell, strOf, evBin, evInt, evStr, evUn, evResults, evResultsL, AV.isUndef, AV.cells, Heap.store, wbool_off, after_scope, Nat.reduceMul, Nat.reducePow, Nat.reduceSub, Nat.reduceBEq, UInt8.reduceToNat, Nat.reduceEqDiff, Nat.reduceLT, reduceCtorEq, Nat.reduceAdd, Nat.reduceLeDiff, e6, e1, e2, e4, hb, hv', hv1.lenAt und30, lt_true hlt, hp, c0, cl, hx, hw]
          refine ⟨⟨i + 1, hlt, find_none_snoc hc hno hx, rfl⟩, ?_⟩
          omega
      · cases hx : (seqOf c == s) with
        | true =>
          simp (maxSteps := 1000000) only [sx, fx, implies_true, evBuildSlice, fillE, fillA, AV.isCell, here, plain, laid, evOp, avOf, avCell, strOf, evBin, evInt, evStr, evUn, evResults, evResultsL, AV.isUndef, AV.cells, Heap.store, wbool_off, after_scope, Nat.reduceMul, Nat.reducePow, Nat.reduceSub, Nat.reduceBEq, UInt8.reduceToNat, Nat.reduceEqDiff, Nat.reduceLT, reduceCtorEq, Nat.reduceAdd, Nat.reduceLeDiff, e6, e1, e2, e4, hb, hv', hv1.lenAt und30, lt_true hlt, hp, c0, cl, hbk, hwg, hel, cc, hb', z111, hx, ct, hsp]
          exact h1 c _ (find_some_at hc hno hx) (hUs _) (hFs _)
        | false =>
          simp (maxSteps := 1000000) only [sx, fx, implies_true, evBuildSlice, fillE, fillA, AV.isCell, here, plain, laid, evOp, avOf, avCell, strOf, evBin, evInt, evStr, evUn, evResults, evResultsL, AV.isUndef, AV.cells, Heap.store, wbool_off, after_scope, Nat.reduceMul, Nat.reducePow, Nat.reduceSub, Nat.reduceBEq, UInt8.reduceToNat, Nat.reduceEqDiff, Nat.reduceLT, reduceCtorEq, Nat.reduceAdd, Nat.reduceLeDiff, e6, e1, e2, e4, hb, hv', hv1.lenAt und30, lt_true hlt, hp, c0, cl, hbk, hwg, hel, hx, hw]
          refine ⟨⟨i + 1, hlt, find_none_snoc hc hno hx, rfl⟩, ?_⟩
          omega
    · obtain rfl : i = L.length := by omega
      simp (maxSteps := 1000000) only [sx, fx, implies_true, evBuildSlice, fillE, fillA, AV.isCell, here, plain, laid, evOp, avOf, avCell, strOf, evBin, evInt, evStr, evUn, evResults, evResultsL, AV.isUndef, AV.cells, Heap.store, wbool_off, after_scope, Nat.reduceMul, Nat.reducePow, Nat.reduceSub, Nat.reduceBEq, UInt8.reduceToNat, Nat.reduceEqDiff, Nat.reduceLT, reduceCtorEq, Nat.reduceAdd, Nat.reduceLeDiff, e6, e1, e2, e4, hb, hv', hv1.lenAt und30, lt_false hlt, hb', z111]
      exact h2 _ (by simpa using hno) (hUs _) (hFs _)

def z60 : List AV := [.int .i64 0, .int .i64 0, .str [], .int .i64 0, .int .i64 0, .str [], .nilslice, .nilslice, .str [], .int .i64 0, .int .i64 0, .int .i64 0, .int .i64 0, .int .i64 0, .int .i64 0, .int .i64 0, .int .i64 0, .nilslice, .int .i64 0, .int .i64 0, .int .i64 0, .int .i64 0, .int .i64 0, .int .i64 0, .int .i64 0, .bool false, .int .i64 0, .int .i64 0, .str [], .nilslice, .nilslice, .str []]
theorem f35_ok {pc : List AV} {v : AV} {L : List (List AV)} {s : Int} {H : Heap} (hF : Free H) (hl : pc.length = 24) (hv' : (pc.drop 18).take 1 = [v]) (hv : Holds H 32 v L) (hn : L.length < 2 ^ 60) (hL : ∀ c ∈ L, ElB 32 c) (K : AV → Heap → Prop)
    (h1 : ∀ c H', L.find? (fun c => seqOf c == s) = some c → Up H H' → Free H' → K (.tuple [.agg c, .bool true]) H') (h2 : ∀ H', L.find? (fun c => seqOf c == s) = none → Up H H' → Free H' → K (.tuple [.agg z60, .bool false]) H') : WF Try.prog 35 [.agg pc, .int .i64 s] H K := by
  refine WF_body Try.func35 (by kernel_rfl) rfl Try.ntmps35 (by rw [Try.results35]) (of_decide_eq_true (by kernel_rfl)) ?_
  simp (maxSteps := 1000000) only [sx, fx, implies_true, evBuildSlice, fillE, fillA, AV.isCell, here, plain, laid, evOp, avOf, avCell, strOf, evBin, evInt, evStr, evUn, evResults, evResultsL, AV.isUndef, AV.cells, Heap.store, wbool_off, after_scope, Nat.reduceMul, Nat.reducePow, Nat.reduceSub, Nat.reduceBEq, UInt8.reduceToNat, Nat.reduceEqDiff, Nat.reduceLT, reduceCtorEq, Nat.reduceAdd, Nat.reduceLeDiff, hF.at, hF.hp, hl]
  generalize hH1 : HP H [Blk.row 33 24 [pc] 0 0, Blk.row 60 32 [z60] 0 0] = H1
  have hH1' := hH1
  unfold z60 at hH1'
  simp only [hH1']
  have hb : H1.blk H.next = some (.row 33 24 [pc] 0 0) := by rw [← hH1, hp_blk0]; rfl
  have hb' : H1.blk (H.next + 1) = some (.row 60 32 [z60] 0 0) := by rw [← hH1, hp_blk]; rfl
  have hF1 : Free H1 := hH1 ▸ hF.hpF _
  have hU1 : Up H H1 := hH1 ▸ hF.hpU _
  have hv1 := hv.up hU1
  have hUs := hU1.set (hF (H.next + 1) (by omega))
  have hFs := hF1.set (hF1.lt hb')
  refine loopStep' (fun env H' => H' = H1 ∧ ∃ (i : Nat), i ≤ L.length ∧ (L.take i).find? (fun c => seqOf c == s) = none ∧ env.at (.tmp 6) = .int .i64 i ∧ env.at (.tmp 1) = .int .i64 s ∧ env.at (.tmp 2) = .ptr H.next 0 0 0 ∧ env.at (.tmp 4) = .ptr (H.next + 1) 0 0 0)
    (fun env H' => match env.at (.tmp 6) with | .int _ i => ((L.length : Int) - i).toNat | _ => 0) ?_ ?_
  · exact ⟨rfl, 0, Nat.zero_le _, rfl, by simp only [sx, fx, implies_true, evBuildSlice, fillE, fillA, AV.isCell, here, plain, laid, evOp, avOf, avCell, strOf, evBin, evInt, evStr, evUn, evResults, evResultsL, AV.isUndef, AV.cells, Heap.store, wbool_off, after_scope, Nat.reduceMul, Nat.reducePow, Nat.reduceSub, Nat.reduceBEq, UInt8.reduceToNat, Nat.reduceEqDiff, Nat.reduceLT, reduceCtorEq, Nat.reduceAdd, Nat.reduceLeDiff]; rfl, by simp only [sx, fx, implies_true, evBuildSlice, fillE, fillA, AV.isCell, here, plain, laid, evOp, avOf, avCell, strOf, evBin, evInt, evStr, evUn, evResults, evResultsL, AV.isUndef, AV.cells, Heap.store, wbool_off, after_scope, Nat.reduceMul, Nat.reducePow, Nat.reduceSub, Nat.reduceBEq, UInt8.reduceToNat, Nat.reduceEqDiff, Nat.reduceLT, reduceCtorEq, Nat.reduceAdd, Nat.reduceLeDiff], by simp only [sx, fx, implies_true, evBuildSlice, fillE, fillA, AV.isCell, here, plain, laid, evOp, avOf, avCell, strOf, evBin, evInt, evStr, evUn, evResults, evResultsL, AV.isUndef, AV.cells, Heap.store, wbool_off, after_scope, Nat.reduceMul, Nat.reducePow, Nat.reduceSub, Nat.reduceBEq, UInt8.reduceToNat, Nat.reduceEqDiff, Nat.reduceLT, reduceCtorEq, Nat.reduceAdd, Nat.reduceLeDiff], by simp only [sx, fx, implies_true, evBuildSlice, fillE, fillA, AV.isCell, here, plain, laid, evOp, avOf, avCell, strOf, evBin, evInt, evStr, evUn, evResults, evResultsL, AV.isUndef, AV.cells, Heap.store, wbool_off, after_scope, Nat.reduceMul, Nat.reducePow, Nat.reduceSub, Nat.reduceBEq, UInt8.reduceToNat, Nat.reduceEqDiff, Nat.reduceLT, reduceCtorEq, Nat.reduceAdd, Nat.reduceLeDiff]⟩
  · rintro env H' ⟨rfl, i, hi, hno, e6, e1, e2, e4⟩
    by_cases hlt : i < L.length
    · obtain ⟨c, hc⟩ : ∃ c, L[i]? = some c := ⟨_, List.getElem?_eq_getElem hlt⟩
      obtain ⟨cl, cc, c0⟩ := hL c (List.mem_of_getElem? hc)
      have hw := wrap_succ (i := i) (by omega)
      have ct : c.take 32 = c := List.take_of_length_le (by omega)
      have hsp : splice z60 0 c = c := by simp [splice, z60, cl]
      unfold z60 at hsp
      rcases index2 hv1 und27 sz60 .i64 hc with hp | ⟨b, j, g, ty, els, gen, wgen, hp, hbk, hwg, hel⟩
      · cases hx : (seqOf c == s) with
        | true =>
          simp (maxSteps := 1000000) only [sx, fx, implies_true, evBuildSlice, fillE, fillA, AV.isCell, here, plain, laid, evOp, avOf, avCell, strOf, evBin, evInt, evStr, evUn, evResults, evResultsL, AV.isUndef, AV.cells, Heap.store, wbool_off, after_scope, Nat.reduceMul, Nat.reducePow, Nat.reduceSub, Nat.reduceBEq, UInt8.reduceToNat, Nat.reduceEqDiff, Nat.reduceLT, reduceCtorEq, Nat.reduceAdd, Nat.reduceLeDiff, e6, e1, e2, e4, hb, hv', hv1.lenAt und27, lt_true hlt, hp, c0, cl, cc, hb', z60, hx, ct, hsp]
          exact h1 c _ (find_some_at hc hno hx) (hUs _) (hFs _)
        | false =>
          simp (maxSteps := 1000000) only [sx, fx, implies_true, evBuildSlice, fillE, fillA, AV.isCell, here, plain, laid, evOp, avOf, avCell, strOf, evBin, evInt, evStr, evUn, evResults, evResultsL, AV.isUndef, AV.cells, Heap.store, wbool_off, after_scope, Nat.reduceMul, Nat.reducePow, Nat.reduceSub, Nat.reduceBEq, UInt8.reduceToNat, Nat.reduceEqDiff, Nat.reduceLT, reduceCtorEq, Nat.reduceAdd, Nat.reduceLeDiff, e6, e1, e2, e4, hb, hv', hv1.lenAt und27, lt_true hlt, hp, c0, cl, hx, hw]
          refine ⟨⟨i + 1, hlt, find_none_snoc hc hno hx, rfl⟩, ?_⟩
          omega
      · cases hx : (seqOf c == s) with
        | true =>
          simp (maxSteps := 1000000) only [sx, fx, implies_true, evBuildSlice, fillE, fillA, AV.isCell, here, plain, laid, evOp, avOf, avCell, strOf, evBin, evInt, evStr, evUn, evResults, evResultsL, AV.isUndef, AV.cells, Heap.store, wbool_off, after_scope, Nat.reduceMul, Nat.reducePow, Nat.reduceSub, Nat.reduceBEq, UInt8.reduceToNat, Nat.reduceEqDiff, Nat.reduceLT, reduceCtorEq, Nat.reduceAdd, Nat.reduceLeDiff, e6, e1, e2, e4, hb, hv', hv1.lenAt und27, lt_true hlt, hp, c0, cl, hbk, hwg, hel, cc, hb', z60, hx, ct, hsp]
          exact h1 c _ (find_some_at hc hno hx) (hUs _) (hFs _)
        | false =>
          simp (maxSteps := 1000000) only [sx, fx, implies_true, evBuildSlice, fillE, fillA, AV.isCell, here, plain, laid, evOp, avOf, avCell, strOf, evBin, evInt, evStr, evUn, evResults, evResultsL, AV.isUndef, AV.cells, Heap.store, wbool_off, after_scope, Nat.reduceMul, Nat.reducePow, Nat.reduceSub, Nat.reduceBEq, UInt8.reduceToNat, Nat.reduceEqDiff, Nat.reduceLT, reduceCtorEq, Nat.reduceAdd, Nat.reduceLeDiff, e6, e1, e2, e4, hb, hv', hv1.lenAt und27, lt_true hlt, hp, c0, cl, hbk, hwg, hel, hx, hw]
          refine ⟨⟨i + 1, hlt, find_none_snoc hc hno hx, rfl⟩, ?_⟩
          omega
    · obtain rfl : i = L.length := by omega
      simp (maxSteps := 1000000) only [sx, fx, implies_true, evBuildSlice, fillE, fillA, AV.isCell, here, plain, laid, evOp, avOf, avCell, strOf, evBin, evInt, evStr, evUn, evResults, evResultsL, AV.isUndef, AV.cells, Heap.store, wbool_off, after_scope, Nat.reduceMul, Nat.reducePow, Nat.reduceSub, Nat.reduceBEq, UInt8.reduceToNat, Nat.reduceEqDiff, Nat.reduceLT, reduceCtorEq, Nat.reduceAdd, Nat.reduceLeDiff, e6, e1, e2, e4, hb, hv', hv1.lenAt und27, lt_false hlt, hb', z60]
      exact h2 _ (by simpa using hno) (hUs _) (hFs _)
end Go.Proofs.T
