import Derived.Test.YtakelljpblahbaaS3
set_option linter.unusedVariables false
set_option linter.unusedSimpArgs false
set_option maxRecDepth 100000
namespace Go.Proofs.T
open Go.Ev

def kcell (k : List Nat) : List AV := [.str k]
def blkOf : AV → Option Nat
  | .slice b .. => some b
  | _ => none

/-- The keys of a cache: a slice that may have room behind it. -/
def Keys (H : Heap) (kv : AV) (K : List (List Nat)) : Prop :=
  (K = [] ∧ kv = .nilslice) ∨ ∃ b c els g ty wgen, kv = .slice b 0 K.length c false g ∧ H.blk b = some (.row ty 1 els g wgen) ∧ wgen ≤ g ∧ els.take K.length = K.map kcell ∧ els.length = c ∧ K.length ≤ c ∧ ∀ e ∈ els, ∃ s, e = [.str s]

theorem Keys.holds {H : Heap} {kv : AV} {K : List (List Nat)} (h : Keys H kv K) : Holds H 1 kv (K.map kcell) := by
  rcases h with ⟨rfl, rfl⟩ | ⟨b, c, els, g, ty, wgen, rfl, h2, h3, h4, h5, h6, h7⟩
  · exact Holds.nil
  · refine ⟨fun cs hc => by obtain ⟨k, _, rfl⟩ := List.mem_map.1 hc; rfl, .inr (.inr ⟨b, 0, c, false, g, ty, els, g, wgen, by simp, h2, h3, by simpa using h4, by simp; omega, by simpa using h6⟩)⟩

/-- All but the blocks of B stay as they are. -/
def Off (B : Nat → Prop) (H H' : Heap) : Prop := ∀ b x, ¬ B b → H.blk b = some x → H'.blk b = some x
theorem Off.refl {B : Nat → Prop} (H : Heap) : Off B H H := fun _ _ _ h => h
theorem Off.trans {B : Nat → Prop} {H G K : Heap} (h : Off B H G) (h' : Off B G K) : Off B H K := fun b x hb hx => h' b x hb (h b x hb hx)
theorem Off.of_up {B : Nat → Prop} {H G : Heap} (h : Up H G) : Off B H G := fun b x _ hx => h b x hx
theorem Off.mono {B B' : Nat → Prop} {H G : Heap} (h : Off B H G) (hB : ∀ b, B b → B' b) : Off B' H G := fun b x hb hx => h b x (fun q => hb (hB b q)) hx
theorem Off.set {B : Nat → Prop} {H : Heap} {b : Nat} (hb : B b) (x : Blk) : Off B H (H.set b x) := fun c y hc hy => by
  rw [Heap.set_other _ _ _ (fun e : c = b => hc (by rw [e]; exact hb))]; exact hy

theorem f51_ok (k key : List Nat) (c : Nat) (H : Heap) (hc : H.blk c = some (.row 9 1 [[.str key]] 0 0)) (K : AV → Heap → Prop) (hK : K (.bool (k == key)) H) : WF Try.prog 51 [.str k, .ptr c 0 0 0] H K := by
  refine WF_body Try.func51 (by kernel_rfl) rfl Try.ntmps51 (by rw [Try.results51]) (of_decide_eq_true (by kernel_rfl)) ?_
  simp (maxSteps := 1000000) only [sx, fx, implies_true, evBuildSlice, fillE, fillA, Nat.reduceMul, Nat.reducePow, AV.isCell, Nat.reduceSub, here, plain, laid, Nat.reduceBEq, evOp, avOf, avCell, strOf, UInt8.reduceToNat, evBin, evInt, evStr, evUn, Nat.reduceEqDiff, Nat.reduceLT, evResults, evResultsL, reduceCtorEq, AV.isUndef, AV.cells, Nat.reduceAdd, Heap.store, Nat.reduceLeDiff, hc]
  exact hK
theorem f29_ok (k key : List Nat) (c : Nat) (H : Heap) (hc : H.blk c = some (.row 9 1 [[.str key]] 0 0)) (K : AV → Heap → Prop) (hK : K (.bool (k == key)) H) : WF Try.prog 29 [.str k, .ptr c 0 0 0] H K := by
  refine WF_body Try.func29 (by kernel_rfl) rfl Try.ntmps29 (by rw [Try.results29]) (of_decide_eq_true (by kernel_rfl)) ?_
  simp (maxSteps := 1000000) only [sx, fx, implies_true, evBuildSlice, fillE, fillA, Nat.reduceMul, Nat.reducePow, AV.isCell, Nat.reduceSub, here, plain, laid, Nat.reduceBEq, evOp, avOf, avCell, strOf, UInt8.reduceToNat, evBin, evInt, evStr, evUn, Nat.reduceEqDiff, Nat.reduceLT, evResults, evResultsL, reduceCtorEq, AV.isUndef, AV.cells, Nat.reduceAdd, Heap.store, Nat.reduceLeDiff, hc]
  exact hK

/-- The place of the first key. -/
def idxK (key : List Nat) : List (List Nat) → Nat → Int
  | [], _ => -1
  | k :: K, i => if k == key then (i : Int) else idxK key K (i + 1)

theorem idxK_cases (key : List Nat) : ∀ (K : List (List Nat)) (i : Nat), (idxK key K i = -1 ∧ ∀ k ∈ K, (k == key) = false) ∨ ∃ j, j < K.length ∧ idxK key K i = ((i + j : Nat) : Int) ∧ (∃ k, K[j]? = some k ∧ (k == key) = true) ∧ ∀ k ∈ K.take j, (k == key) = false
  | [], i => .inl ⟨rfl, by simp⟩
  | k :: K, i => by
    by_cases h : (k == key) = true
    · exact .inr ⟨0, by simp, by simp [idxK, h], ⟨k, by simp, h⟩, by simp⟩
    · have h' : (k == key) = false := by simpa using h
      rcases idxK_cases key K (i + 1) with ⟨h1, h2⟩ | ⟨j, h1, h2, ⟨cs, h3, h4⟩, h5⟩
      · refine .inl ⟨by simp only [idxK, h', Bool.false_eq_true, if_false]; exact h1, fun x hx => ?_⟩
        rcases List.mem_cons.1 hx with rfl | hx
        · exact h'
        · exact h2 x hx
      · refine .inr ⟨j + 1, by simp; omega, by simp only [idxK, h', Bool.false_eq_true, if_false]; rw [h2]; omega, ⟨cs, by simpa using h3, h4⟩, fun x hx => ?_⟩
        rw [List.take_succ_cons] at hx
        rcases List.mem_cons.1 hx with rfl | hx
        · exact h'
        · exact h5 x hx

theorem idxK_drop {key : List Nat} {K : List (List Nat)} {i : Nat} (h : ∀ k ∈ K.take i, (k == key) = false) (hi : i ≤ K.length) : idxK key K 0 = idxK key (K.drop i) i := by
  have gen : ∀ (K : List (List Nat)) (i s : Nat), (∀ k ∈ K.take i, (k == key) = false) → i ≤ K.length → idxK key K s = idxK key (K.drop i) (s + i) := by
    intro K i
    induction i generalizing K with
    | zero => intro s _ _; simp
    | succ i ih =>
      intro s h hi
      cases K with
      | nil => simp at hi
      | cons k K =>
        have hk : (k == key) = false := h k (by simp)
        rw [List.drop_succ_cons, idxK, hk]
        simp only [Bool.false_eq_true, if_false]
        rw [ih K (s + 1) (fun x hx => h x (by simp [hx])) (by simpa using hi)]
        congr 1; omega
  simpa using gen K i 0 h hi

theorem f53_ok {kv : AV} {K : List (List Nat)} (fn : Nat) (hfn : fn = 51 ∨ fn = 29) (key : List Nat) (c : Nat) (H : Heap) (hv : Holds H 1 kv (K.map kcell)) (hn : K.length < 2 ^ 60) (hc : H.blk c = some (.row 9 1 [[.str key]] 0 0)) (Q : AV → Heap → Prop)
    (hQ : Q (.int .i64 (idxK key K 0)) H) : WF Try.prog 53 [kv, .func (.func fn) [] [.ptr c 0 0 0]] H Q := by
  refine WF_body Try.func53 (by kernel_rfl) rfl Try.ntmps53 (by rw [Try.results53]) (of_decide_eq_true (by kernel_rfl)) ?_
  have hlen : (K.map kcell).length = K.length := by simp
  have hl := hv.lenAt und51
  rw [hlen] at hl
  simp (maxSteps := 1000000) only [sx, fx, implies_true, evBuildSlice, fillE, fillA, Nat.reduceMul, Nat.reducePow, AV.isCell, Nat.reduceSub, here, plain, laid, Nat.reduceBEq, evOp, avOf, avCell, strOf, UInt8.reduceToNat, evBin, evInt, evStr, evUn, Nat.reduceEqDiff, Nat.reduceLT, evResults, evResultsL, reduceCtorEq, AV.isUndef, AV.cells, Nat.reduceAdd, Heap.store, Nat.reduceLeDiff, hl]
  refine loopStep' (fun env H' => H' = H ∧ ∃ (i : Nat), i ≤ K.length ∧ env.at (.tmp 8) = .int .i64 i ∧ env.at (.tmp 7) = .int .i64 K.length ∧ env.at (.tmp 0) = kv ∧ env.at (.tmp 1) = .func (.func fn) [] [.ptr c 0 0 0] ∧ ∀ k ∈ K.take i, (k == key) = false)
    (fun env H' => match env.at (.tmp 8) with | .int _ i => ((K.length : Int) - i).toNat | _ => 0) ?_ ?_
  · refine ⟨rfl, 0, Nat.zero_le _, ?_, ?_, ?_, ?_, by simp⟩
    · simp only [sx, fx, implies_true, evBuildSlice, fillE, fillA, splice, Nat.reduceMul, Nat.reducePow, AV.isCell, Nat.reduceSub, here, plain, laid, Nat.reduceBEq, evOp, avOf, avCell, strOf, UInt8.reduceToNat, evBin, evInt, evStr, evUn, Nat.reduceEqDiff, Nat.reduceLT, evResults, evResultsL, reduceCtorEq, AV.isUndef, AV.cells, Nat.reduceAdd, Heap.store, Nat.reduceLeDiff]; rfl
    · simp only [sx, fx, implies_true, evBuildSlice, fillE, fillA, splice, Nat.reduceMul, Nat.reducePow, AV.isCell, Nat.reduceSub, here, plain, laid, Nat.reduceBEq, evOp, avOf, avCell, strOf, UInt8.reduceToNat, evBin, evInt, evStr, evUn, Nat.reduceEqDiff, Nat.reduceLT, evResults, evResultsL, reduceCtorEq, AV.isUndef, AV.cells, Nat.reduceAdd, Heap.store, Nat.reduceLeDiff]
    · simp only [sx, fx, implies_true, evBuildSlice, fillE, fillA, splice, Nat.reduceMul, Nat.reducePow, AV.isCell, Nat.reduceSub, here, plain, laid, Nat.reduceBEq, evOp, avOf, avCell, strOf, UInt8.reduceToNat, evBin, evInt, evStr, evUn, Nat.reduceEqDiff, Nat.reduceLT, evResults, evResultsL, reduceCtorEq, AV.isUndef, AV.cells, Nat.reduceAdd, Heap.store, Nat.reduceLeDiff]
    · simp only [sx, fx, implies_true, evBuildSlice, fillE, fillA, splice, Nat.reduceMul, Nat.reducePow, AV.isCell, Nat.reduceSub, here, plain, laid, Nat.reduceBEq, evOp, avOf, avCell, strOf, UInt8.reduceToNat, evBin, evInt, evStr, evUn, Nat.reduceEqDiff, Nat.reduceLT, evResults, evResultsL, reduceCtorEq, AV.isUndef, AV.cells, Nat.reduceAdd, Heap.store, Nat.reduceLeDiff]
  · rintro env H' ⟨rfl, i, hi, e8, e7, e0, e1, hno⟩
    by_cases hlt : i < K.length
    · obtain ⟨k, hk⟩ : ∃ k, K[i]? = some k := ⟨_, List.getElem?_eq_getElem hlt⟩
      have hk' : (K.map kcell)[i]? = some [.str k] := by simp [hk, kcell]
      obtain ⟨p, hp, hload, _⟩ := hv.index und51 sz9 .i64 hk'
      have hdr : idxK key K 0 = if k == key then (i : Int) else idxK key (K.drop (i + 1)) (i + 1) := by
        rw [idxK_drop hno hi, List.drop_eq_getElem_cons hlt]
        have : K[i] = k := by rw [List.getElem?_eq_getElem hlt] at hk; simpa using hk
        rw [this]; rfl
      simp (maxSteps := 1000000) only [sx, fx, implies_true, evBuildSlice, fillE, fillA, Nat.reduceMul, Nat.reducePow, AV.isCell, Nat.reduceSub, here, plain, laid, Nat.reduceBEq, evOp, avOf, avCell, strOf, UInt8.reduceToNat, evBin, evInt, evStr, evUn, Nat.reduceEqDiff, Nat.reduceLT, evResults, evResultsL, reduceCtorEq, AV.isUndef, AV.cells, Nat.reduceAdd, Heap.store, Nat.reduceLeDiff, e8, e7, e0, e1, lt_true hlt, hp, hload _ (Up.refl _)]
      refine callStep ?_
      have hcall : ∀ R : AV → Heap → Prop, R (.bool (k == key)) H' → WF Try.prog fn [.str k, .ptr c 0 0 0] H' R := by
        rcases hfn with rfl | rfl
        · exact fun R hR => f51_ok k key c _ hc R hR
        · exact fun R hR => f29_ok k key c _ hc R hR
      refine hcall _ ?_
      cases hkk : (k == key)
      · simp (maxSteps := 1000000) only [sx, fx, implies_true, evBuildSlice, fillE, fillA, Nat.reduceMul, Nat.reducePow, AV.isCell, Nat.reduceSub, here, plain, laid, Nat.reduceBEq, evOp, avOf, avCell, strOf, UInt8.reduceToNat, evBin, evInt, evStr, evUn, Nat.reduceEqDiff, Nat.reduceLT, evResults, evResultsL, reduceCtorEq, AV.isUndef, AV.cells, Nat.reduceAdd, Heap.store, Nat.reduceLeDiff, e8, e7, e0, e1, wrap_succ (i := i) (by omega)]
        refine ⟨⟨i + 1, hlt, rfl, fun x hx => ?_⟩, ?_⟩
        · rw [List.take_add_one, hk] at hx
          rcases List.mem_append.1 hx with hx | hx
          · exact hno x hx
          · obtain rfl : x = k := by simpa using hx
            exact hkk
        · omega
      · rw [hdr, hkk] at hQ
        simp (maxSteps := 1000000) only [sx, fx, implies_true, evBuildSlice, fillE, fillA, Nat.reduceMul, Nat.reducePow, AV.isCell, Nat.reduceSub, here, plain, laid, Nat.reduceBEq, evOp, avOf, avCell, strOf, UInt8.reduceToNat, evBin, evInt, evStr, evUn, Nat.reduceEqDiff, Nat.reduceLT, evResults, evResultsL, reduceCtorEq, AV.isUndef, AV.cells, Nat.reduceAdd, Heap.store, Nat.reduceLeDiff, e8, e7, e0, e1]
        exact hQ
    · obtain rfl : i = K.length := by omega
      simp (maxSteps := 1000000) only [sx, fx, implies_true, evBuildSlice, fillE, fillA, Nat.reduceMul, Nat.reducePow, AV.isCell, Nat.reduceSub, here, plain, laid, Nat.reduceBEq, evOp, avOf, avCell, strOf, UInt8.reduceToNat, evBin, evInt, evStr, evUn, Nat.reduceEqDiff, Nat.reduceLT, evResults, evResultsL, reduceCtorEq, AV.isUndef, AV.cells, Nat.reduceAdd, Heap.store, Nat.reduceLeDiff, e8, e7, e0, e1, lt_false hlt]
      rw [idxK_drop hno hi, List.drop_length] at hQ
      exact hQ
end Go.Proofs.T
