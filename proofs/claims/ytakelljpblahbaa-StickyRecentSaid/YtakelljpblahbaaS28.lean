import Derived.Test.YtakelljpblahbaaS13
set_option linter.unusedVariables false
set_option linter.unusedSimpArgs false
set_option maxRecDepth 100000
namespace Go.Proofs.T
open Go.Ev

theorem cv53 (x : Int) : evConvert Try.prog 5 3 (.int .u8 x) = some (.int .i64 (IntKind.i64.wrap x)) := by simp [evConvert, und5, und3]
theorem cv35 (x : Int) : evConvert Try.prog 3 5 (.int .i64 x) = some (.int .u8 (IntKind.u8.wrap x)) := by simp [evConvert, und5, und3]
theorem cvB (b o l c : Nat) (ex : Bool) (g : Nat) : evConvert Try.prog 27 9 (.slice b o l c ex g) = none := by simp [evConvert, und27, und9]
theorem bytesB {G : Heap} {b : Nat} {x : Nat} (hb : G.blk b = some (.row 5 1 [[.int .u8 107], [.int .u8 x]] 0 0)) (hx : x < 256) : evBytes Try.prog G 27 9 (.slice b 0 2 2 true 0) = some (.str [107, x]) := by
  simp [evBytes, und27, und9, und5, Heap.elems, hb, bytesOfCells]
  omega

/-! ### What is stored after i calls of Put -/
def pe (j : Nat) : List Nat × Int := ([107, j], (j : Int))
def recL (k i : Nat) : Stored := ((List.range i).drop (i - k)).map pe

theorem recL_fst (k i : Nat) : (recL k i).map Prod.fst = ((List.range i).drop (i - k)).map fun j => [107, j] := by simp [recL, pe, Function.comp_def]
theorem recL_len (k i : Nat) : (recL k i).length = i - (i - k) := by simp [recL]

theorem recL_none (k i : Nat) : lk [107, i] (recL k i) = none := by
  rw [lk_none, recL_fst]
  intro hm
  obtain ⟨j, hj, he⟩ := List.mem_map.1 hm
  have := List.mem_of_mem_drop hj
  simp at this he
  omega

theorem recL_put (k i : Nat) (hk : 1 ≤ k) : putL (k : Int) [107, i] (i : Int) (recL k i) = recL k (i + 1) := by
  have h1 : without [107, i] (recL k i) = recL k i := by
    refine List.filter_eq_self.2 fun e he => ?_
    have : e.1 ≠ [107, i] := fun q => lk_none.1 (recL_none k i) (by rw [← q]; exact List.mem_map_of_mem he)
    simp [keep, this]
  have h2 : recL k i ++ [([107, i], (i : Int))] = ((List.range (i + 1)).drop (i - k)).map pe := by
    rw [recL, List.range_succ, List.drop_append_of_le_length (by simp), List.map_append]
    rfl
  unfold putL
  rw [h1, h2]
  have h3 : (((List.range (i + 1)).drop (i - k)).map pe).length = i + 1 - (i - k) := by simp
  rw [h3]
  by_cases h : i < k
  · rw [if_neg (by omega)]
    rw [recL]
    congr 2
    omega
  · rw [if_pos (by omega), ← List.map_tail, List.tail_drop, recL]
    congr 2
    omega

theorem recL_lk (k m i : Nat) (hi : i ≤ m) : lk [107, i] (recL k (m + 1)) = if m - i < k then some (i : Int) else none := by
  by_cases h : m - i < k
  · rw [if_pos h]
    have gen : ∀ (l : List Nat), i ∈ l → lk [107, i] (l.map pe) = some (i : Int) := by
      intro l
      induction l with
      | nil => intro h; simp at h
      | cons a l ih =>
        intro hm
        rw [List.map_cons, lk_cons]
        by_cases ha : a = i
        · subst ha; simp [pe]
        · have : (pe a).1 ≠ [107, i] := by simp [pe, ha]
          rw [if_neg this]
          rcases List.mem_cons.1 hm with e | e
          · exact absurd e.symm ha
          · exact ih e
    refine gen _ ?_
    have hl : (List.range (m + 1)).drop (m + 1 - k) ≠ [] ∨ True := .inr trivial
    rw [List.mem_iff_getElem?]
    refine ⟨i - (m + 1 - k), ?_⟩
    rw [List.getElem?_drop, List.getElem?_range (by omega)]
    congr 1; omega
  · rw [if_neg h, lk_none, recL_fst]
    intro hm
    obtain ⟨j, hj, he⟩ := List.mem_map.1 hm
    simp at he
    subst he
    rw [List.mem_iff_getElem?] at hj
    obtain ⟨t, ht⟩ := hj
    rw [List.getElem?_drop] at ht
    have hlt := (List.getElem?_eq_some_iff.1 ht).1
    rw [List.getElem?_range (by simpa using hlt)] at ht
    simp at ht
    omega
end Go.Proofs.T
