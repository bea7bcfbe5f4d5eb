import Derived.Test.YtlllflmjpclobaaU27
set_option linter.unusedVariables false
set_option linter.unusedSimpArgs false
set_option maxRecDepth 100000
namespace Go.Proofs.T
open Go.Ev
-- uses TTy2

theorem Asc.nil {nx : Int} : Asc nx [] := fun i cs h => by simp at h

theorem Asc.weak {nx nx' : Int} {M : List (List AV)} (h : Asc nx M) (hle : nx ≤ nx') : Asc nx' M := fun i cs hc => by
  obtain ⟨a, b, c⟩ := h i cs hc
  exact ⟨a, by omega, c⟩

theorem Asc.lt {nx : Int} {M : List (List AV)} (h : Asc nx M) : ∀ (d j : Nat) c cs, M[j]? = some c → M[j + d + 1]? = some cs → iAt c 0 < iAt cs 0
  | 0, j, c, cs, hj, hi => (h _ _ hi).2.2 j c rfl hj
  | d + 1, j, c, cs, hj, hi => by
    have hlt := (List.getElem?_eq_some_iff.1 hi).1
    obtain ⟨c', hc'⟩ : ∃ c', M[j + d + 1]? = some c' := ⟨_, List.getElem?_eq_getElem (by omega)⟩
    have h1 := Asc.lt h d j c c' hj hc'
    have h2 := (h _ _ hi).2.2 (j + d + 1) c' (by omega) hc'
    omega

theorem Asc.drop1 {nx : Int} {M : List (List AV)} (h : Asc nx M) (i : Nat) (hi : i < M.length) : Asc nx (M.take i ++ M.drop (i + 1)) := by
  have get : ∀ k cs, (M.take i ++ M.drop (i + 1))[k]? = some cs → (k < i ∧ M[k]? = some cs) ∨ (i ≤ k ∧ M[k + 1]? = some cs) := fun k cs hk => by
    by_cases hlt : k < i
    · rw [List.getElem?_append_left (by simp; omega), List.getElem?_take_of_lt hlt] at hk
      exact .inl ⟨hlt, hk⟩
    · rw [List.getElem?_append_right (by simp; omega), List.getElem?_drop] at hk
      refine .inr ⟨by omega, ?_⟩
      rw [← hk]; congr 1; simp; omega
  intro k cs hk
  rcases get k cs hk with ⟨hlt, hk'⟩ | ⟨hle, hk'⟩
  · obtain ⟨a, b, c⟩ := h _ _ hk'
    refine ⟨a, b, fun j c' hj hc' => ?_⟩
    rcases get j c' hc' with ⟨_, h'⟩ | ⟨h', _⟩
    · exact c j c' hj h'
    · omega
  · obtain ⟨a, b, c⟩ := h _ _ hk'
    refine ⟨a, b, fun j c' hj hc' => ?_⟩
    rcases get j c' hc' with ⟨_, h'⟩ | ⟨_, h'⟩
    · exact Asc.lt h 1 j c' cs h' (by rw [← hk']; congr 1; omega)
    · exact c (j + 1) c' (by omega) h'

theorem Asc.snoc {nx : Int} {M : List (List AV)} {c : List AV} (h : Asc nx M) (hc : iAt c 0 = nx) (h1 : 1 ≤ nx) : Asc (nx + 1) (M ++ [c]) := by
  intro i cs hi
  by_cases hlt : i < M.length
  · rw [List.getElem?_append_left hlt] at hi
    obtain ⟨a, b, d⟩ := h _ _ hi
    refine ⟨a, by omega, fun j c' hj hc' => ?_⟩
    rw [List.getElem?_append_left (by omega)] at hc'
    exact d j c' hj hc'
  · rw [List.getElem?_append_right (by omega)] at hi
    have h0 : i - M.length = 0 := by
      have := (List.getElem?_eq_some_iff.1 hi).1
      simpa using this
    rw [h0] at hi
    simp only [List.getElem?_cons_zero, Option.some.injEq] at hi
    subst hi
    refine ⟨by omega, by omega, fun j c' hj hc' => ?_⟩
    rw [List.getElem?_append_left (by omega)] at hc'
    have := (h _ _ hc').2.1
    omega
end Go.Proofs.T
