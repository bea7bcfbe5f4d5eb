import Derived.Test.YtlllflmjpclobaaU19
set_option linter.unusedVariables false
set_option linter.unusedSimpArgs false
set_option maxRecDepth 100000
namespace Go.Proofs.T
open Go.Ev

/-- What the reference's loop holds after i tasks. -/
def rem1 (id : Int) : List (List AV) → Bool → List (List AV)
  | [], _ => []
  | cs :: L, f => if (iAt cs 0 == id) && !f then rem1 id L true else cs :: rem1 id L f
def fnd (id : Int) : List (List AV) → Bool → Bool
  | [], f => f
  | cs :: L, f => if (iAt cs 0 == id) && !f then fnd id L true else fnd id L f

theorem rem1_true (id : Int) : ∀ L, rem1 id L true = L
  | [] => rfl
  | cs :: L => by simp [rem1, rem1_true id L]
theorem fnd_true (id : Int) : ∀ L, fnd id L true = true
  | [] => rfl
  | cs :: L => by simp [fnd, fnd_true id L]
theorem rem1_snoc (id : Int) (cs : List AV) : ∀ (L : List (List AV)) (f : Bool), rem1 id (L ++ [cs]) f = rem1 id L f ++ (if (iAt cs 0 == id) && !fnd id L f then [] else [cs])
  | [], f => by
    simp only [List.nil_append, rem1, fnd]
    cases (iAt cs 0 == id) <;> cases f <;> rfl
  | c :: L, f => by
    simp only [List.cons_append, rem1, fnd]
    split
    · exact rem1_snoc id cs L true
    · rw [rem1_snoc id cs L f]; rfl
theorem fnd_snoc (id : Int) (cs : List AV) : ∀ (L : List (List AV)) (f : Bool), fnd id (L ++ [cs]) f = (fnd id L f || ((iAt cs 0 == id) && !fnd id L f))
  | [], f => by simp only [List.nil_append, fnd]; cases (iAt cs 0 == id) <;> cases f <;> rfl
  | c :: L, f => by
    simp only [List.cons_append, fnd]
    split
    · exact fnd_snoc id cs L true
    · exact fnd_snoc id cs L f
theorem rem1_idx (id : Int) : ∀ (L : List (List AV)) (k : Nat), (idx id L k = -1 → fnd id L false = false) ∧ ∀ i, i < L.length → idx id L k = ((k + i : Nat) : Int) → fnd id L false = true ∧ rem1 id L false = L.take i ++ L.drop (i + 1)
  | [], k => ⟨fun _ => rfl, fun i hi => by simp at hi⟩
  | c :: L, k => by
    obtain ⟨h1, h2⟩ := rem1_idx id L (k + 1)
    cases hb : (iAt c 0 == id)
    · simp only [idx, hb, fnd, rem1, Bool.false_and, Bool.false_eq_true, if_false]
      refine ⟨h1, fun i hi hx => ?_⟩
      cases i with
      | zero =>
        exfalso
        rcases idx_cases id L (k + 1) with ⟨e, _⟩ | ⟨j, _, e, _⟩
        · rw [e] at hx; omega
        · rw [e] at hx; omega
      | succ i =>
        obtain ⟨h3, h4⟩ := h2 i (by simpa using hi) (by rw [hx]; omega)
        exact ⟨h3, by rw [h4]; simp⟩
    · simp only [idx, hb, fnd, rem1, Bool.true_and, Bool.not_false, if_true, rem1_true, fnd_true]
      refine ⟨fun h => by omega, fun i hi hx => ?_⟩
      obtain rfl : i = 0 := by omega
      simp
end Go.Proofs.T
