import Derived.Test.YtjjmdbhgmecpjaaGreatDoorKY
set_option linter.unusedVariables false
set_option linter.unusedSimpArgs false
namespace Go.Ev
/-! ### What must be listed before, as masks -/
section
variable {P : Program}

def maskOf (ps : List Nat) (L : List Nat) : Nat := ps.foldl (fun m e => Nat.lor m (Nat.lor (Nat.shiftLeft 1 e) (L.getD e 0))) 0
def ancs (ops : Array Oper) : Nat → List Nat
  | 0 => []
  | i + 1 => ancs ops i ++ [maskOf (preds ops i) (ancs ops i)]

theorem testBit_one_shift {e j : Nat} : Nat.testBit (1 <<< e) j = decide (e = j) := by
  rw [Nat.one_shiftLeft, Nat.testBit_two_pow]

theorem mask_bit (L : List Nat) (j : Nat) : ∀ (ps : List Nat) (m : Nat), Nat.testBit (ps.foldl (fun m e => Nat.lor m (Nat.lor (Nat.shiftLeft 1 e) (L.getD e 0))) m) j = true → Nat.testBit m j = true ∨ ∃ e ∈ ps, e = j ∨ Nat.testBit (L.getD e 0) j = true
  | [], m, h => .inl h
  | e :: ps, m, h => by
    simp only [List.foldl_cons] at h
    rcases mask_bit L j ps _ h with h | ⟨e', he', h⟩
    · have h : Nat.testBit (m ||| (1 <<< e ||| L.getD e 0)) j = true := h
      rw [Nat.testBit_or, Nat.testBit_or, testBit_one_shift] at h
      simp only [Bool.or_eq_true, decide_eq_true_eq] at h
      rcases h with h | h | h
      · exact .inl h
      · exact .inr ⟨e, List.mem_cons_self, .inl h⟩
      · exact .inr ⟨e, List.mem_cons_self, .inr h⟩
    · exact .inr ⟨e', List.mem_cons_of_mem _ he', h⟩

theorem ancs_len (ops : Array Oper) : ∀ n, (ancs ops n).length = n
  | 0 => rfl
  | n + 1 => by simp [ancs, ancs_len ops n]
theorem ancs_get (ops : Array Oper) : ∀ (n i : Nat), i < n → (ancs ops n).getD i 0 = maskOf (preds ops i) (ancs ops i)
  | 0, i, h => by omega
  | n + 1, i, h => by
    by_cases hi : i < n
    · rw [← ancs_get ops n i hi]
      simp only [ancs, List.getD_eq_getElem?_getD]
      rw [List.getElem?_append_left (by rw [ancs_len]; exact hi)]
    · obtain rfl : i = n := by omega
      simp only [ancs, List.getD_eq_getElem?_getD]
      rw [List.getElem?_append_right (by rw [ancs_len]; exact Nat.le_refl _), ancs_len]
      simp

theorem beforeB_mono {ops : Array Oper} {j : Nat} : ∀ {k k' i : Nat}, k ≤ k' → beforeB ops k j i = true → beforeB ops k' j i = true
  | 0, _, _, _, h => by simp [beforeB] at h
  | k + 1, 0, _, hk, _ => by omega
  | k + 1, k' + 1, i, hk, h => by
    simp only [beforeB, List.any_eq_true, Bool.or_eq_true] at h ⊢
    obtain ⟨e, he, h⟩ := h
    exact ⟨e, he, h.imp id fun h => beforeB_mono (by omega) h⟩

theorem anc_before {ops : Array Oper} {j : Nat} : ∀ (i n : Nat), i < n → Nat.testBit ((ancs ops n).getD i 0) j = true → beforeB ops (i + 1) j i = true := by
  intro i
  induction i using Nat.strongRecOn with
  | _ i ih =>
    intro n hin h
    rw [ancs_get ops n i hin] at h
    rcases mask_bit _ j _ _ h with h | ⟨e, he, h⟩
    · simp at h
    · simp only [beforeB, List.any_eq_true, Bool.or_eq_true, beq_iff_eq]
      refine ⟨e, he, h.imp id fun h => ?_⟩
      by_cases hei : e < i
      · exact beforeB_mono (by omega) (ih e hei i hei h)
      · rw [List.getD_eq_getElem?_getD, List.getElem?_eq_none (by rw [ancs_len]; omega)] at h
        simp at h

def okPairM (P : Program) (ops : Array Oper) (L : List Nat) (prs : List (Nat × Nat)) (j i : Nat) : Bool :=
  !Nat.beq i j && !hasN i (preds ops j) && (Nat.testBit (L.getD i 0) j || (apartB ops j i && (swapS P ops j i || hasP j i prs)))
def drawOkM (P : Program) (ops : Array Oper) (prs : List (Nat × Nat)) (base : List Nat) : Bool :=
  (List.range ops.size).all (fun i => hasN i base && (preds ops i).all fun e => !Nat.beq e i && Nat.blt e ops.size) && base.all (fun i => Nat.blt i ops.size) && Nat.ble base.length ops.size && pairwiseB (okPairM P ops (ancs ops ops.size) prs) base

theorem okPairM_S {ops : Array Oper} {prs : List (Nat × Nat)} {j i : Nat} (hi : i < ops.size) (h : okPairM P ops (ancs ops ops.size) prs j i = true) : okPairS P ops prs j i = true := by
  simp only [okPairM, okPairS, Bool.and_eq_true, Bool.or_eq_true] at h ⊢
  exact ⟨h.1, h.2.imp (fun h => beforeB_mono (by omega) (anc_before i _ hi h)) id⟩
theorem pairM_S {ops : Array Oper} {prs : List (Nat × Nat)} : ∀ {base : List Nat}, (∀ i ∈ base, i < ops.size) → pairwiseB (okPairM P ops (ancs ops ops.size) prs) base = true → pairwiseB (okPairS P ops prs) base = true
  | [], _, _ => rfl
  | a :: l, hb, h => by
    simp only [pairwiseB, Bool.and_eq_true, List.all_eq_true] at h ⊢
    exact ⟨fun i hi => okPairM_S (hb i (List.mem_cons_of_mem _ hi)) (h.1 i hi), pairM_S (fun i hi => hb i (List.mem_cons_of_mem _ hi)) h.2⟩
theorem drawM_S {ops : Array Oper} {prs : List (Nat × Nat)} {base : List Nat} (h : drawOkM P ops prs base = true) : drawOkS P ops prs base = true := by
  simp only [drawOkM, drawOkS, Bool.and_eq_true] at h ⊢
  refine ⟨h.1, pairM_S (fun i hi => ?_) h.2⟩
  have := List.all_eq_true.1 h.1.1.2 i hi
  rw [bltN] at this
  simpa using this
end
end Go.Ev
