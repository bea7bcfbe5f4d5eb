import Derived.Test.YtjlmgabhhodhfaaGreatDoorX2X3
set_option linter.unusedVariables false
set_option linter.unusedSimpArgs false
set_option maxRecDepth 100000
namespace Go.Proofs.T
open Go.Ev
open Nat (reduceMul reducePow reduceSub reduceEqDiff reduceLT reduceAdd reduceLeDiff)
open UInt8 (reduceToNat)
theorem any_take {α : Type} {L : List α} {p : α → Bool} {i : Nat} {c : α} (hc : L[i]? = some c) (h : (L.take i).any p = false) (hp : p c = false) : (L.take (i + 1)).any p = false := by
  rw [List.take_add_one, hc, List.any_append, h]; simp [hp]
theorem any_at {α : Type} {L : List α} {p : α → Bool} {i : Nat} {c : α} (hc : L[i]? = some c) (hp : p c = true) : L.any p = true :=
  List.any_eq_true.2 ⟨c, List.mem_of_getElem? hc, hp⟩
theorem f241_ok : ∀ (n : Nat) (cs : List AV), VT n cs → ∀ (H : Heap) (hF : Free H) (K : AV → Heap → Prop) (hK : ∀ H', Up H H' → Free H' → K (.bool (shortV n cs)) H'), WF Tryz.prog 241 [.agg cs] H K := by
  intro n
  induction n with
  | zero => intro cs h; exact h.elim
  | succ n ih =>
    intro cs h H hF K hK
    obtain ⟨k, ix, s, v, w, L, M, rfl, hv, hvn, hvc, hw, hwn, hwc⟩ := h
    have e : shortV (n + 1) [.int .i64 k, .int .i64 ix, .str s, v, w] = (!decide ((s.length : Int) > 4096) && !(M.any longK) && !(L.any fun c => !shortV n c)) := by rw [← itm_eq hv, ← itm_eq hw]; rfl
    rw [e] at hK
    have hlv : ∀ G, evBuiltin Tryz.prog G .len #[24] [v] = some (.int .i64 L.length, G) := fun G => (hv G).lenAt und24 G
    have hlw : ∀ G, evBuiltin Tryz.prog G .len #[23] [w] = some (.int .i64 M.length, G) := fun G => (hw G).lenAt und23 G
    refine WF_body Tryz.func241 (by kernel_rfl) rfl Tryz.ntmps241 (by rw [Tryz.results241]) (of_decide_eq_true (by kernel_rfl)) ?_
    by_cases h4 : (s.length : Int) > 4096
    · simp only [h4, decide_true, Bool.not_true, Bool.false_and] at hK
      simp (maxSteps:=999999) only [gx, implies_true, reduceMul, reducePow, reduceSub, Nat.reduceBEq, reduceToNat, reduceEqDiff, reduceLT, reduceCtorEq, reduceAdd, reduceLeDiff, hF.at, hF.hp, ln9, h4]
      exact hK _ (hF.hpU _) (hF.hpF _)
    simp only [h4, decide_false, Bool.not_false, Bool.true_and] at hK
    simp (maxSteps:=999999) only [gx, implies_true, reduceMul, reducePow, reduceSub, Nat.reduceBEq, reduceToNat, reduceEqDiff, reduceLT, reduceCtorEq, reduceAdd, reduceLeDiff, hF.at, hF.hp, ln9, h4]
    generalize hH1 : HP H [Blk.row 34 5 [[.int .i64 k, .int .i64 ix, .str s, v, w]] 0 0] = H1
    have hb : H1.blk H.next = some (.row 34 5 [[.int .i64 k, .int .i64 ix, .str s, v, w]] 0 0) := by rw [← hH1, hp_blk0]; rfl
    have hF1 : Free H1 := hH1 ▸ hF.hpF _
    have hU1 : Up H H1 := hH1 ▸ hF.hpU _
    refine loopStep' (fun env H' => H' = H1 ∧ ∃ i : Nat, i ≤ M.length ∧ env.at (.tmp 3) = .int .i64 i ∧ env.at (.tmp 1) = .ptr H.next 0 0 0 ∧ (M.take i).any longK = false)
      (fun env H' => match env.at (.tmp 3) with | .int _ i => ((M.length : Int) - i).toNat | _ => 0) ?_ ?_
    · exact ⟨rfl, 0, Nat.zero_le _, by simp only [gx, implies_true, reduceMul, reducePow, reduceSub, Nat.reduceBEq, reduceToNat, reduceEqDiff, reduceLT, reduceCtorEq, reduceAdd, reduceLeDiff]; rfl, by simp only [gx, implies_true, reduceMul, reducePow, reduceSub, Nat.reduceBEq, reduceToNat, reduceEqDiff, reduceLT, reduceCtorEq, reduceAdd, reduceLeDiff], by simp⟩
    · rintro env H2 ⟨rfl, i, hi, e3, e1, hinv⟩
      by_cases hlt : i < M.length
      · obtain ⟨c, hc⟩ : ∃ c, M[i]? = some c := ⟨_, List.getElem?_eq_getElem hlt⟩
        obtain ⟨t, rfl⟩ := hwc c (List.mem_of_getElem? hc)
        by_cases h5 : (t.length : Int) > 4096
        · have ha := any_at hc (show longK [.str t] = true from decide_eq_true h5)
          simp only [ha, Bool.not_true, Bool.false_and] at hK
          simp (maxSteps:=999999) only [gx, implies_true, reduceMul, reducePow, reduceSub, Nat.reduceBEq, reduceToNat, reduceEqDiff, reduceLT, reduceCtorEq, reduceAdd, reduceLeDiff, e3, e1, hb, hlw, lt_true hlt, idx23 hw hc, ln9, h5]
          exact hK _ hU1 hF1
        · have ha := any_take hc hinv (show longK [.str t] = false from decide_eq_false h5)
          simp (maxSteps:=999999) only [gx, implies_true, reduceMul, reducePow, reduceSub, Nat.reduceBEq, reduceToNat, reduceEqDiff, reduceLT, reduceCtorEq, reduceAdd, reduceLeDiff, e3, e1, hb, hlw, lt_true hlt, idx23 hw hc, ln9, h5, wrap_succ (i := i) (by omega)]
          exact ⟨⟨i + 1, hlt, rfl, ha⟩, by omega⟩
      · obtain rfl : i = M.length := by omega
        rw [List.take_length] at hinv
        simp only [hinv, Bool.not_false, Bool.true_and] at hK
        simp (maxSteps:=999999) only [gx, implies_true, reduceMul, reducePow, reduceSub, Nat.reduceBEq, reduceToNat, reduceEqDiff, reduceLT, reduceCtorEq, reduceAdd, reduceLeDiff, e3, e1, hb, hlw, lt_false hlt]
        refine loopStep' (fun env H' => Up H2 H' ∧ Free H' ∧ ∃ i : Nat, i ≤ L.length ∧ env.at (.tmp 4) = .int .i64 i ∧ env.at (.tmp 1) = .ptr H.next 0 0 0 ∧ (L.take i).any (fun c => !shortV n c) = false)
          (fun env H' => match env.at (.tmp 4) with | .int _ i => ((L.length : Int) - i).toNat | _ => 0) ?_ ?_
        · exact ⟨Up.refl _, hF1, 0, Nat.zero_le _, by simp only [gx, implies_true, reduceMul, reducePow, reduceSub, Nat.reduceBEq, reduceToNat, reduceEqDiff, reduceLT, reduceCtorEq, reduceAdd, reduceLeDiff]; rfl, by simp only [gx, implies_true, reduceMul, reducePow, reduceSub, Nat.reduceBEq, reduceToNat, reduceEqDiff, reduceLT, reduceCtorEq, reduceAdd, reduceLeDiff, e1], by simp⟩
        · rintro env3 H3 ⟨hU3, hF3, i, hi, e4, e1, hinv⟩
          have hb3 := hU3 _ _ hb
          by_cases hlt : i < L.length
          · obtain ⟨c, hc⟩ : ∃ c, L[i]? = some c := ⟨_, List.getElem?_eq_getElem hlt⟩
            have hcm := hvc c (List.mem_of_getElem? hc)
            simp (maxSteps:=999999) only [gx, implies_true, reduceMul, reducePow, reduceSub, Nat.reduceBEq, reduceToNat, reduceEqDiff, reduceLT, reduceCtorEq, reduceAdd, reduceLeDiff, e4, e1, hb3, hlv, lt_true hlt, idx24 hv hc, hcm.len, hcm.tk]
            refine callStep (ih c hcm H3 hF3 _ fun H4 hU4 hF4 => ?_)
            cases hs : shortV n c with
            | false =>
              have ha := any_at (p := fun c => !shortV n c) hc (by simp only [hs]; rfl)
              simp only [ha, Bool.not_true] at hK
              simp (maxSteps:=999999) only [gx, implies_true, reduceMul, reducePow, reduceSub, Nat.reduceBEq, reduceToNat, reduceEqDiff, reduceLT, reduceCtorEq, reduceAdd, reduceLeDiff, e4, e1]
              exact hK _ (hU1.trans (hU3.trans hU4)) hF4
            | true =>
              have ha := any_take (p := fun c => !shortV n c) hc hinv (by simp only [hs]; rfl)
              simp (maxSteps:=999999) only [gx, implies_true, reduceMul, reducePow, reduceSub, Nat.reduceBEq, reduceToNat, reduceEqDiff, reduceLT, reduceCtorEq, reduceAdd, reduceLeDiff, e4, e1, wrap_succ (i := i) (by omega)]
              exact ⟨⟨hU3.trans hU4, hF4, i + 1, hlt, rfl, ha⟩, by omega⟩
          · obtain rfl : i = L.length := by omega
            rw [List.take_length] at hinv
            simp only [hinv, Bool.not_false] at hK
            simp (maxSteps:=999999) only [gx, implies_true, reduceMul, reducePow, reduceSub, Nat.reduceBEq, reduceToNat, reduceEqDiff, reduceLT, reduceCtorEq, reduceAdd, reduceLeDiff, e4, e1, hb3, hlv, lt_false hlt]
            exact hK _ (hU1.trans hU3) hF3
def withinV (n : Nat) (cs : List AV) : Bool := decide (depthV n cs ≤ 16) && decide (sizeV n cs ≤ 1000) && shortV n cs
theorem f141_ok {n : Nat} {cs : List AV} (h : VT n cs) (H : Heap) (hF : Free H) (K : AV → Heap → Prop) (hK : ∀ H', Up H H' → Free H' → K (.bool (withinV n cs)) H') : WF Tryz.prog 141 [.agg cs] H K := by
  refine WF_body Tryz.func141 (by kernel_rfl) rfl Tryz.ntmps141 (by rw [Tryz.results141]) (of_decide_eq_true (by kernel_rfl)) ?_
  simp (maxSteps:=999999) only [gx, implies_true, reduceMul, reducePow, reduceSub, Nat.reduceBEq, reduceToNat, reduceEqDiff, reduceLT, reduceCtorEq, reduceAdd, reduceLeDiff, hF.at, hF.hp, h.len, h.tk]
  generalize hH1 : HP H [Blk.row 34 5 [cs] 0 0] = H1
  have hb : H1.blk H.next = some (.row 34 5 [cs] 0 0) := by rw [← hH1, hp_blk0]; rfl
  have hF1 : Free H1 := hH1 ▸ hF.hpF _
  have hU1 : Up H H1 := hH1 ▸ hF.hpU _
  refine callStep (f166_ok n cs h H1 hF1 _ fun H2 hU2 hF2 => ?_)
  unfold withinV at hK
  by_cases h1 : depthV n cs ≤ 16
  · simp only [h1, decide_true, Bool.true_and] at hK
    simp (maxSteps:=999999) only [gx, implies_true, reduceMul, reducePow, reduceSub, Nat.reduceBEq, reduceToNat, reduceEqDiff, reduceLT, reduceCtorEq, reduceAdd, reduceLeDiff, hU2 _ _ hb, h.len, h.tk, h1]
    refine callStep (f165_ok n cs h H2 hF2 _ fun H3 hU3 hF3 => ?_)
    by_cases h2 : sizeV n cs ≤ 1000
    · simp only [h2, decide_true, Bool.true_and] at hK
      simp (maxSteps:=999999) only [gx, implies_true, reduceMul, reducePow, reduceSub, Nat.reduceBEq, reduceToNat, reduceEqDiff, reduceLT, reduceCtorEq, reduceAdd, reduceLeDiff, hU3 _ _ (hU2 _ _ hb), h.len, h.tk, h2]
      refine callStep (f238_ok n cs h H3 hF3 _ fun H4 hU4 hF4 => ?_)
      simp (maxSteps:=999999) only [gx, implies_true, reduceMul, reducePow, reduceSub, Nat.reduceBEq, reduceToNat, reduceEqDiff, reduceLT, reduceCtorEq, reduceAdd, reduceLeDiff]
      exact hK _ (hU1.trans (hU2.trans (hU3.trans hU4))) hF4
    · simp only [h2, decide_false, Bool.false_and] at hK
      simp (maxSteps:=999999) only [gx, implies_true, reduceMul, reducePow, reduceSub, Nat.reduceBEq, reduceToNat, reduceEqDiff, reduceLT, reduceCtorEq, reduceAdd, reduceLeDiff, h2]
      exact hK _ (hU1.trans (hU2.trans hU3)) hF3
  · simp only [h1, decide_false, Bool.false_and] at hK
    simp (maxSteps:=999999) only [gx, implies_true, reduceMul, reducePow, reduceSub, Nat.reduceBEq, reduceToNat, reduceEqDiff, reduceLT, reduceCtorEq, reduceAdd, reduceLeDiff, h1]
    exact hK _ (hU1.trans hU2) hF2
theorem f145_ok {n : Nat} {cs : List AV} (h : VT n cs) (H : Heap) (hF : Free H) (K : AV → Heap → Prop) (hK : ∀ H', Up H H' → Free H' → K (.bool (withinV n cs)) H') : WF Tryz.prog 145 [.agg cs] H K := by
  refine WF_body Tryz.func145 (by kernel_rfl) rfl Tryz.ntmps145 (by rw [Tryz.results145]) (of_decide_eq_true (by kernel_rfl)) ?_
  simp (maxSteps:=999999) only [gx, implies_true, reduceMul, reducePow, reduceSub, Nat.reduceBEq, reduceToNat, reduceEqDiff, reduceLT, reduceCtorEq, reduceAdd, reduceLeDiff, hF.at, hF.hp, h.len, h.tk]
  generalize hH1 : HP H [Blk.row 34 5 [cs] 0 0] = H1
  have hb : H1.blk H.next = some (.row 34 5 [cs] 0 0) := by rw [← hH1, hp_blk0]; rfl
  have hF1 : Free H1 := hH1 ▸ hF.hpF _
  have hU1 : Up H H1 := hH1 ▸ hF.hpU _
  refine callStep (f241_ok n cs h H1 hF1 _ fun H2 hU2 hF2 => ?_)
  unfold withinV at hK
  cases h0 : shortV n cs with
  | false =>
    simp only [h0, Bool.and_false] at hK
    simp (maxSteps:=999999) only [gx, implies_true, reduceMul, reducePow, reduceSub, Nat.reduceBEq, reduceToNat, reduceEqDiff, reduceLT, reduceCtorEq, reduceAdd, reduceLeDiff]
    exact hK _ (hU1.trans hU2) hF2
  | true =>
    simp only [h0, Bool.and_true] at hK
    simp (maxSteps:=999999) only [gx, implies_true, reduceMul, reducePow, reduceSub, Nat.reduceBEq, reduceToNat, reduceEqDiff, reduceLT, reduceCtorEq, reduceAdd, reduceLeDiff, hU2 _ _ hb, h.len, h.tk]
    refine callStep (f187_ok n cs h H2 hF2 _ fun H3 hU3 hF3 => ?_)
    by_cases h1 : depthV n cs ≤ 16
    · simp only [h1, decide_true, Bool.true_and] at hK
      simp (maxSteps:=999999) only [gx, implies_true, reduceMul, reducePow, reduceSub, Nat.reduceBEq, reduceToNat, reduceEqDiff, reduceLT, reduceCtorEq, reduceAdd, reduceLeDiff, hU3 _ _ (hU2 _ _ hb), h.len, h.tk, h1]
      refine callStep (f186_ok n cs h H3 hF3 _ fun H4 hU4 hF4 => ?_)
      simp (maxSteps:=999999) only [gx, implies_true, reduceMul, reducePow, reduceSub, Nat.reduceBEq, reduceToNat, reduceEqDiff, reduceLT, reduceCtorEq, reduceAdd, reduceLeDiff]
      exact hK _ (hU1.trans (hU2.trans (hU3.trans hU4))) hF4
    · simp only [h1, decide_false, Bool.false_and] at hK
      simp (maxSteps:=999999) only [gx, implies_true, reduceMul, reducePow, reduceSub, Nat.reduceBEq, reduceToNat, reduceEqDiff, reduceLT, reduceCtorEq, reduceAdd, reduceLeDiff, h1]
      exact hK _ (hU1.trans (hU2.trans hU3)) hF3
def kindV (cs : List AV) : Int := match cs.getD 0 .undef with | .int _ k => k | _ => 0
def futureV : Nat → List AV → Bool
  | 0, _ => false
  | n + 1, cs => (itm (cs.getD 3 .undef)).any (futureV n) || (kindV cs == 6)
theorem f146_ok : ∀ (n : Nat) (cs : List AV), VT n cs → ∀ (H : Heap) (hF : Free H) (K : AV → Heap → Prop) (hK : ∀ H', Up H H' → Free H' → K (.bool (futureV n cs)) H'), WF Tryz.prog 146 [.agg cs] H K := by
  intro n
  induction n with
  | zero => intro cs h; exact h.elim
  | succ n ih =>
    intro cs h H hF K hK
    obtain ⟨k, ix, s, v, w, L, M, rfl, hv, hvn, hvc, hw, hwn, hwc⟩ := h
    have e : futureV (n + 1) [.int .i64 k, .int .i64 ix, .str s, v, w] = (L.any (futureV n) || (k == 6)) := by rw [← itm_eq hv]; rfl
    rw [e] at hK
    have hlv : ∀ G, evBuiltin Tryz.prog G .len #[24] [v] = some (.int .i64 L.length, G) := fun G => (hv G).lenAt und24 G
    refine WF_body Tryz.func146 (by kernel_rfl) rfl Tryz.ntmps146 (by rw [Tryz.results146]) (of_decide_eq_true (by kernel_rfl)) ?_
    simp (maxSteps:=999999) only [gx, implies_true, reduceMul, reducePow, reduceSub, Nat.reduceBEq, reduceToNat, reduceEqDiff, reduceLT, reduceCtorEq, reduceAdd, reduceLeDiff, hF.at, hF.hp]
    generalize hH1 : HP H [Blk.row 34 5 [[.int .i64 k, .int .i64 ix, .str s, v, w]] 0 0] = H1
    have hb : H1.blk H.next = some (.row 34 5 [[.int .i64 k, .int .i64 ix, .str s, v, w]] 0 0) := by rw [← hH1, hp_blk0]; rfl
    have hF1 : Free H1 := hH1 ▸ hF.hpF _
    have hU1 : Up H H1 := hH1 ▸ hF.hpU _
    refine loopStep' (fun env H' => Up H1 H' ∧ Free H' ∧ ∃ i : Nat, i ≤ L.length ∧ env.at (.tmp 3) = .int .i64 i ∧ env.at (.tmp 1) = .ptr H.next 0 0 0 ∧ (L.take i).any (futureV n) = false)
      (fun env H' => match env.at (.tmp 3) with | .int _ i => ((L.length : Int) - i).toNat | _ => 0) ?_ ?_
    · exact ⟨Up.refl _, hF1, 0, Nat.zero_le _, by simp only [gx, implies_true, reduceMul, reducePow, reduceSub, Nat.reduceBEq, reduceToNat, reduceEqDiff, reduceLT, reduceCtorEq, reduceAdd, reduceLeDiff]; rfl, by simp only [gx, implies_true, reduceMul, reducePow, reduceSub, Nat.reduceBEq, reduceToNat, reduceEqDiff, reduceLT, reduceCtorEq, reduceAdd, reduceLeDiff], by simp⟩
    · rintro env3 H3 ⟨hU3, hF3, i, hi, e4, e1, hinv⟩
      have hb3 := hU3 _ _ hb
      by_cases hlt : i < L.length
      · obtain ⟨c, hc⟩ : ∃ c, L[i]? = some c := ⟨_, List.getElem?_eq_getElem hlt⟩
        have hcm := hvc c (List.mem_of_getElem? hc)
        simp (maxSteps:=999999) only [gx, implies_true, reduceMul, reducePow, reduceSub, Nat.reduceBEq, reduceToNat, reduceEqDiff, reduceLT, reduceCtorEq, reduceAdd, reduceLeDiff, e4, e1, hb3, hlv, lt_true hlt, idx24 hv hc, hcm.len, hcm.tk]
        refine callStep (ih c hcm H3 hF3 _ fun H4 hU4 hF4 => ?_)
        cases hs : futureV n c with
        | true =>
          have ha := any_at hc hs
          simp only [ha, Bool.true_or] at hK
          simp (maxSteps:=999999) only [gx, implies_true, reduceMul, reducePow, reduceSub, Nat.reduceBEq, reduceToNat, reduceEqDiff, reduceLT, reduceCtorEq, reduceAdd, reduceLeDiff, e4, e1]
          exact hK _ (hU1.trans (hU3.trans hU4)) hF4
        | false =>
          have ha := any_take hc hinv hs
          simp (maxSteps:=999999) only [gx, implies_true, reduceMul, reducePow, reduceSub, Nat.reduceBEq, reduceToNat, reduceEqDiff, reduceLT, reduceCtorEq, reduceAdd, reduceLeDiff, e4, e1, wrap_succ (i := i) (by omega)]
          exact ⟨⟨hU3.trans hU4, hF4, i + 1, hlt, rfl, ha⟩, by omega⟩
      · obtain rfl : i = L.length := by omega
        rw [List.take_length] at hinv
        simp only [hinv, Bool.false_or] at hK
        simp (maxSteps:=999999) only [gx, implies_true, reduceMul, reducePow, reduceSub, Nat.reduceBEq, reduceToNat, reduceEqDiff, reduceLT, reduceCtorEq, reduceAdd, reduceLeDiff, e4, e1, hb3, hlv, lt_false hlt]
        exact hK _ (hU1.trans hU3) hF3
end Go.Proofs.T
