import Derived.Test.YtjlmgabhhodhfaaGreatDoorGX
set_option linter.unusedVariables false
set_option linter.unusedSimpArgs false
namespace Go.Ev
def Stk (G H : Heap) (esz : Nat) (v : AV) (L : List (List AV)) : Prop :=
  (∀ cs ∈ L, cs.length = esz ∧ cs.all AV.isCell = true) ∧
  ((L = [] ∧ (v = .nilslice ∨ v = .eslice)) ∨
   ∃ b cap ex g ty els wgen, v = .slice b 0 L.length cap ex g ∧ H.blk b = some (.row ty esz els g wgen) ∧ wgen ≤ g ∧ els.take L.length = L ∧ L.length ≤ cap ∧ cap ≤ els.length ∧ (∀ cs ∈ els, cs.length = esz) ∧ G.blk b = none)
theorem Own.stk {G H : Heap} {ty esz : Nat} {v : AV} {L : List (List AV)} (h : Own G H ty esz v L) : Stk G H esz v L := by
  obtain ⟨h0, h | ⟨b, g, wgen, h1, h2, h3, h4⟩ | ⟨b, g, ty', gen, wgen, h1, h2, ⟨h3, h5⟩, h4⟩⟩ := h
  · exact ⟨h0, .inl h⟩
  · exact ⟨h0, .inr ⟨b, _, _, g, ty, L, wgen, h1, h2, h3, by simp, Nat.le_refl _, Nat.le_refl _, fun cs hc => (h0 cs hc).1, h4⟩⟩
  · subst h5
    exact ⟨h0, .inr ⟨b, _, _, gen, ty', L, wgen, h1, h2, h3, by simp, Nat.le_refl _, Nat.le_refl _, fun cs hc => (h0 cs hc).1, h4⟩⟩
theorem Stk.holds {G H : Heap} {esz : Nat} {v : AV} {L : List (List AV)} (h : Stk G H esz v L) : Holds H esz v L := by
  obtain ⟨h0, h | ⟨b, cap, ex, g, ty, els, wgen, h1, h2, h3, h4, h5, h6, h7, h8⟩⟩ := h
  · exact ⟨fun cs hc => (h0 cs hc).1, .inl h⟩
  · exact ⟨fun cs hc => (h0 cs hc).1, .inr (.inr ⟨b, 0, cap, ex, g, ty, els, g, wgen, h1, h2, h3, by rw [List.drop_zero]; exact h4, by omega, h5⟩)⟩
theorem Stk.up {G H K : Heap} {esz : Nat} {v : AV} {L : List (List AV)} (h : Stk G H esz v L) (hu : Up H K) : Stk G K esz v L := by
  obtain ⟨h0, h | ⟨b, cap, ex, g, ty, els, wgen, h1, h2, h3⟩⟩ := h
  · exact ⟨h0, .inl h⟩
  · exact ⟨h0, .inr ⟨b, cap, ex, g, ty, els, wgen, h1, hu _ _ h2, h3⟩⟩
theorem Stk.dom {G G' H : Heap} {esz : Nat} {v : AV} {L : List (List AV)} (h : Stk G H esz v L) (hk : ∀ b, G.blk b = none → G'.blk b = none) : Stk G' H esz v L := by
  obtain ⟨h0, h | ⟨b, cap, ex, g, ty, els, wgen, h1, h2, h3, h4, h5, h6, h7, h8⟩⟩ := h
  · exact ⟨h0, .inl h⟩
  · exact ⟨h0, .inr ⟨b, cap, ex, g, ty, els, wgen, h1, h2, h3, h4, h5, h6, h7, hk _ h8⟩⟩
theorem Stk.keep {G H K : Heap} {esz : Nat} {v : AV} {L : List (List AV)} (h : Stk G H esz v L) (hk : ∀ b x, rowOf v = some b → H.blk b = some x → K.blk b = some x) : Stk G K esz v L := by
  obtain ⟨h0, h | ⟨b, cap, ex, g, ty, els, wgen, rfl, h2, h3⟩⟩ := h
  · exact ⟨h0, .inl h⟩
  · exact ⟨h0, .inr ⟨b, cap, ex, g, ty, els, wgen, rfl, hk _ _ rfl h2, h3⟩⟩
theorem Stk.but {G H : Heap} {esz : Nat} {v : AV} {L : List (List AV)} (h : Stk G H esz v L) : Stk (hbut H (rowOf v)) H esz v L := by
  obtain ⟨h0, h | ⟨b, cap, ex, g, ty, els, wgen, rfl, h2, h3, h4, h5, h6, h7, h8⟩⟩ := h
  · exact ⟨h0, .inl h⟩
  · exact ⟨h0, .inr ⟨b, cap, ex, g, ty, els, wgen, rfl, h2, h3, h4, h5, h6, h7, by simp [hbut, rowOf]⟩⟩
theorem Stk.row {G H : Heap} {esz : Nat} {v : AV} {L : List (List AV)} (h : Stk G H esz v L) {b : Nat} (hb : rowOf v = some b) : G.blk b = none ∧ H.blk b ≠ none := by
  obtain ⟨h0, ⟨_, rfl | rfl⟩ | ⟨b', cap, ex, g, ty, els, wgen, rfl, h2, h3, h4, h5, h6, h7, h8⟩⟩ := h
  · cases hb
  · cases hb
  · cases hb; exact ⟨h8, by rw [h2]; simp⟩
theorem Stk.plain {G H : Heap} {esz : Nat} {v : AV} {L : List (List AV)} (h : Stk G H esz v L) : v.isUndef = false ∧ v.cells = [v] ∧ v.isCell = true := by
  obtain ⟨h0, ⟨_, rfl | rfl⟩ | ⟨b', cap, ex, g, ty, els, wgen, rfl, _⟩⟩ := h <;> exact ⟨rfl, rfl, rfl⟩
section
variable {P : Program}
theorem Stk.cut {G H : Heap} {esz : Nat} {v : AV} {L : List (List AV)} (h : Stk G H esz v L) {t e : TypeId} (ht : P.underlying t = some (.slice e)) (hs : szOf P e = some esz) {i : Nat} (hi : i ≤ L.length) :
    ∃ u, evSlice P H t v none (some (i : Int)) none = some u ∧ Stk G H esz u (L.take i) ∧ (∀ b, rowOf u = some b → rowOf v = some b) := by
  have hz : ∀ cs ∈ L.take i, cs.length = esz ∧ cs.all AV.isCell = true := fun cs hc => h.1 cs (List.mem_of_mem_take hc)
  have hti : (L.take i).length = i := by rw [List.length_take]; omega
  obtain ⟨h0, ⟨rfl, rfl | rfl⟩ | ⟨b, cap, ex, g, ty, els, wgen, rfl, h2, h3, h4, h5, h6, h7, h8⟩⟩ := h
  · obtain rfl : i = 0 := by simpa using hi
    exact ⟨.nilslice, by simp [evSlice, ht, hs, boundsOk], ⟨by simp, .inl ⟨by simp, .inl rfl⟩⟩, fun b hb => hb⟩
  · obtain rfl : i = 0 := by simpa using hi
    exact ⟨.eslice, by simp [evSlice, ht, hs, boundsOk], ⟨by simp, .inl ⟨by simp, .inr rfl⟩⟩, fun b hb => hb⟩
  · refine ⟨.slice b 0 i cap ex g, ?_, ⟨hz, .inr ⟨b, cap, ex, g, ty, els, wgen, by rw [hti], h2, h3, ?_, by omega, h6, h7, h8⟩⟩, fun b hb => hb⟩
    · simp only [evSlice, ht, hs, Option.getD_none, Option.getD_some, boundsOk, Heap.eszOf, h2, if_pos h3]
      rw [if_pos (by simp; omega)]
      simp
    · rw [hti]
      have : (els.take L.length).take i = L.take i := by rw [h4]
      rw [List.take_take, Nat.min_eq_left hi] at this
      exact this
theorem Stk.append1 {G H : Heap} {ty esz bytes : Nat} {v : AV} {L : List (List AV)} (h : Stk G H esz v L) (hF : Free H) (hU : Up G H) {new : List (List AV)} (hnew : ∀ cs ∈ new, cs.length = esz ∧ cs.all AV.isCell = true)
    (hsz : (L.length + new.length) * bytes ≤ maxBytes) (hsz' : L.length + new.length ≤ maxBytes) :
    ∃ u K, H.append1 ty esz bytes v new = some (u, K) ∧ Stk G K esz u (L ++ new) ∧ Up G K ∧ Free K ∧ (K.next = H.next ∨ H.blk H.next = none) := by
  have hcell : new.all (fun cs => cs.all AV.isCell) = true := List.all_eq_true.2 fun cs hc => (hnew cs hc).2
  have hall : ∀ cs ∈ L ++ new, cs.length = esz ∧ cs.all AV.isCell = true := fun cs hc => (List.mem_append.1 hc).elim (h.1 cs) (hnew cs)
  by_cases hn : new = []
  · subst hn
    refine ⟨v, H, append1_some ?_, by simpa using h, hU, hF, .inl rfl⟩
    obtain ⟨h0, ⟨rfl, rfl | rfl⟩ | ⟨b, cap, ex, g, ty, els, wgen, rfl, h2, h3, h4, h5, h6, h7, h8⟩⟩ := h <;> simp [Heap.append]
  · have hn0 : new.length ≠ 0 := by simpa using hn
    have hpos : 0 < new.length := by omega
    have hlen : (L ++ new).length = L.length + new.length := List.length_append
    obtain ⟨h0, ⟨rfl, hv⟩ | ⟨b, cap, ex, g, ty', els, wgen, rfl, h2, h3, h4, h5, h6, h7, h8⟩⟩ := h
    · have hs1 : new.length * bytes ≤ maxBytes ∧ new.length ≤ maxBytes := by simp at hsz hsz'; exact ⟨hsz, hsz'⟩
      refine ⟨.slice H.next 0 new.length new.length false 0, H.push (.row ty esz new 0 0), append1_some ?_, ⟨by simpa using hall, .inr ⟨H.next, new.length, false, 0, ty, new, 0, by simp, push_blk_same _ _, Nat.le_refl _, by simp, by simp, Nat.le_refl _, fun cs hc => (hnew cs hc).1, hU.new hF⟩⟩, hU.push hF _, hF.push _, .inr hF.at⟩
      rcases hv with rfl | rfl <;> (simp only [Heap.append, hcell, if_true]; rw [if_neg hn0, if_pos hs1])
    · have hlt := hF.lt h2
      have hsame : ∀ (els' : List (List AV)) (g' w' : Nat), L.length ≤ els'.length → els'.take (L.length + new.length) = L ++ new → L.length + new.length ≤ els'.length → True := fun _ _ _ _ _ _ => trivial
      by_cases hfit : L.length + new.length ≤ cap
      · have hle : L.length + new.length ≤ els.length := by omega
        refine ⟨.slice b 0 (L.length + new.length) cap ex g, H.set b (.row ty' esz (setAll els (0 + L.length) new) g g), append1_some ?_, ⟨hall, .inr ⟨b, cap, ex, g, ty', setAll els (0 + L.length) new, g, by rw [hlen], Heap.set_same _ _ _, Nat.le_refl _, ?_, by rw [hlen]; exact hfit, ?_, fun cs hc => ?_, h8⟩⟩, hU.set h8 _, hF.set hlt _, .inl rfl⟩
        · simp only [Heap.append, hcell, if_true, h2]
          rw [if_neg hn0, if_pos ⟨h3, trivial, hsz, hsz'⟩, if_pos hfit]
          try rfl
        · rw [hlen, Nat.zero_add]
          unfold setAll
          have e1 : (els.take L.length ++ new).length = L.length + new.length := by rw [List.length_append, List.length_take]; omega
          rw [← e1, List.take_left, h4]
        · rw [setAll_length (by omega)]; exact h6
        · simp only [setAll, List.mem_append] at hc
          rcases hc with (hc | hc) | hc
          · exact h7 cs (List.mem_of_mem_take hc)
          · exact (hnew cs hc).1
          · exact h7 cs (List.mem_of_mem_drop hc)
      · cases ex with
        | true =>
          refine ⟨.slice H.next 0 (L.length + new.length) (L.length + new.length) false 0, H.push (.row ty esz (((els.drop 0).take L.length) ++ new) 0 0), append1_some ?_, ⟨hall, .inr ⟨H.next, L.length + new.length, false, 0, ty, _, 0, by rw [hlen], push_blk_same _ _, Nat.le_refl _, ?_, by rw [hlen]; exact Nat.le_refl _, ?_, fun cs hc => ?_, hU.new hF⟩⟩, hU.push hF _, hF.push _, .inr hF.at⟩
          · simp only [Heap.append, hcell, if_true, h2]
            rw [if_neg hn0, if_pos ⟨h3, trivial, hsz, hsz'⟩, if_neg hfit]
          · rw [List.drop_zero, h4, List.take_length]
          · rw [List.drop_zero, h4, hlen]; exact Nat.le_refl _
          · rw [List.drop_zero, h4] at hc; exact (hall cs hc).1
        | false =>
          by_cases hend : 0 + L.length = els.length
          · have he : els = L := by rw [← h4, List.take_of_length_le (by omega)]
            refine ⟨.slice b 0 (L.length + new.length) (L.length + new.length) false (g + 1), H.set b (.row ty' esz (els ++ new) (g + 1) wgen), append1_some ?_, ⟨hall, .inr ⟨b, _, _, g + 1, ty', els ++ new, wgen, by rw [hlen], Heap.set_same _ _ _, by omega, ?_, by rw [hlen]; exact Nat.le_refl _, ?_, fun cs hc => ?_, h8⟩⟩, hU.set h8 _, hF.set hlt _, .inl rfl⟩
            · simp only [Heap.append, hcell, if_true, h2]
              rw [if_neg hn0, if_pos ⟨h3, trivial, hsz, hsz'⟩, if_neg hfit]
              simp only [Bool.false_eq_true, if_false]
              rw [if_pos ⟨trivial, hend⟩]
            · rw [he, List.take_length]
            · rw [he, hlen]; exact Nat.le_refl _
            · rw [he] at hc; exact (hall cs hc).1
          · have h0' : H.append ty esz bytes (.slice b 0 L.length cap false g) new = none := by
              simp only [Heap.append, hcell, if_true, h2]
              rw [if_neg hn0, if_pos ⟨h3, trivial, hsz, hsz'⟩, if_neg hfit]
              simp only [Bool.false_eq_true, if_false]
              rw [if_neg (fun h => hend h.2)]
            refine ⟨.slice b 0 (L.length + new.length) (L.length + new.length) false (g + 2), H.set b (.row ty' esz (els.take (0 + L.length) ++ new) (g + 2) (g + 1)), ?_, ⟨hall, .inr ⟨b, _, _, g + 2, ty', _, g + 1, by rw [hlen], Heap.set_same _ _ _, by omega, ?_, by rw [hlen]; exact Nat.le_refl _, ?_, fun cs hc => ?_, h8⟩⟩, hU.set h8 _, hF.set hlt _, .inl rfl⟩
            · simp only [Heap.append1, h0', h2]
              rw [if_pos ⟨hcell, hpos, trivial, h3, trivial, by omega, hsz, hsz'⟩]
            · rw [Nat.zero_add, h4, List.take_length]
            · rw [Nat.zero_add, h4, hlen]; exact Nat.le_refl _
            · rw [Nat.zero_add, h4] at hc; exact (hall cs hc).1
variable {Kp : Kept} {n : Nat} {ops : Array Oper} {l : List (Oper × Bool)} {ks : List KItem} {env : Env} {Q : Ex → Env → Heap → Prop}
theorem opStep_push {G H : Heap} {d : Option Tmp} {t u e esz bytes : Nat} (hb : appB P t u e esz bytes = true) {v x : AV} {L new : List (List AV)} (hO : Stk G H esz v L) (hF : Free H) (hU : Up G H) (hx : Holds H esz x new)
    (hnew : ∀ cs ∈ new, cs.all AV.isCell = true) (hsz : (L.length + new.length) * bytes ≤ maxBytes) (hsz' : L.length + new.length ≤ maxBytes)
    (h : ∀ u K, Stk G K esz u (L ++ new) → Up G K → Free K → AfterOps P Kp n ops l ks (env.put d u) K Q) : OpStep P Kp n ops d false (evBuiltin P H .append #[t, u] [v, x]) l ks env H Q := by
  obtain ⟨r, K, h1, h2, h3, h4, h5⟩ := hO.append1 hF hU (fun cs hc => ⟨hx.1 cs hc, hnew cs hc⟩) hsz hsz'
  rw [append_ev hb hx.len? hx.elems, h1, opStep_some]
  exact ⟨h5, h r K h2 h3 h4⟩
end
structure TS (F N : Heap) (b ty esz : Nat) (H : Heap) (u : AV) (L els : List (List AV)) : Prop where
  up : Up F H
  free : Free H
  stk : Stk N H esz u L
  dom : ∀ c, N.blk c ≠ none → H.blk c ≠ none
  row : H.blk b = some (.row ty 1 els 0 0)
  name : N.blk b ≠ none
  sub : ∀ c x, F.blk c = some x → N.blk c ≠ none
  out : F.blk b = none
theorem TS.grow {F N : Heap} {b ty esz : Nat} {H K : Heap} {u : AV} {L els : List (List AV)} (h : TS F N b ty esz H u L els) (hU : Up H K) (hK : Free K) : TS F N b ty esz K u L els where
  up := h.up.trans hU
  free := hK
  stk := h.stk.up hU
  dom := fun c hc => by
    cases hx : H.blk c with
    | none => exact absurd hx (h.dom c hc)
    | some x => rw [hU _ _ hx]; simp
  row := hU _ _ h.row
  name := h.name
  sub := h.sub
  out := h.out
theorem TS.store {F N : Heap} {b ty esz : Nat} {H : Heap} {u : AV} {L els : List (List AV)} (h : TS F N b ty esz H u L els) (els' : List (List AV)) : TS F N b ty esz (H.set b (.row ty 1 els' 0 0)) u L els' where
  up := h.up.set h.out _
  free := h.free.set (h.free.lt h.row) _
  stk := h.stk.keep fun c x hc hx => by
    rw [Heap.set_other _ _ _ (fun e => h.name (by rw [← e]; exact (h.stk.row hc).1))]; exact hx
  dom := fun c hc => Heap.set_ne (h.dom c hc)
  row := Heap.set_same _ _ _
  name := h.name
  sub := h.sub
  out := h.out
theorem TS.swap {F N : Heap} {b ty esz : Nat} {H : Heap} {u v : AV} {L M els : List (List AV)} (h : TS F N b ty esz H u L els) (hs : Stk N H esz v M) : TS F N b ty esz H v M els where
  up := h.up
  free := h.free
  stk := hs
  dom := h.dom
  row := h.row
  name := h.name
  sub := h.sub
  out := h.out
theorem TS.push {F N : Heap} {b ty esz : Nat} {H K : Heap} {u v : AV} {L M els : List (List AV)} (h : TS F N b ty esz H u L els) (hs : Stk (hbut H (rowOf u)) K esz v M) (hU : Up (hbut H (rowOf u)) K) (hK : Free K) : TS F N b ty esz K v M els := by
  have hne : ∀ c, N.blk c ≠ none → rowOf u ≠ some c := fun c hc he => hc (h.stk.row he).1
  have hkeep : ∀ c x, N.blk c ≠ none → H.blk c = some x → K.blk c = some x := fun c x hc hx => hU _ _ (by rw [but_blk (hne c hc)]; exact hx)
  refine ⟨fun c x hx => hkeep c x (h.sub c x hx) (h.up _ _ hx), hK, hs.dom fun c hc => ?_, fun c hc => ?_, hkeep _ _ h.name h.row, h.name, h.sub, h.out⟩
  · by_cases he : rowOf u = some c
    · exact (h.stk.row he).1
    · rw [but_blk he] at hc
      cases hx : N.blk c with
      | none => rfl
      | some x => exact absurd hc (h.dom c (by rw [hx]; simp))
  · cases hx : H.blk c with
    | none => exact absurd hx (h.dom c hc)
    | some x => rw [hkeep c x hc hx]; simp
theorem TS.inner {F N : Heap} {b ty esz : Nat} {H : Heap} {u : AV} {L els : List (List AV)} (h : TS F N b ty esz H u L els) : TS (hbut (hbut H (rowOf u)) (some b)) (hbut H (rowOf u)) b ty esz H u L els where
  up := but_up.trans but_up
  free := h.free
  stk := h.stk.but
  dom := fun c hc => by
    cases hx : (hbut H (rowOf u)).blk c with
    | none => exact absurd hx hc
    | some x => rw [but_up _ _ hx]; simp
  row := h.row
  name := by
    rw [but_blk (fun he => h.name (h.stk.row he).1), h.row]; simp
  sub := fun c x hx => by rw [but_up _ _ hx]; simp
  out := by simp [hbut]
theorem TS.outer {F N : Heap} {b ty esz : Nat} {H K : Heap} {u v : AV} {L M els els' : List (List AV)} (h : TS F N b ty esz H u L els) (hi : TS (hbut (hbut H (rowOf u)) (some b)) (hbut H (rowOf u)) b ty esz K v M els') : TS F N b ty esz K v M els' := by
  have hne : ∀ c, N.blk c ≠ none → rowOf u ≠ some c := fun c hc he => hc (h.stk.row he).1
  have hnm : ∀ c, N.blk c ≠ none → (hbut H (rowOf u)).blk c ≠ none := fun c hc => by rw [but_blk (hne c hc)]; exact h.dom c hc
  refine ⟨fun c x hx => hi.up _ _ ?_, hi.free, hi.stk.dom fun c hc => ?_, fun c hc => hi.dom c (hnm c hc), hi.row, h.name, h.sub, h.out⟩
  · rw [but_blk (fun he => ?_), but_blk (hne c (h.sub c x hx))]
    · exact h.up _ _ hx
    · cases he; rw [h.out] at hx; cases hx
  · cases hx : N.blk c with
    | none => rfl
    | some x => exact absurd hc (hnm c (by rw [hx]; simp))
end Go.Ev
