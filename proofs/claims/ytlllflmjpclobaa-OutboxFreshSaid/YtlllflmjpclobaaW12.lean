import Derived.Test.YtlllflmjpclobaaW11
set_option linter.unusedVariables false
set_option linter.unusedSimpArgs false
set_option linter.unusedVariables false
set_option linter.unusedSimpArgs false
set_option maxRecDepth 100000
namespace Go.Proofs.T
open Go.Ev
theorem iuI {k : IntKind} {n : Int} : (.int k n : AV).isUndef = false := rfl
theorem clI {k : IntKind} {n : Int} : (.int k n : AV).cells = [(.int k n : AV)] := rfl
theorem iuS {s : List Nat} : (.str s : AV).isUndef = false := rfl
theorem clS {s : List Nat} : (.str s : AV).cells = [(.str s : AV)] := rfl
theorem iuB {b : Bool} : (.bool b : AV).isUndef = false := rfl
theorem clB {b : Bool} : (.bool b : AV).cells = [(.bool b : AV)] := rfl
theorem iuN  : (.nilslice : AV).isUndef = false := rfl
theorem clN  : (.nilslice : AV).cells = [(.nilslice : AV)] := rfl
theorem iuL {b o l c : Nat} {x : Bool} {g : Nat} : (.slice b o l c x g : AV).isUndef = false := rfl
theorem clL {b o l c : Nat} {x : Bool} {g : Nat} : (.slice b o l c x g : AV).cells = [(.slice b o l c x g : AV)] := rfl
theorem iuP {b i o g : Nat} : (.ptr b i o g : AV).isUndef = false := rfl
theorem clP {b i o g : Nat} : (.ptr b i o g : AV).cells = [(.ptr b i o g : AV)] := rfl
theorem iuQ {cs : List AV} {o : Nat} : (.iptr cs o : AV).isUndef = false := rfl
theorem clQ {cs : List AV} {o : Nat} : (.iptr cs o : AV).cells = [(.iptr cs o : AV)] := rfl
theorem iuR {f : Fn} {a c : List AV} : (.func f a c : AV).isUndef = false := rfl
theorem clR {f : Fn} {a c : List AV} : (.func f a c : AV).cells = [(.func f a c : AV)] := rfl
theorem iuA {cs : List AV} : (.agg cs : AV).isUndef = false := rfl
theorem clA {cs : List AV} : (.agg cs : AV).cells = cs := rfl
theorem ceI {k : IntKind} {n : Int} : (.int k n : AV).isCell = true := rfl
theorem ceS {s : List Nat} : (.str s : AV).isCell = true := rfl
theorem ceB {b : Bool} : (.bool b : AV).isCell = true := rfl
theorem ceN  : (.nilslice : AV).isCell = true := rfl
theorem ceL {b o l c : Nat} {x : Bool} {g : Nat} : (.slice b o l c x g : AV).isCell = true := rfl

theorem own_plain {G H : Heap} {ty esz : Nat} {v : AV} {L : List (List AV)} (hO : Own G H ty esz v L) : v.isUndef = false ∧ v.cells = [v] ∧ v.isCell = true := by
  rcases own_shape hO with rfl | rfl | ⟨b, o, l, c, x, g, rfl⟩ <;> exact ⟨rfl, rfl, rfl⟩
def rowOf : AV → Option Nat
  | .slice b _ _ _ _ _ => some b
  | _ => none
def hbut (H : Heap) (o : Option Nat) : Heap := ⟨fun c => if o = some c then none else H.blk c, H.next⟩
theorem but_up {H : Heap} {o : Option Nat} : Up (hbut H o) H := fun b x h => by
  simp only [hbut] at h
  split at h
  · cases h
  · exact h
theorem but_blk {H : Heap} {o : Option Nat} {b : Nat} (h : o ≠ some b) : (hbut H o).blk b = H.blk b := by simp only [hbut]; rw [if_neg h]
theorem own_but {G H : Heap} {ty esz : Nat} {v : AV} {L : List (List AV)} (hO : Own G H ty esz v L) : Own (hbut H (rowOf v)) H ty esz v L := by
  obtain ⟨h0, h | ⟨b, g, wgen, rfl, h2, h3, h4⟩ | ⟨b, g, ty', gen, wgen, rfl, h2, h3, h4⟩⟩ := hO
  · exact ⟨h0, .inl h⟩
  · exact ⟨h0, .inr (.inl ⟨b, g, wgen, rfl, h2, h3, by simp [hbut, rowOf]⟩)⟩
  · exact ⟨h0, .inr (.inr ⟨b, g, ty', gen, wgen, rfl, h2, h3, by simp [hbut, rowOf]⟩)⟩
theorem own_row {G H : Heap} {ty esz : Nat} {v : AV} {L : List (List AV)} (hO : Own G H ty esz v L) {b : Nat} (hb : rowOf v = some b) : G.blk b = none ∧ H.blk b ≠ none := by
  obtain ⟨h0, ⟨_, rfl | rfl⟩ | ⟨b', g, wgen, rfl, h2, h3, h4⟩ | ⟨b', g, ty', gen, wgen, rfl, h2, h3, h4⟩⟩ := hO
  · cases hb
  · cases hb
  · cases hb; exact ⟨h4, by rw [h2]; simp⟩
  · cases hb; exact ⟨h4, by rw [h2]; simp⟩
theorem own_keep {G H K : Heap} {ty esz : Nat} {v : AV} {L : List (List AV)} (hO : Own G H ty esz v L) (hk : ∀ b x, rowOf v = some b → H.blk b = some x → K.blk b = some x) : Own G K ty esz v L := by
  obtain ⟨h0, h | ⟨b, g, wgen, rfl, h2, h3, h4⟩ | ⟨b, g, ty', gen, wgen, rfl, h2, h3, h4⟩⟩ := hO
  · exact ⟨h0, .inl h⟩
  · exact ⟨h0, .inr (.inl ⟨b, g, wgen, rfl, hk _ _ rfl h2, h3, h4⟩)⟩
  · exact ⟨h0, .inr (.inr ⟨b, g, ty', gen, wgen, rfl, hk _ _ rfl h2, h3, h4⟩)⟩
theorem own_dom {G G' H : Heap} {ty esz : Nat} {v : AV} {L : List (List AV)} (hO : Own G H ty esz v L) (hk : ∀ b, G.blk b = none → G'.blk b = none) : Own G' H ty esz v L := by
  obtain ⟨h0, h | ⟨b, g, wgen, rfl, h2, h3, h4⟩ | ⟨b, g, ty', gen, wgen, rfl, h2, h3, h4⟩⟩ := hO
  · exact ⟨h0, .inl h⟩
  · exact ⟨h0, .inr (.inl ⟨b, g, wgen, rfl, h2, h3, hk _ h4⟩)⟩
  · exact ⟨h0, .inr (.inr ⟨b, g, ty', gen, wgen, rfl, h2, h3, hk _ h4⟩)⟩
/-- The heap H with k more names taken. -/
def DOM (H : Heap) (k : Nat) : Heap := ⟨fun b => if H.next ≤ b ∧ b < H.next + k then some (.map [] 0) else H.blk b, 0⟩
theorem dom_up (H : Heap) (hF : Free H) (k : Nat) : Up H (DOM H k) := fun b x h => by
  have := hF.lt h
  simp only [DOM]; rw [if_neg (by omega)]; exact h
theorem dom_none {H : Heap} {k b : Nat} (h : (DOM H k).blk b = none) : ¬ (H.next ≤ b ∧ b < H.next + k) ∧ H.blk b = none := by
  simp only [DOM] at h
  split at h
  · cases h
  · rename_i hn; exact ⟨hn, h⟩
theorem dom_some {H : Heap} {k j : Nat} (h : j < k) : (DOM H k).blk (H.next + j) ≠ none := by
  simp only [DOM]; rw [if_pos ⟨by omega, by omega⟩]; simp
/-- One of two slices grows. -/
theorem step2 {H H' K : Heap} (hF : Free H) {k : Nat} (hD : ∀ j, j < k → H'.blk (H.next + j) ≠ none) (hU : Up H H') {tyA szA tyB szB : Nat} {A B u : AV} {LA LB LA' : List (List AV)} (oA : Own (DOM H k) H' tyA szA A LA) (oB : Own (DOM H k) H' tyB szB B LB)
    (dis : ∀ b, rowOf B = some b → rowOf A ≠ some b) (hO4 : Own (hbut H' (rowOf A)) K tyA szA u LA') (hU4 : Up (hbut H' (rowOf A)) K) :
    Up H K ∧ (∀ j x, j < k → H'.blk (H.next + j) = some x → K.blk (H.next + j) = some x) ∧ Own (DOM H k) K tyA szA u LA' ∧ Own (DOM H k) K tyB szB B LB ∧ (∀ b, rowOf B = some b → rowOf u ≠ some b) := by
  have hA : ∀ b, (DOM H k).blk b ≠ none → rowOf A ≠ some b := fun b hb h => hb (own_row oA h).1
  have hAH : ∀ b x, H.blk b = some x → rowOf A ≠ some b := fun b x hb => hA b (by rw [dom_up H hF k _ _ hb]; simp)
  refine ⟨fun b x hb => hU4 _ _ (by rw [but_blk (hAH b x hb)]; exact hU _ _ hb), fun j x hj hb => hU4 _ _ (by rw [but_blk (hA _ (dom_some hj))]; exact hb), own_dom hO4 fun b hb => ?_, own_keep oB fun b x hb hx => hU4 _ _ (by rw [but_blk (dis b hb)]; exact hx), fun b hb hu => ?_⟩
  · by_cases hc : H.next ≤ b ∧ b < H.next + k
    · exfalso
      obtain ⟨j, rfl⟩ : ∃ j, b = H.next + j := ⟨b - H.next, by omega⟩
      have := but_blk (H := H') (hA _ (dom_some (show j < k by omega)))
      rw [this] at hb
      exact hD j (by omega) hb
    · simp only [DOM]; rw [if_neg hc]
      cases hx : H.blk b with
      | none => rfl
      | some x =>
        have := but_blk (H := H') (hAH b x hx)
        rw [this, hU _ _ hx] at hb; cases hb
  · have h1 := (own_row hO4 hu).1
    rw [but_blk (dis b hb)] at h1
    exact (own_row oB hb).2 h1

theorem VR.mono : ∀ {n m : Nat} {H : Heap} {c : List AV}, VR n H c → n ≤ m → VR m H c
  | 0, _, _, _, h, _ => h.elim
  | n + 1, 0, _, _, _, h => by omega
  | n + 1, m + 1, _, _, ⟨k, i, s, v, w, L, M, e, hv, hl, hL, r⟩, h => ⟨k, i, s, v, w, L, M, e, hv, hl, fun c hc => (hL c hc).mono (by omega), r⟩

/-- With's blocks: the map, the value, the result, the map that is made. -/
structure WI (H H' : Heap) (d x : List AV) (vI wK : AV) (L M : List (List AV)) : Prop where
  b0 : H'.blk H.next = some (.row 26 5 [d] 0 0)
  b1 : H'.blk (H.next + 1) = some (.row 26 5 [x] 0 0)
  b2 : H'.blk (H.next + 2) = some (.row 26 5 [zv] 0 0)
  b3 : H'.blk (H.next + 3) = some (.row 26 5 [[.int .i64 5, .int .i64 0, .str [], vI, wK]] 0 0)
  U : Up H H'
  F : Free H'
  oI : Own (DOM H 4) H' 26 5 vI L
  oK : Own (DOM H 4) H' 9 1 wK M
  dis : ∀ b, rowOf vI = some b → rowOf wK ≠ some b
theorem WI.hD {H H' : Heap} {d x : List AV} {vI wK : AV} {L M : List (List AV)} (h : WI H H' d x vI wK L M) : ∀ j, j < 4 → H'.blk (H.next + j) ≠ none := fun j hj => by
  match j, hj with
  | 0, _ => rw [Nat.add_zero, h.b0]; simp
  | 1, _ => rw [h.b1]; simp
  | 2, _ => rw [h.b2]; simp
  | 3, _ => rw [h.b3]; simp
theorem WI.hp {H H' : Heap} {d x : List AV} {vI wK : AV} {L M : List (List AV)} (h : WI H H' d x vI wK L M) (xs : List Blk) : WI H (HP H' xs) d x vI wK L M :=
  ⟨h.F.hpU xs _ _ h.b0, h.F.hpU xs _ _ h.b1, h.F.hpU xs _ _ h.b2, h.F.hpU xs _ _ h.b3, h.U.trans (h.F.hpU xs), h.F.hpF xs, h.oI.up (h.F.hpU xs), h.oK.up (h.F.hpU xs), h.dis⟩
theorem WI.keys {H H' K : Heap} {d x : List AV} {vI wK u : AV} {L M M' : List (List AV)} (h : WI H H' d x vI wK L M) (hF : Free H) (hO4 : Own (hbut H' (rowOf wK)) K 9 1 u M') (hU4 : Up (hbut H' (rowOf wK)) K) (hF4 : Free K) :
    K.blk (H.next + 3) = some (.row 26 5 [[.int .i64 5, .int .i64 0, .str [], vI, wK]] 0 0) ∧ WI H (K.set (H.next + 3) (.row 26 5 [[.int .i64 5, .int .i64 0, .str [], vI, u]] 0 0)) d x vI u L M' := by
  obtain ⟨s1, s2, s3, s4, s5⟩ := step2 hF h.hD h.U h.oK h.oI (fun b hb => h.dis b hb) hO4 hU4
  have k3 := s2 3 _ (by omega) h.b3
  have ne : ∀ {j : Nat}, j < 3 → H.next + j ≠ H.next + 3 := by intro j hj; omega
  refine ⟨k3, ?_, ?_, ?_, set_same, s1.set (hF _ (by omega)) _, hF4.set (hF4.lt k3) _, own_set s4 (dom_some (by omega)) _, own_set s3 (dom_some (by omega)) _, s5⟩
  · rw [Heap.set_other _ _ _ (by omega)]; exact s2 0 _ (by omega) h.b0
  · rw [Heap.set_other _ _ _ (by omega)]; exact s2 1 _ (by omega) h.b1
  · rw [Heap.set_other _ _ _ (by omega)]; exact s2 2 _ (by omega) h.b2
theorem WI.items {H H' K : Heap} {d x : List AV} {vI wK u : AV} {L M L' : List (List AV)} (h : WI H H' d x vI wK L M) (hF : Free H) (hO4 : Own (hbut H' (rowOf vI)) K 26 5 u L') (hU4 : Up (hbut H' (rowOf vI)) K) (hF4 : Free K) :
    K.blk (H.next + 3) = some (.row 26 5 [[.int .i64 5, .int .i64 0, .str [], vI, wK]] 0 0) ∧ WI H (K.set (H.next + 3) (.row 26 5 [[.int .i64 5, .int .i64 0, .str [], u, wK]] 0 0)) d x u wK L' M := by
  have dis' : ∀ b, rowOf wK = some b → rowOf vI ≠ some b := fun b hb hv => h.dis b hv hb
  obtain ⟨s1, s2, s3, s4, s5⟩ := step2 hF h.hD h.U h.oI h.oK dis' hO4 hU4
  have k3 := s2 3 _ (by omega) h.b3
  refine ⟨k3, ?_, ?_, ?_, set_same, s1.set (hF _ (by omega)) _, hF4.set (hF4.lt k3) _, own_set s3 (dom_some (by omega)) _, own_set s4 (dom_some (by omega)) _, fun b hb hw => s5 b hw hb⟩
  · rw [Heap.set_other _ _ _ (by omega)]; exact s2 0 _ (by omega) h.b0
  · rw [Heap.set_other _ _ _ (by omega)]; exact s2 1 _ (by omega) h.b1
  · rw [Heap.set_other _ _ _ (by omega)]; exact s2 2 _ (by omega) h.b2
/-- Shapes, together. -/
theorem ux : (type_of% @icI) ∧ (type_of% @icS) ∧ (type_of% @icB) ∧ (type_of% @icN) ∧ (type_of% @icL) ∧ (type_of% @iuI) ∧ (type_of% @iuS) ∧ (type_of% @iuB) ∧ (type_of% @iuN) ∧ (type_of% @iuL) ∧ (type_of% @iuA) ∧ (type_of% @iuP) ∧ (type_of% @iuQ) ∧ (type_of% @iuR) ∧ (type_of% @clI) ∧ (type_of% @clS) ∧ (type_of% @clB) ∧ (type_of% @clN) ∧ (type_of% @clL) ∧ (type_of% @clA) ∧ (type_of% @clP) ∧ (type_of% @clQ) ∧ (type_of% @clR) ∧ (type_of% @ceI) ∧ (type_of% @ceS) ∧ (type_of% @ceB) ∧ (type_of% @ceN) ∧ (type_of% @ceL) :=
  ⟨@icI, @icS, @icB, @icN, @icL, @iuI, @iuS, @iuB, @iuN, @iuL, @iuA, @iuP, @iuQ, @iuR, @clI, @clS, @clB, @clN, @clL, @clA, @clP, @clQ, @clR, @ceI, @ceS, @ceB, @ceN, @ceL⟩
end Go.Proofs.T
