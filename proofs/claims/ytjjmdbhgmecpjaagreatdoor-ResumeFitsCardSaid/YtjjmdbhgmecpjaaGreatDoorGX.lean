import Derived.Test.YtjjmdbhgmecpjaaGreatDoorEvR
set_option linter.unusedVariables false
set_option linter.unusedSimpArgs false
namespace Go.Ev
theorem splice_one {cs : List AV} {o : Nat} {u : AV} (h : o < cs.length) : splice cs o [u] = cs.set o u := by
  rw [List.set_eq_take_append_cons_drop, if_pos h]
  simp [splice]
theorem splice_whole {cs vs : List AV} (h : vs.length = cs.length) : splice cs 0 vs = vs := by simp [splice, h]
theorem set_same {H : Heap} {b : Nat} {x : Blk} : (H.set b x).blk b = some x := Heap.set_same _ _ _
theorem set_set_same {H : Heap} {b : Nat} {x y : Blk} : (H.set b x).set b y = H.set b y := Heap.ext' (fun i => by simp only [Heap.set]; split <;> rfl) rfl
theorem set_01 {H : Heap} {b : Nat} {x : Blk} : (H.set b x).blk (b + 1) = H.blk (b + 1) := Heap.set_other _ _ _ (by omega)
theorem set_next {H : Heap} {b : Nat} {x : Blk} : (H.set b x).next = H.next := rfl
theorem evResult_cell {P : Program} {env : Env} {G : Heap} {a : Tmp} {t : TypeId} : evResult P env G (.cell a t) = (match aggOf P t, szOf P t with
    | some true, some n => (G.load (env.at (.tmp a)) n).map .agg
    | some false, _ => (match G.load (env.at (.tmp a)) 1 with | some [v] => some v | _ => none)
    | _, _ => none) := rfl
theorem own_set {G H : Heap} {ty esz : Nat} {v : AV} {L : List (List AV)} (h : Own G H ty esz v L) {c : Nat} (hc : G.blk c ≠ none) (x : Blk) : Own G (H.set c x) ty esz v L := by
  obtain ⟨h0, h | ⟨b, g, wgen, h1, h2, h3, h4⟩ | ⟨b, g, ty', gen, wgen, h1, h2, h3, h4⟩⟩ := h
  · exact ⟨h0, .inl h⟩
  · exact ⟨h0, .inr (.inl ⟨b, g, wgen, h1, by rw [Heap.set_other _ _ _ (fun e => hc (by rw [← e]; exact h4))]; exact h2, h3, h4⟩)⟩
  · exact ⟨h0, .inr (.inr ⟨b, g, ty', gen, wgen, h1, by rw [Heap.set_other _ _ _ (fun e => hc (by rw [← e]; exact h4))]; exact h2, h3, h4⟩)⟩
theorem index2 {P : Program} {H : Heap} {esz : Nat} {v : AV} {L : List (List AV)} (h : Holds H esz v L) {t e : TypeId} (ht : P.underlying t = some (.slice e)) (hs : szOf P e = some esz) (k : IntKind) {i : Nat} {cs : List AV} (hi : L[i]? = some cs) :
    evIndexAddr P H t v (.int k i) = some (.iptr cs 0) ∨ ∃ b j g ty els gen wgen, evIndexAddr P H t v (.int k i) = some (.ptr b j 0 g) ∧ H.blk b = some (.row ty esz els gen wgen) ∧ wgen ≤ g ∧ els[j]? = some cs := by
  obtain ⟨h0, ⟨rfl, rfl | rfl⟩ | rfl | ⟨b, off, cap, ex, g, ty, els, gen, wgen, rfl, h2, h3, h4, h5, _⟩⟩ := h
  · simp at hi
  · simp at hi
  · left
    simp [evIndexAddr, ht, hs, hi]
  · right
    have hlt := (List.getElem?_eq_some_iff.1 hi).1
    have hg : els[off + i]? = some cs := by
      rw [← h4, List.getElem?_take_of_lt hlt, List.getElem?_drop] at hi; exact hi
    exact ⟨b, off + i, g, ty, els, gen, wgen, by simp [evIndexAddr, ht, hs, Heap.eszOf, h2, h3, hlt], h2, h3, hg⟩
theorem own_eslice {G H : Heap} {ty esz : Nat} : Own G H ty esz .eslice [] := ⟨by simp, .inl ⟨rfl, .inr rfl⟩⟩
theorem lt_int {a b : Nat} (h : a < b) : ((a : Int) < (b : Int)) = True := by simp; exact h
theorem wrap_pred {i : Nat} (h0 : 1 ≤ i) (h : i < 2 ^ 62) : IntKind.i64.wrap ((i : Int) - 1) = ((i - 1 : Nat) : Int) := by
  rw [IntWalk.i64_in _ (by omega)]; omega
theorem icI {k : IntKind} {n : Int} : (AV.int k n).isCell = true := rfl
theorem icS {s : List Nat} : (AV.str s).isCell = true := rfl
theorem icB {b : Bool} : (AV.bool b).isCell = true := rfl
theorem icN : AV.nilslice.isCell = true := rfl
theorem icL {sz : Nat} {es : List (List AV)} : (AV.lst sz es).isCell = true := rfl
theorem holds_cell {H : Heap} {esz : Nat} {v : AV} {L : List (List AV)} (h : Holds H esz v L) : v.isCell = true := by
  obtain ⟨h0, ⟨rfl, rfl | rfl⟩ | rfl | ⟨b, off, cap, ex, g, ty, els, gen, wgen, rfl, _⟩⟩ := h <;> rfl
theorem five {α : Type} {l : List α} (h : l.length = 5) : ∃ a b c d e, l = [a, b, c, d, e] := by
  match l, h with
  | [a, b, c, d, e], _ => exact ⟨a, b, c, d, e, rfl⟩
theorem ten {α : Type} {l : List α} (h : l.length = 10) : ∃ a b c d e f g i j k, l = [a, b, c, d, e, f, g, i, j, k] := by
  match l, h with
  | [a, b, c, d, e, f, g, i, j, k], _ => exact ⟨a, b, c, d, e, f, g, i, j, k, rfl⟩
theorem find_none_snoc {α : Type} {f : α → Bool} {L : List α} {i : Nat} {c : α} (hc : L[i]? = some c) (h : (L.take i).find? f = none) (hf : f c = false) : (L.take (i + 1)).find? f = none := by
  rw [List.take_add_one, hc, List.find?_append, h]; simp [hf]
theorem find_some_at {α : Type} {f : α → Bool} {L : List α} {i : Nat} {c : α} (hc : L[i]? = some c) (h : (L.take i).find? f = none) (hf : f c = true) : L.find? f = some c := by
  have hlt := (List.getElem?_eq_some_iff.1 hc).1
  have e : L = L.take i ++ c :: L.drop (i + 1) := by
    have := List.take_append_drop i L
    rw [List.drop_eq_getElem_cons hlt] at this
    rw [(List.getElem?_eq_some_iff.1 hc).2] at this
    exact this.symm
  rw [e, List.find?_append, h]; simp [hf]
theorem holds_uniq {H G : Heap} {n m : Nat} {v : AV} {L M : List (List AV)} (h : Holds H n v L) (h' : Holds G m v M) : L.length = M.length := by
  have h1 := h.len?
  have h2 := h'.len?
  rw [h1] at h2; exact Option.some.inj h2
theorem set_02 {H : Heap} {b : Nat} {x : Blk} : (H.set b x).blk (b + 2) = H.blk (b + 2) := Heap.set_other _ _ _ (by omega)
theorem two_set {G H H' : Heap} {ty esz : Nat} {out : AV} {L : List (List AV)} (hO : Own G H' ty esz out L) (hU : Up G H') (hG : Up H G) (hF : Free H) (hF' : Free H') {a b : Nat} (ga : G.blk a ≠ none) (gb : G.blk b ≠ none) (na : H.next ≤ a) (nb : H.next ≤ b) (x y : Blk) :
    Up H ((H'.set a x).set b y) ∧ Free ((H'.set a x).set b y) ∧ Holds ((H'.set a x).set b y) esz out L ∧ Own H ((H'.set a x).set b y) ty esz out L := by
  have la : ∀ {c : Nat}, G.blk c ≠ none → M0 ≤ c ∧ c < H'.next := fun {c} h => by
    cases hc : G.blk c with
    | none => exact absurd hc h
    | some z => exact hF'.lt (hU _ _ hc)
  exact ⟨((hG.trans hU).set (hF _ na) _).set (hF _ nb) _, (hF'.set (la ga) _).set (by rw [set_next]; exact la gb) _, (own_set (own_set hO ga x) gb y).holds, (own_set (own_set hO ga x) gb y).base hG⟩
/-- F without what H has above B. -/
def hsub (F H B : Heap) : Heap := ⟨fun c => if (H.blk c).isSome = true ∧ (B.blk c).isNone = true then none else F.blk c, F.next⟩
theorem sub_le {F H B : Heap} : Up (hsub F H B) F := fun b x h => by
  simp only [hsub] at h
  split at h
  · cases h
  · exact h
theorem sub_up {F H B : Heap} (hB : Up B H) (hU : Up H F) : Up B (hsub F H B) := fun b x h => by
  simp only [hsub]; rw [if_neg (by rw [h]; simp)]; exact hU _ _ (hB _ _ h)
theorem sub_own {F H B : Heap} {ty esz : Nat} {v : AV} {L : List (List AV)} (hO : Own H F ty esz v L) : Holds (hsub F H B) esz v L := by
  have e : ∀ b, H.blk b = none → (hsub F H B).blk b = F.blk b := fun b h => by simp only [hsub]; rw [if_neg (by rw [h]; simp)]
  obtain ⟨h0, h | ⟨b, g, wgen, rfl, h2, h3, h4⟩ | ⟨b, g, ty', gen, wgen, rfl, h2, h3, h4⟩⟩ := hO
  · exact Own.holds (G := H) (ty := ty) ⟨h0, .inl h⟩
  · exact Own.holds (G := H) (ty := ty) ⟨h0, .inr (.inl ⟨b, g, wgen, rfl, by rw [e b h4]; exact h2, h3, h4⟩)⟩
  · exact Own.holds (G := H) (ty := ty) ⟨h0, .inr (.inr ⟨b, g, ty', gen, wgen, rfl, by rw [e b h4]; exact h2, h3, h4⟩)⟩
theorem sub_mono {K F H B : Heap} (hU : Up K F) : Up (hsub K H B) (hsub F H B) := fun b x h => by
  simp only [hsub] at h ⊢
  split at h
  · cases h
  · rename_i hn; rw [if_neg hn]; exact hU _ _ h
theorem sub_set {K H H1 B : Heap} {b : Nat} (hU : Up H H1) (h1 : H1.blk b ≠ none) (h2 : B.blk b = none) (y : Blk) : Up (hsub K H1 B) (hsub (K.set b y) H B) := fun c x h => by
  simp only [hsub] at h ⊢
  split at h
  · cases h
  · rename_i hn
    have hcb : c ≠ b := fun e => hn ⟨by rw [e]; exact Option.isSome_iff_ne_none.2 h1, by rw [e, h2]; rfl⟩
    rw [if_neg (fun hc => hn ⟨?_, hc.2⟩), Heap.set_other _ _ _ hcb]
    · exact h
    · obtain ⟨z, hz⟩ := Option.isSome_iff_exists.1 hc.1
      rw [hU _ _ hz]; rfl
theorem own_shape {G H : Heap} {ty esz : Nat} {out : AV} {L : List (List AV)} (hO : Own G H ty esz out L) : out = .nilslice ∨ out = .eslice ∨ ∃ b o l c ex g, out = .slice b o l c ex g := by
  obtain ⟨_, ⟨_, h | h⟩ | ⟨_, _, _, h, _⟩ | ⟨_, _, _, _, _, h, _⟩⟩ := hO
  · exact .inl h
  · exact .inr (.inl h)
  · exact .inr (.inr ⟨_, _, _, _, _, _, h⟩)
  · exact .inr (.inr ⟨_, _, _, _, _, _, h⟩)
theorem own_at {P : Program} {G H : Heap} {ty esz : Nat} {v : AV} {L : List (List AV)} (hO : Own G H ty esz v L) {t e : TypeId} (ht : P.underlying t = some (.slice e)) (hs : szOf P e = some esz) {i : Nat} (hi : i < L.length) :
    ∃ b ex g ty' wgen, v = .slice b 0 L.length L.length ex g ∧ H.blk b = some (.row ty' esz L g wgen) ∧ wgen ≤ g ∧ G.blk b = none ∧ evIndexAddr P H t v (.int .i64 i) = some (.ptr b i 0 g) ∧
      ∀ cs : List AV, cs.length = esz → cs.all AV.isCell = true → Own G (H.set b (.row ty' esz (L.set i cs) g g)) ty esz v (L.set i cs) := by
  obtain ⟨h0, ⟨rfl, _⟩ | ⟨b, g, wgen, rfl, h2, h3, h4⟩ | ⟨b, g, ty', gen, wgen, rfl, h2, ⟨h3, rfl⟩, h4⟩⟩ := hO
  · simp at hi
  · refine ⟨b, false, g, ty, wgen, rfl, h2, h3, h4, by simp [evIndexAddr, ht, hs, Heap.eszOf, h2, h3, hi], fun cs h5 h6 => ⟨fun c hc => ?_, .inr (.inl ⟨b, g, g, by simp, set_same, Nat.le_refl _, h4⟩)⟩⟩
    rcases List.mem_or_eq_of_mem_set hc with hc | rfl
    · exact h0 c hc
    · exact ⟨h5, h6⟩
  · refine ⟨b, true, gen, ty', wgen, rfl, h2, h3, h4, by simp [evIndexAddr, ht, hs, Heap.eszOf, h2, h3, hi], fun cs h5 h6 => ⟨fun c hc => ?_, .inr (.inr ⟨b, gen, ty', gen, gen, by simp, set_same, ⟨Nat.le_refl _, rfl⟩, h4⟩)⟩⟩
    rcases List.mem_or_eq_of_mem_set hc with hc | rfl
    · exact h0 c hc
    · exact ⟨h5, h6⟩
theorem iuI {k : IntKind} {n : Int} : (.int k n : AV).isUndef = false := rfl
theorem clI {k : IntKind} {n : Int} : (.int k n : AV).cells = [(.int k n : AV)] := rfl
theorem iuS {s : List Nat} : (.str s : AV).isUndef = false := rfl
theorem clS {s : List Nat} : (.str s : AV).cells = [(.str s : AV)] := rfl
theorem iuB {b : Bool} : (.bool b : AV).isUndef = false := rfl
theorem clB {b : Bool} : (.bool b : AV).cells = [(.bool b : AV)] := rfl
theorem iuN  : (.nilslice : AV).isUndef = false := rfl
theorem clN  : (.nilslice : AV).cells = [(.nilslice : AV)] := rfl
theorem iuL {b o l c : Nat} {x : Bool} {g : Nat} : (.slice b o l c x g : AV).isUndef = false := rfl
theorem clL {b o l c : Nat} {x : Bool} {g : Nat} : (.slice b o l c x g : AV).cells = [(.slice b o l c x g : AV)] := rfl
theorem iuP {b i o g : Nat} : (.ptr b i o g : AV).isUndef = false := rfl
theorem clP {b i o g : Nat} : (.ptr b i o g : AV).cells = [(.ptr b i o g : AV)] := rfl
theorem iuQ {cs : List AV} {o : Nat} : (.iptr cs o : AV).isUndef = false := rfl
theorem clQ {cs : List AV} {o : Nat} : (.iptr cs o : AV).cells = [(.iptr cs o : AV)] := rfl
theorem iuR {f : Fn} {a c : List AV} : (.func f a c : AV).isUndef = false := rfl
theorem clR {f : Fn} {a c : List AV} : (.func f a c : AV).cells = [(.func f a c : AV)] := rfl
theorem iuA {cs : List AV} : (.agg cs : AV).isUndef = false := rfl
theorem clA {cs : List AV} : (.agg cs : AV).cells = cs := rfl
theorem ceI {k : IntKind} {n : Int} : (.int k n : AV).isCell = true := rfl
theorem ceS {s : List Nat} : (.str s : AV).isCell = true := rfl
theorem ceB {b : Bool} : (.bool b : AV).isCell = true := rfl
theorem ceN  : (.nilslice : AV).isCell = true := rfl
theorem ceL {b o l c : Nat} {x : Bool} {g : Nat} : (.slice b o l c x g : AV).isCell = true := rfl
theorem own_plain {G H : Heap} {ty esz : Nat} {v : AV} {L : List (List AV)} (hO : Own G H ty esz v L) : v.isUndef = false ∧ v.cells = [v] ∧ v.isCell = true := by
  rcases own_shape hO with rfl | rfl | ⟨b, o, l, c, x, g, rfl⟩ <;> exact ⟨rfl, rfl, rfl⟩
def rowOf : AV → Option Nat
  | .slice b _ _ _ _ _ => some b
  | _ => none
def hbut (H : Heap) (o : Option Nat) : Heap := ⟨fun c => if o = some c then none else H.blk c, H.next⟩
theorem but_up {H : Heap} {o : Option Nat} : Up (hbut H o) H := fun b x h => by
  simp only [hbut] at h
  split at h
  · cases h
  · exact h
theorem but_blk {H : Heap} {o : Option Nat} {b : Nat} (h : o ≠ some b) : (hbut H o).blk b = H.blk b := by simp only [hbut]; rw [if_neg h]
theorem own_but {G H : Heap} {ty esz : Nat} {v : AV} {L : List (List AV)} (hO : Own G H ty esz v L) : Own (hbut H (rowOf v)) H ty esz v L := by
  obtain ⟨h0, h | ⟨b, g, wgen, rfl, h2, h3, h4⟩ | ⟨b, g, ty', gen, wgen, rfl, h2, h3, h4⟩⟩ := hO
  · exact ⟨h0, .inl h⟩
  · exact ⟨h0, .inr (.inl ⟨b, g, wgen, rfl, h2, h3, by simp [hbut, rowOf]⟩)⟩
  · exact ⟨h0, .inr (.inr ⟨b, g, ty', gen, wgen, rfl, h2, h3, by simp [hbut, rowOf]⟩)⟩
theorem own_row {G H : Heap} {ty esz : Nat} {v : AV} {L : List (List AV)} (hO : Own G H ty esz v L) {b : Nat} (hb : rowOf v = some b) : G.blk b = none ∧ H.blk b ≠ none := by
  obtain ⟨h0, ⟨_, rfl | rfl⟩ | ⟨b', g, wgen, rfl, h2, h3, h4⟩ | ⟨b', g, ty', gen, wgen, rfl, h2, h3, h4⟩⟩ := hO
  · cases hb
  · cases hb
  · cases hb; exact ⟨h4, by rw [h2]; simp⟩
  · cases hb; exact ⟨h4, by rw [h2]; simp⟩
theorem own_keep {G H K : Heap} {ty esz : Nat} {v : AV} {L : List (List AV)} (hO : Own G H ty esz v L) (hk : ∀ b x, rowOf v = some b → H.blk b = some x → K.blk b = some x) : Own G K ty esz v L := by
  obtain ⟨h0, h | ⟨b, g, wgen, rfl, h2, h3, h4⟩ | ⟨b, g, ty', gen, wgen, rfl, h2, h3, h4⟩⟩ := hO
  · exact ⟨h0, .inl h⟩
  · exact ⟨h0, .inr (.inl ⟨b, g, wgen, rfl, hk _ _ rfl h2, h3, h4⟩)⟩
  · exact ⟨h0, .inr (.inr ⟨b, g, ty', gen, wgen, rfl, hk _ _ rfl h2, h3, h4⟩)⟩
theorem own_dom {G G' H : Heap} {ty esz : Nat} {v : AV} {L : List (List AV)} (hO : Own G H ty esz v L) (hk : ∀ b, G.blk b = none → G'.blk b = none) : Own G' H ty esz v L := by
  obtain ⟨h0, h | ⟨b, g, wgen, rfl, h2, h3, h4⟩ | ⟨b, g, ty', gen, wgen, rfl, h2, h3, h4⟩⟩ := hO
  · exact ⟨h0, .inl h⟩
  · exact ⟨h0, .inr (.inl ⟨b, g, wgen, rfl, h2, h3, hk _ h4⟩)⟩
  · exact ⟨h0, .inr (.inr ⟨b, g, ty', gen, wgen, rfl, h2, h3, hk _ h4⟩)⟩
/-- The heap H with k more names taken. -/
def DOM (H : Heap) (k : Nat) : Heap := ⟨fun b => if H.next ≤ b ∧ b < H.next + k then some (.map [] 0) else H.blk b, 0⟩
theorem dom_up (H : Heap) (hF : Free H) (k : Nat) : Up H (DOM H k) := fun b x h => by
  have := hF.lt h
  simp only [DOM]; rw [if_neg (by omega)]; exact h
theorem dom_none {H : Heap} {k b : Nat} (h : (DOM H k).blk b = none) : ¬ (H.next ≤ b ∧ b < H.next + k) ∧ H.blk b = none := by
  simp only [DOM] at h
  split at h
  · cases h
  · rename_i hn; exact ⟨hn, h⟩
theorem dom_some {H : Heap} {k j : Nat} (h : j < k) : (DOM H k).blk (H.next + j) ≠ none := by
  simp only [DOM]; rw [if_pos ⟨by omega, by omega⟩]; simp
/-- One of two slices grows. -/
theorem step2 {H H' K : Heap} (hF : Free H) {k : Nat} (hD : ∀ j, j < k → H'.blk (H.next + j) ≠ none) (hU : Up H H') {tyA szA tyB szB : Nat} {A B u : AV} {LA LB LA' : List (List AV)} (oA : Own (DOM H k) H' tyA szA A LA) (oB : Own (DOM H k) H' tyB szB B LB)
    (dis : ∀ b, rowOf B = some b → rowOf A ≠ some b) (hO4 : Own (hbut H' (rowOf A)) K tyA szA u LA') (hU4 : Up (hbut H' (rowOf A)) K) :
    Up H K ∧ (∀ j x, j < k → H'.blk (H.next + j) = some x → K.blk (H.next + j) = some x) ∧ Own (DOM H k) K tyA szA u LA' ∧ Own (DOM H k) K tyB szB B LB ∧ (∀ b, rowOf B = some b → rowOf u ≠ some b) := by
  have hA : ∀ b, (DOM H k).blk b ≠ none → rowOf A ≠ some b := fun b hb h => hb (own_row oA h).1
  have hAH : ∀ b x, H.blk b = some x → rowOf A ≠ some b := fun b x hb => hA b (by rw [dom_up H hF k _ _ hb]; simp)
  refine ⟨fun b x hb => hU4 _ _ (by rw [but_blk (hAH b x hb)]; exact hU _ _ hb), fun j x hj hb => hU4 _ _ (by rw [but_blk (hA _ (dom_some hj))]; exact hb), own_dom hO4 fun b hb => ?_, own_keep oB fun b x hb hx => hU4 _ _ (by rw [but_blk (dis b hb)]; exact hx), fun b hb hu => ?_⟩
  · by_cases hc : H.next ≤ b ∧ b < H.next + k
    · exfalso
      obtain ⟨j, rfl⟩ : ∃ j, b = H.next + j := ⟨b - H.next, by omega⟩
      have := but_blk (H := H') (hA _ (dom_some (show j < k by omega)))
      rw [this] at hb
      exact hD j (by omega) hb
    · simp only [DOM]; rw [if_neg hc]
      cases hx : H.blk b with
      | none => rfl
      | some x =>
        have := but_blk (H := H') (hAH b x hx)
        rw [this, hU _ _ hx] at hb; cases hb
  · have h1 := (own_row hO4 hu).1
    rw [but_blk (dis b hb)] at h1
    exact (own_row oB hb).2 h1
/-- H' without the k names from H's next on. -/
def hmin (H' H : Heap) (k : Nat) : Heap := ⟨fun c => if H.next ≤ c ∧ c < H.next + k then none else H'.blk c, H'.next⟩
theorem hmin_up {H' H : Heap} {k : Nat} : Up (hmin H' H k) H' := fun b x h => by
  simp only [hmin] at h
  split at h
  · cases h
  · exact h
theorem hmin_blk {H' H : Heap} {k b : Nat} (h : ¬ (H.next ≤ b ∧ b < H.next + k)) : (hmin H' H k).blk b = H'.blk b := by simp only [hmin]; rw [if_neg h]
theorem up_hmin {H' H : Heap} {k : Nat} (hF : Free H) (hU : Up H H') : Up H (hmin H' H k) := fun b x h => by
  have := hF.lt h
  rw [hmin_blk (by omega)]; exact hU _ _ h
theorem own_hmin {G K H : Heap} {k ty esz : Nat} {v : AV} {L : List (List AV)} (hO : Own G K ty esz v L) (hG : ∀ j, j < k → G.blk (H.next + j) ≠ none) : Holds (hmin K H k) esz v L :=
  (own_keep hO (K := hmin K H k) fun b x hb hx => by
    rw [hmin_blk (fun hc => ?_)]
    · exact hx
    · obtain ⟨j, rfl⟩ : ∃ j, b = H.next + j := ⟨b - H.next, by omega⟩
      exact hG j (by omega) (own_row hO hb).1).holds
theorem hmin_set {K H : Heap} {k j : Nat} (hj : j < k) (y : Blk) : Up (hmin K H k) (K.set (H.next + j) y) := fun b x h => by
  by_cases hc : H.next ≤ b ∧ b < H.next + k
  · simp only [hmin] at h; rw [if_pos hc] at h; cases h
  · rw [hmin_blk hc] at h; rw [Heap.set_other _ _ _ (by omega)]; exact h
theorem hmin_set' {K H : Heap} {k j : Nat} (hj : j < k) (y : Blk) : hmin (K.set (H.next + j) y) H k = hmin K H k := by
  refine Heap.ext' (fun b => ?_) rfl
  simp only [hmin]
  split
  · rfl
  · rename_i hc; exact Heap.set_other _ _ _ (by omega)
theorem none_of {H B : Heap} (hF : Free H) (hB : Up B H) {j : Nat} : B.blk (H.next + j) = none := by
  cases hx : B.blk (H.next + j) with
  | none => rfl
  | some z => have := hF.lt (hB _ _ hx); omega
theorem hsub_eq {F H B : Heap} {c : Nat} (h : ¬ ((H.blk c).isSome = true ∧ (B.blk c).isNone = true)) : (hsub F H B).blk c = F.blk c := by simp only [hsub]; rw [if_neg h]
theorem hsub_cut {F H B : Heap} {c : Nat} (h : (H.blk c).isSome = true ∧ (B.blk c).isNone = true) : (hsub F H B).blk c = none := by simp only [hsub]; rw [if_pos h]
theorem sub_up2 {F H B : Heap} (hU : Up B F) : Up B (hsub F H B) := fun b x h => by
  rw [hsub_eq (fun hc => by rw [h] at hc; cases hc.2)]; exact hU _ _ h
theorem sub_sub {K G H' B : Heap} (hdom : ∀ c, G.blk c ≠ none → H'.blk c ≠ none) : Up (hsub K H' (hsub H' G B)) (hsub K G B) := fun c x h => by
  by_cases hc : (G.blk c).isSome = true ∧ (B.blk c).isNone = true
  · exfalso
    rw [hsub_cut ⟨Option.isSome_iff_ne_none.2 (hdom c (Option.isSome_iff_ne_none.1 hc.1)), by rw [hsub_cut hc]; rfl⟩] at h
    cases h
  · rw [hsub_eq hc]; exact sub_le _ _ h
theorem sub_base {F G H B : Heap} (hU : Up H G) : Up (hsub F G B) (hsub F H B) := fun c x h => by
  simp only [hsub] at h ⊢
  split at h
  · cases h
  · rename_i hn
    rw [if_neg (fun hc => hn ⟨?_, hc.2⟩)]
    · exact h
    · obtain ⟨z, hz⟩ := Option.isSome_iff_exists.1 hc.1
      rw [hU _ _ hz]; rfl
theorem take_split {α : Type} (l : List α) (i j : Nat) : l.drop i = (l.drop i).take j ++ l.drop (i + j) := by rw [← List.drop_drop]; exact (List.take_append_drop _ _).symm
/-- Shapes, together. -/
theorem ux : (type_of% @icI) ∧ (type_of% @icS) ∧ (type_of% @icB) ∧ (type_of% @icN) ∧ (type_of% @icL) ∧ (type_of% @iuI) ∧ (type_of% @iuS) ∧ (type_of% @iuB) ∧ (type_of% @iuN) ∧ (type_of% @iuL) ∧ (type_of% @iuA) ∧ (type_of% @iuP) ∧ (type_of% @iuQ) ∧ (type_of% @iuR) ∧ (type_of% @clI) ∧ (type_of% @clS) ∧ (type_of% @clB) ∧ (type_of% @clN) ∧ (type_of% @clL) ∧ (type_of% @clA) ∧ (type_of% @clP) ∧ (type_of% @clQ) ∧ (type_of% @clR) ∧ (type_of% @ceI) ∧ (type_of% @ceS) ∧ (type_of% @ceB) ∧ (type_of% @ceN) ∧ (type_of% @ceL) :=
  ⟨@icI, @icS, @icB, @icN, @icL, @iuI, @iuS, @iuB, @iuN, @iuL, @iuA, @iuP, @iuQ, @iuR, @clI, @clS, @clB, @clN, @clL, @clA, @clP, @clQ, @clR, @ceI, @ceS, @ceB, @ceN, @ceL⟩
/-- The rules of stepping, together. -/
theorem sx : (((((((type_of% @false_implies) ∧ ((type_of% @imp_false) ∧ (type_of% @not_false_eq_true))) ∧ (((type_of% @List.getElem?_cons_zero.{0}) ∧ (type_of% @List.getElem?_cons_succ.{0})) ∧ ((type_of% @List.take_succ_cons.{0}) ∧ (type_of% @List.take_zero.{0})))) ∧ ((((type_of% @List.drop_succ_cons.{0}) ∧ (type_of% @List.drop_zero.{0})) ∧ ((type_of% @List.set_cons_zero.{0}) ∧ (type_of% @List.set_cons_succ.{0}))) ∧ (((type_of% @List.replicate_succ.{0}) ∧ (type_of% @List.replicate_zero.{0})) ∧ ((type_of% @List.all_cons.{0}) ∧ (type_of% @List.all_nil.{0}))))) ∧ (((((type_of% @Bool.and_true) ∧ (type_of% @Bool.and_self)) ∧ ((type_of% @Nat.le_refl) ∧ (type_of% @after_seq))) ∧ (((type_of% @after_skip) ∧ (type_of% @after_label)) ∧ ((type_of% @after_exit) ∧ (type_of% @after_ret)))) ∧ ((((type_of% @after_code_exit) ∧ (type_of% @after_code_ret)) ∧ ((type_of% @after_blk) ∧ (type_of% @after_blk_ret))) ∧ (((type_of% @after_blk_exit) ∧ (type_of% @after_nil)) ∧ ((type_of% @after_block) ∧ (type_of% @after_cond)))))) ∧ (((((type_of% @condStep_true) ∧ ((type_of% @condStep_false) ∧ (type_of% @after_region))) ∧ (((type_of% @after_draw) ∧ (type_of% @after_loop)) ∧ ((type_of% @afterOps_nil) ∧ (type_of% @opStep_some)))) ∧ ((((type_of% @opStep_flag) ∧ (type_of% @afterOps_op)) ∧ ((type_of% @hereStep_true) ∧ (type_of% @hereStep_false))) ∧ (((type_of% @afterOps_guard) ∧ (type_of% @guardStep_true)) ∧ ((type_of% @guardStep_false) ∧ (type_of% @roundEnd_normal))))) ∧ (((((type_of% @roundEnd_exit) ∧ (type_of% @roundEnd_ret)) ∧ ((type_of% @roundR_normal) ∧ (type_of% @roundR_exit))) ∧ (((type_of% @roundR_ret) ∧ (type_of% @fin_normal)) ∧ ((type_of% @fin_ret) ∧ (type_of% @finR_some)))) ∧ ((((type_of% @put_at) ∧ (type_of% @put_none)) ∧ ((type_of% @at_const) ∧ (type_of% @at_func))) ∧ (((type_of% @args_at) ∧ (type_of% @evResult_tmp)) ∧ ((type_of% @List.filterMap_cons.{0,0}) ∧ (type_of% @List.filterMap_nil.{0,0}))))))) ∧ ((((((type_of% @List.contains_nil.{0}) ∧ ((type_of% @List.contains_cons.{0}) ∧ (type_of% @Bool.or_false))) ∧ (((type_of% @Bool.or_true) ∧ (type_of% @List.map_cons.{0,0})) ∧ ((type_of% @List.map_nil.{0,0}) ∧ (type_of% @wantedA_guard)))) ∧ ((((type_of% @wstep_some) ∧ (type_of% @wbool_true)) ∧ ((type_of% @wbool_false) ∧ (type_of% @List.getElem?_toArray.{0}))) ∧ (((type_of% @Option.bind_none.{0,0}) ∧ (type_of% @dstOk_none)) ∧ ((type_of% @dstOk_some) ∧ (type_of% @List.toList_toArray.{0}))))) ∧ (((((type_of% @if_true.{1}) ∧ (type_of% @if_false.{1})) ∧ ((type_of% @List.getD_cons_zero.{0}) ∧ (type_of% @List.getD_cons_succ.{0}))) ∧ (((type_of% @Option.map_some.{0,0}) ∧ (type_of% @decide_true)) ∧ ((type_of% @ite_self.{1}) ∧ (type_of% @true_or)))) ∧ ((((type_of% @true_and) ∧ (type_of% @and_true)) ∧ ((type_of% @or_true) ∧ (type_of% @Bool.false_eq_true))) ∧ (((type_of% @List.nil_append.{0}) ∧ (type_of% @List.append_nil.{0})) ∧ ((type_of% @List.cons_append.{0}) ∧ (type_of% @List.length_cons.{0})))))) ∧ (((((type_of% @List.length_nil.{0}) ∧ ((type_of% @load_ptr) ∧ (type_of% @load_iptr))) ∧ (((type_of% @hp_push) ∧ (type_of% @hp_next)) ∧ ((type_of% @hp_blk0) ∧ (type_of% @hp_blk)))) ∧ ((((type_of% @hp_set0) ∧ (type_of% @hp_set)) ∧ ((type_of% @List.getElem?_nil.{0}) ∧ (type_of% @Nat.lt_add_one))) ∧ (((type_of% @Nat.zero_lt_succ) ∧ (type_of% @List.isEmpty_cons.{0})) ∧ ((type_of% @Nat.zero_lt_one) ∧ (type_of% @Option.bind_some.{0,0}))))) ∧ (((((type_of% @Nat.add_zero) ∧ (type_of% @Nat.zero_add)) ∧ ((type_of% @decide_eq_true_eq) ∧ (type_of% @decide_false))) ∧ (((type_of% @Bool.not_true) ∧ (type_of% @Bool.not_false)) ∧ ((type_of% @set_same) ∧ (type_of% @set_next)))) ∧ ((((type_of% @set_set_same) ∧ (type_of% @evResult_cell)) ∧ ((type_of% @splice_one) ∧ (type_of% @splice_whole))) ∧ (((type_of% @wbool_off) ∧ (type_of% @after_scope)) ∧ ((type_of% @hereStep_flag) ∧ (type_of% @List.length_set.{0})))))))) :=
  And.intro (And.intro (And.intro (And.intro (And.intro (And.intro (@false_implies) (And.intro (@imp_false) (@not_false_eq_true))) (And.intro (And.intro (@List.getElem?_cons_zero.{0}) (@List.getElem?_cons_succ.{0})) (And.intro (@List.take_succ_cons.{0}) (@List.take_zero.{0})))) (And.intro (And.intro (And.intro (@List.drop_succ_cons.{0}) (@List.drop_zero.{0})) (And.intro (@List.set_cons_zero.{0}) (@List.set_cons_succ.{0}))) (And.intro (And.intro (@List.replicate_succ.{0}) (@List.replicate_zero.{0})) (And.intro (@List.all_cons.{0}) (@List.all_nil.{0}))))) (And.intro (And.intro (And.intro (And.intro (@Bool.and_true) (@Bool.and_self)) (And.intro (@Nat.le_refl) (@after_seq))) (And.intro (And.intro (@after_skip) (@after_label)) (And.intro (@after_exit) (@after_ret)))) (And.intro (And.intro (And.intro (@after_code_exit) (@after_code_ret)) (And.intro (@after_blk) (@after_blk_ret))) (And.intro (And.intro (@after_blk_exit) (@after_nil)) (And.intro (@after_block) (@after_cond)))))) (And.intro (And.intro (And.intro (And.intro (@condStep_true) (And.intro (@condStep_false) (@after_region))) (And.intro (And.intro (@after_draw) (@after_loop)) (And.intro (@afterOps_nil) (@opStep_some)))) (And.intro (And.intro (And.intro (@opStep_flag) (@afterOps_op)) (And.intro (@hereStep_true) (@hereStep_false))) (And.intro (And.intro (@afterOps_guard) (@guardStep_true)) (And.intro (@guardStep_false) (@roundEnd_normal))))) (And.intro (And.intro (And.intro (And.intro (@roundEnd_exit) (@roundEnd_ret)) (And.intro (@roundR_normal) (@roundR_exit))) (And.intro (And.intro (@roundR_ret) (@fin_normal)) (And.intro (@fin_ret) (@finR_some)))) (And.intro (And.intro (And.intro (@put_at) (@put_none)) (And.intro (@at_const) (@at_func))) (And.intro (And.intro (@args_at) (@evResult_tmp)) (And.intro (@List.filterMap_cons.{0,0}) (@List.filterMap_nil.{0,0}))))))) (And.intro (And.intro (And.intro (And.intro (And.intro (@List.contains_nil.{0}) (And.intro (@List.contains_cons.{0}) (@Bool.or_false))) (And.intro (And.intro (@Bool.or_true) (@List.map_cons.{0,0})) (And.intro (@List.map_nil.{0,0}) (@wantedA_guard)))) (And.intro (And.intro (And.intro (@wstep_some) (@wbool_true)) (And.intro (@wbool_false) (@List.getElem?_toArray.{0}))) (And.intro (And.intro (@Option.bind_none.{0,0}) (@dstOk_none)) (And.intro (@dstOk_some) (@List.toList_toArray.{0}))))) (And.intro (And.intro (And.intro (And.intro (@if_true.{1}) (@if_false.{1})) (And.intro (@List.getD_cons_zero.{0}) (@List.getD_cons_succ.{0}))) (And.intro (And.intro (@Option.map_some.{0,0}) (@decide_true)) (And.intro (@ite_self.{1}) (@true_or)))) (And.intro (And.intro (And.intro (@true_and) (@and_true)) (And.intro (@or_true) (@Bool.false_eq_true))) (And.intro (And.intro (@List.nil_append.{0}) (@List.append_nil.{0})) (And.intro (@List.cons_append.{0}) (@List.length_cons.{0})))))) (And.intro (And.intro (And.intro (And.intro (@List.length_nil.{0}) (And.intro (@load_ptr) (@load_iptr))) (And.intro (And.intro (@hp_push) (@hp_next)) (And.intro (@hp_blk0) (@hp_blk)))) (And.intro (And.intro (And.intro (@hp_set0) (@hp_set)) (And.intro (@List.getElem?_nil.{0}) (@Nat.lt_add_one))) (And.intro (And.intro (@Nat.zero_lt_succ) (@List.isEmpty_cons.{0})) (And.intro (@Nat.zero_lt_one) (@Option.bind_some.{0,0}))))) (And.intro (And.intro (And.intro (And.intro (@Nat.add_zero) (@Nat.zero_add)) (And.intro (@decide_eq_true_eq) (@decide_false))) (And.intro (And.intro (@Bool.not_true) (@Bool.not_false)) (And.intro (@set_same) (@set_next)))) (And.intro (And.intro (And.intro (@set_set_same) (@evResult_cell)) (And.intro (@splice_one) (@splice_whole))) (And.intro (And.intro (@wbool_off) (@after_scope)) (And.intro (@hereStep_flag) (@List.length_set.{0})))))))
end Go.Ev
