import Derived.Test.YtjjmdbhgmecpjaaGreatDoorEvA
import Derived.Laws.IdiomCopy
set_option linter.unusedSimpArgs false
set_option linter.unusedVariables false
namespace Go.Ev
open Go.RowKit

/-- What an operation does to the world: only the cells in S may turn; new blocks may come. -/
structure Chg (w w' : World) (S : Nat → Nat → Prop) : Prop where
  os : w'.os = w.os
  tape : w'.tape = w.tape
  output : w'.output = w.output
  size : w.heap.size ≤ w'.heap.size
  cell : ∀ b o, b < w.heap.size → ¬ S b o → w'.cell? ⟨b, o, none⟩ = w.cell? ⟨b, o, none⟩
  some : ∀ b o, b < w.heap.size → (w.cell? ⟨b, o, none⟩).isSome = true → (w'.cell? ⟨b, o, none⟩).isSome = true
  frozen : ∀ b o, b < w.heap.size → w'.frozen? ⟨b, o, none⟩ = w.frozen? ⟨b, o, none⟩
  block : ∀ k, k < w.heap.size → (∀ o, ¬ S k o) → w'.heap[k]? = w.heap[k]?

theorem Chg.refl (w : World) (S : Nat → Nat → Prop) : Chg w w S :=
  ⟨rfl, rfl, rfl, Nat.le_refl _, fun _ _ _ _ => rfl, fun _ _ _ h => h, fun _ _ _ => rfl, fun _ _ _ => rfl⟩

theorem Chg.drew (w : World) (S : Nat → Nat → Prop) : Chg w w.drew S :=
  ⟨rfl, rfl, rfl, Nat.le_refl _, fun _ _ _ _ => rfl, fun _ _ _ h => h, fun _ _ _ => rfl, fun _ _ _ => rfl⟩

theorem Chg.alloc (w : World) (o : Obj) (S : Nat → Nat → Prop) : Chg w (w.alloc o) S where
  os := rfl
  tape := rfl
  output := rfl
  size := by simp
  cell := fun b o' hb _ => World.cell?_alloc_lt w o ⟨b, o', none⟩ hb
  some := fun b o' hb h => by rw [World.cell?_alloc_lt w o ⟨b, o', none⟩ hb]; exact h
  frozen := fun b o' hb => World.frozen?_alloc_old w o ⟨b, o', none⟩ (Nat.ne_of_lt hb)
  block := fun k hk _ => Below.heap_alloc w o k hk

theorem heap_setCells (b : Nat) : ∀ (vs : List Value) (o : Nat) (w : World) (k : Nat), k ≠ b → (w.setCells b o vs).heap[k]? = w.heap[k]?
  | [], _, _, _, _ => rfl
  | v :: r, o, w, k, h => by rw [World.setCells, heap_setCells b r (o + 1) _ k h]; exact Below.heap_setCell _ _ _ _ h

theorem size_setCells (b : Nat) : ∀ (vs : List Value) (o : Nat) (w : World), (w.setCells b o vs).heap.size = w.heap.size
  | [], _, _ => rfl
  | v :: r, o, w => by rw [World.setCells, size_setCells b r]; simp

theorem rest_setCells (b : Nat) : ∀ (vs : List Value) (o : Nat) (w : World), (w.setCells b o vs).os = w.os ∧ (w.setCells b o vs).tape = w.tape ∧ (w.setCells b o vs).output = w.output
  | [], _, _ => ⟨rfl, rfl, rfl⟩
  | v :: r, o, w => by
    obtain ⟨h1, h2, h3⟩ := rest_setCells b r (o + 1) (w.setCell ⟨b, o, none⟩ v)
    exact ⟨h1, h2, h3⟩

theorem some_setCells (b : Nat) (vs : List Value) (o : Nat) (w : World) (hc : ∀ j, j < vs.length → (w.cell? ⟨b, o + j, none⟩).isSome = true) (x y : Nat) (h : (w.cell? ⟨x, y, none⟩).isSome = true) :
    ((w.setCells b o vs).cell? ⟨x, y, none⟩).isSome = true := by
  by_cases hx : x = b ∧ o ≤ y ∧ y < o + vs.length
  · obtain ⟨rfl, h1, h2⟩ := hx
    have := World.cell?_setCells_in x vs o w hc (y - o) (by omega)
    rw [show o + (y - o) = y by omega] at this
    rw [this]; rfl
  · rw [World.cell?_setCells_out b vs o w ⟨x, y, none⟩ (fun h1 _ => by simp only at h1 ⊢; omega)]
    exact h

theorem Chg.setCells (w : World) (b o : Nat) (vs : List Value) (hc : ∀ j, j < vs.length → (w.cell? ⟨b, o + j, none⟩).isSome = true) :
    Chg w (w.setCells b o vs) (fun x y => x = b ∧ o ≤ y ∧ y < o + vs.length) where
  os := (rest_setCells b vs o w).1
  tape := (rest_setCells b vs o w).2.1
  output := (rest_setCells b vs o w).2.2
  size := by rw [size_setCells]; exact Nat.le_refl _
  cell := fun x y _ h => World.cell?_setCells_out b vs o w ⟨x, y, none⟩ (fun h1 _ => by simp only at h1 ⊢; omega)
  some := fun x y _ h => some_setCells b vs o w hc x y h
  frozen := fun x y _ => World.frozen?_setCells b vs o w _
  block := fun k _ h => by
    by_cases hk : k = b
    · subst hk
      cases vs with
      | nil => rfl
      | cons v r => exact absurd ⟨rfl, Nat.le_refl _, by simp⟩ (h o)
    · exact heap_setCells b vs o w k hk

theorem Chg.mono {w w' : World} {S S' : Nat → Nat → Prop} (h : Chg w w' S) (hS : ∀ b o, S b o → S' b o) : Chg w w' S' :=
  ⟨h.os, h.tape, h.output, h.size, fun b o hb hn => h.cell b o hb (fun hs => hn (hS _ _ hs)), h.some, h.frozen, fun k hk hn => h.block k hk (fun o hs => hn o (hS _ _ hs))⟩

theorem Chg.trans {w w' w'' : World} {S : Nat → Nat → Prop} (h : Chg w w' S) (h' : Chg w' w'' S) : Chg w w'' S where
  os := h'.os.trans h.os
  tape := h'.tape.trans h.tape
  output := h'.output.trans h.output
  size := Nat.le_trans h.size h'.size
  cell := fun b o hb hn => (h'.cell b o (Nat.lt_of_lt_of_le hb h.size) hn).trans (h.cell b o hb hn)
  some := fun b o hb hs => h'.some b o (Nat.lt_of_lt_of_le hb h.size) (h.some b o hb hs)
  frozen := fun b o hb => (h'.frozen b o (Nat.lt_of_lt_of_le hb h.size)).trans (h.frozen b o hb)
  block := fun k hk hn => (h'.block k (Nat.lt_of_lt_of_le hk h.size) hn).trans (h.block k hk hn)

/-- A row's elements lie where L says. -/
structure LocOk (C : Mem) (E : Emb) (w : World) (base : Nat) (L : Loc) (esz : Nat) (els : List (List AV)) : Prop where
  sz : L.esz = esz
  lo : L.lo ≤ L.ext
  ext : L.ext ≤ els.length
  base : base ≤ L.blk
  lt : L.blk < w.heap.size
  room : L.co + (L.ext - L.lo) * esz ≤ L.size
  shape : ∀ o, o < L.size → (w.cell? ⟨L.blk, o, none⟩).isSome = true ∧ w.frozen? ⟨L.blk, o, none⟩ = false
  cell : ∀ i j cs c, L.lo ≤ i → i < L.ext → els[i]? = some cs → cs[j]? = some c → ∃ v, w.cell? ⟨L.blk, L.co + (i - L.lo) * esz + j, none⟩ = some v ∧ Rep C E c v

structure RowOk (C : Mem) (E : Emb) (w : World) (base b esz : Nat) (els : List (List AV)) (gen wgen : Nat) : Prop where
  len : ∀ cs ∈ els, cs.length = esz
  le : wgen ≤ gen
  loc : ∀ g, wgen ≤ g → g ≤ gen → ∃ L, E.loc b g = some L ∧ LocOk C E w base L esz els
  last : ∀ L, E.loc b gen = some L → L.ext = els.length
  ends : ∀ g L G, wgen ≤ g → g ≤ gen → E.loc b g = some L → E.loc b gen = some G → L.blk = G.blk → L.co + (L.ext - L.lo) * esz ≤ G.co + (G.ext - G.lo) * esz

/-- A map's entries. -/
inductive RepK (C : Mem) (E : Emb) : List (AV × AV × Nat) → List MapEntry → Prop
  | nil : RepK C E [] []
  | cons (k x : AV) (n : Nat) (e : MapEntry) (as : List (AV × AV × Nat)) (es : List MapEntry) (hk : Rep C E k e.key) (hx : Rep C E x e.val) (hn : e.born = n) (h : RepK C E as es) :
      RepK C E ((k, x, n) :: as) (e :: es)

theorem RepK.mono {C C' : Mem} {E E' : Emb} (hC : C.le C') (hE : E.le E') {as : List (AV × AV × Nat)} {es : List MapEntry} (h : RepK C E as es) : RepK C' E' as es := by
  induction h with
  | nil => exact .nil
  | cons k x n e as es hk hx hn _ ih => exact .cons k x n e as es (hk.mono hC hE) (hx.mono hC hE) hn ih

structure WRel (C : Mem) (w0 : World) (E : Emb) (H : Heap) (w : World) : Prop where
  below : Below w0.heap.size w0 w
  mem : ∀ b o v, C b o = some v → b < w.heap.size ∧ w.cell? ⟨b, o, none⟩ = some v
  dom : ∀ b g L, E.loc b g = some L → H.blk b ≠ none ∧ L.blk < w.heap.size ∧ ∀ ty esz els gen wgen, H.blk b = some (.row ty esz els gen wgen) → g ≤ gen
  mdom : ∀ b m, E.mloc b = some m → H.blk b ≠ none ∧ m < w.heap.size
  row : ∀ b ty esz els gen wgen, H.blk b = some (.row ty esz els gen wgen) → RowOk C E w w0.heap.size b esz els gen wgen
  map : ∀ b es cl, H.blk b = some (.map es cl) → ∃ m es', E.mloc b = some m ∧ w0.heap.size ≤ m ∧ w.heap[m]? = some (.map es' cl) ∧ RepK C E es es'.toList
  sep : ∀ b g L b' g' L', E.loc b g = some L → E.loc b' g' = some L' → L.blk = L'.blk → b = b'
  msep : ∀ b m b', E.mloc b = some m → E.mloc b' = some m → b = b'
  memsep : ∀ b g L o v, E.loc b g = some L → C L.blk o = some v → False

theorem LocOk.chg {C : Mem} {E E' : Emb} {w w' : World} {base : Nat} {L : Loc} {esz : Nat} {els : List (List AV)} {S : Nat → Nat → Prop} (h : LocOk C E w base L esz els) (hc : Chg w w' S)
    (hE : E.le E') (hS : ∀ o, L.co ≤ o → o < L.co + (L.ext - L.lo) * esz → ¬ S L.blk o) (hl : ∀ cs ∈ els, cs.length = esz) : LocOk C E' w' base L esz els where
  sz := h.sz
  lo := h.lo
  ext := h.ext
  base := h.base
  lt := Nat.lt_of_lt_of_le h.lt hc.size
  room := h.room
  shape := fun o ho => ⟨hc.some _ _ h.lt (h.shape o ho).1, by rw [hc.frozen _ _ h.lt]; exact (h.shape o ho).2⟩
  cell := fun i j cs c h1 h2 h3 h4 => by
    obtain ⟨v, hv, hr⟩ := h.cell i j cs c h1 h2 h3 h4
    refine ⟨v, ?_, hr.mono (Mem.le_refl _) hE⟩
    rw [hc.cell _ _ h.lt (hS _ (by omega) ?_)]
    · exact hv
    · have hj : j < esz := by
        have := hl cs (List.mem_of_getElem? h3)
        have := (List.getElem?_eq_some_iff.1 h4).1
        omega
      have : (i - L.lo + 1) * esz ≤ (L.ext - L.lo) * esz := Nat.mul_le_mul_right _ (by omega)
      rw [Nat.add_mul] at this
      omega

theorem RowOk.chg {C : Mem} {E E' : Emb} {w w' : World} {base b esz : Nat} {els : List (List AV)} {gen wgen : Nat} {S : Nat → Nat → Prop} (h : RowOk C E w base b esz els gen wgen) (hc : Chg w w' S)
    (hE : E.le E') (hS : ∀ g L, wgen ≤ g → g ≤ gen → E.loc b g = some L → ∀ o, L.co ≤ o → o < L.co + (L.ext - L.lo) * esz → ¬ S L.blk o) : RowOk C E' w' base b esz els gen wgen := by
  have back : ∀ g L, wgen ≤ g → g ≤ gen → E'.loc b g = some L → E.loc b g = some L := fun g L h1 h2 hL => by
    obtain ⟨L', hL', _⟩ := h.loc g h1 h2
    have := hE.1 _ _ _ hL'
    rw [hL] at this
    cases this
    exact hL'
  refine ⟨h.len, h.le, fun g h1 h2 => ?_, fun L hL => h.last L (back _ _ h.le (Nat.le_refl _) hL), fun g L G h1 h2 hL hG => h.ends g L G h1 h2 (back _ _ h1 h2 hL) (back _ _ h.le (Nat.le_refl _) hG)⟩
  obtain ⟨L, hL, hl⟩ := h.loc g h1 h2
  exact ⟨L, hE.1 _ _ _ hL, hl.chg hc hE (hS g L h1 h2 hL) h.len⟩

/-- A world that turned nowhere where H lies. -/
theorem WRel.chg {C : Mem} {w0 : World} {E : Emb} {H : Heap} {w w' : World} {S : Nat → Nat → Prop} (h : WRel C w0 E H w) (hc : Chg w w' S) (hS : ∀ b o, ¬ S b o) : WRel C w0 E H w' where
  below := h.below.trans ⟨hc.os, hc.tape, hc.output, hc.size, fun k hk => hc.block k (Nat.lt_of_lt_of_le hk h.below.size) (fun o => hS k o)⟩
  mem := fun b o v hv => ⟨Nat.lt_of_lt_of_le (h.mem b o v hv).1 hc.size, by rw [hc.cell _ _ (h.mem b o v hv).1 (hS _ _)]; exact (h.mem b o v hv).2⟩
  dom := fun b g L hL => ⟨(h.dom b g L hL).1, Nat.lt_of_lt_of_le (h.dom b g L hL).2.1 hc.size, (h.dom b g L hL).2.2⟩
  mdom := fun b m hm => ⟨(h.mdom b m hm).1, Nat.lt_of_lt_of_le (h.mdom b m hm).2 hc.size⟩
  row := fun b ty esz els gen wgen hb => (h.row b ty esz els gen wgen hb).chg hc (Emb.le_refl _) (fun _ _ _ _ _ _ _ _ => hS _ _)
  map := fun b es cl hb => by
    obtain ⟨m, es', h1, h2, h3, h4⟩ := h.map b es cl hb
    exact ⟨m, es', h1, h2, by rw [hc.block m (h.mdom b m h1).2 (fun o => hS m o)]; exact h3, h4⟩
  sep := h.sep
  msep := h.msep
  memsep := h.memsep

def Emb.set (E : Emb) (b g : Nat) (L : Loc) : Emb := ⟨fun b' g' => if b' = b ∧ g' = g then some L else E.loc b' g', E.mloc⟩

theorem Emb.le_set {E : Emb} {b g : Nat} {L : Loc} (h : E.loc b g = none) : E.le (E.set b g L) := by
  refine ⟨fun b' g' L' h' => ?_, fun _ _ h => h⟩
  simp only [Emb.set]
  split
  · rename_i hh; obtain ⟨rfl, rfl⟩ := hh; rw [h] at h'; cases h'
  · exact h'

theorem Emb.set_same (E : Emb) (b g : Nat) (L : Loc) : (E.set b g L).loc b g = some L := by simp [Emb.set]

/-- Below, carried over a change that touches no old block. -/
theorem below_chg {w0 w w' : World} {S : Nat → Nat → Prop} (h : Below w0.heap.size w0 w) (hc : Chg w w' S) (hS : ∀ b o, S b o → w0.heap.size ≤ b) : Below w0.heap.size w0 w' :=
  h.trans ⟨hc.os, hc.tape, hc.output, hc.size, fun k hk => hc.block k (Nat.lt_of_lt_of_le hk h.size) (fun o hs => by have := hS k o hs; omega)⟩

/-- A new row. -/
theorem WRel.newRow {C : Mem} {w0 : World} {E : Emb} {H : Heap} {w w' : World} (h : WRel C w0 E H w) (hfree : H.blk H.next = none) (hc : Chg w w' (fun _ _ => False)) (ty esz : Nat) (els : List (List AV)) (L : Loc)
    (hL : L.blk = w.heap.size) (hlt : w.heap.size < w'.heap.size) (hlo : L.lo = 0) (hext : L.ext = els.length) (hesz : L.esz = esz) (hlen : ∀ cs ∈ els, cs.length = esz)
    (hroom : L.co + (L.ext - L.lo) * esz ≤ L.size)
    (hshape : ∀ o, o < L.size → (w'.cell? ⟨L.blk, o, none⟩).isSome = true ∧ w'.frozen? ⟨L.blk, o, none⟩ = false)
    (hcell : ∀ i j cs c, i < els.length → els[i]? = some cs → cs[j]? = some c → ∃ v, w'.cell? ⟨L.blk, L.co + i * esz + j, none⟩ = some v ∧ Rep C E c v) :
    E.le (E.set H.next 0 L) ∧ WRel C w0 (E.set H.next 0 L) (H.push (.row ty esz els 0 0)) w' := by
  have hnone : E.loc H.next 0 = none := by
    cases hx : E.loc H.next 0 with
    | none => rfl
    | some L' => exact absurd hfree (h.dom _ _ _ hx).1
  have hle := Emb.le_set (L := L) hnone
  refine ⟨hle, ?_⟩
  have h0 := h.chg hc (fun _ _ hf => hf)
  have hset : ∀ b g L', (E.set H.next 0 L).loc b g = some L' → (b = H.next ∧ g = 0 ∧ L' = L) ∨ E.loc b g = some L' := fun b g L' hx => by
    simp only [Emb.set] at hx
    split at hx
    · rename_i hh; cases hx; exact .inl ⟨hh.1, hh.2, rfl⟩
    · exact .inr hx
  constructor
  · exact h0.below
  · exact h0.mem
  · intro b g L' hx
    rcases hset b g L' hx with ⟨rfl, rfl, rfl⟩ | hx
    · refine ⟨by simp [Heap.push], by omega, fun ty esz els gen wgen hb => ?_⟩
      exact Nat.zero_le _
    · obtain ⟨h1, h2, h3⟩ := h0.dom b g L' hx
      have hbn : b ≠ H.next := fun e => h1 (e ▸ hfree)
      refine ⟨by simp only [Heap.push]; rw [if_neg hbn]; exact h1, h2, fun ty esz els gen wgen hb => ?_⟩
      simp only [Heap.push] at hb
      rw [if_neg hbn] at hb
      exact h3 _ _ _ _ _ hb
  · intro b m hm
    have hbn : b ≠ H.next := fun e => (h0.mdom b m hm).1 (e ▸ hfree)
    exact ⟨by simp only [Heap.push]; rw [if_neg hbn]; exact (h0.mdom b m hm).1, (h0.mdom b m hm).2⟩
  · intro b ty' esz' els' gen wgen hb
    simp only [Heap.push] at hb
    split at hb
    · rename_i hb'
      subst hb'
      cases hb
      refine ⟨hlen, Nat.le_refl _, fun g h1 h2 => ?_, fun L' hL' => ?_, fun g L' G h1 h2 hx hG _ => ?_⟩
      · obtain rfl : g = 0 := by omega
        refine ⟨L, Emb.set_same _ _ _ _, hesz, by omega, by omega, ?_, by omega, hroom, hshape, fun i j cs c h1 h2 h3 h4 => ?_⟩
        · rw [hL]; exact h.below.size
        · obtain ⟨v, hv, hr⟩ := hcell i j cs c (by omega) h3 h4
          rw [hlo, Nat.sub_zero]
          exact ⟨v, hv, hr.mono (Mem.le_refl _) hle⟩
      · rw [Emb.set_same] at hL'; cases hL'; exact hext
      · obtain rfl : g = 0 := by omega
        rw [hx] at hG; cases hG; exact Nat.le_refl _
    · exact (h0.row b _ _ _ _ _ hb).chg (Chg.refl w' (fun _ _ => False)) hle (fun _ _ _ _ _ _ _ _ hf => hf)
  · intro b es cl hb
    simp only [Heap.push] at hb
    split at hb
    · cases hb
    · obtain ⟨m, es', h1, h2, h3, h4⟩ := h0.map b es cl hb
      exact ⟨m, es', h1, h2, h3, h4.mono (Mem.le_refl _) hle⟩
  · intro b g L1 b' g' L2 hx hy hxy
    rcases hset b g L1 hx with ⟨rfl, rfl, rfl⟩ | hx' <;> rcases hset b' g' L2 hy with ⟨rfl, rfl, rfl⟩ | hy'
    · rfl
    · have := (h.dom _ _ _ hy').2.1; omega
    · have := (h.dom _ _ _ hx').2.1; omega
    · exact h.sep _ _ _ _ _ _ hx' hy' hxy
  · exact h.msep
  · intro b g L' o v hx hv
    rcases hset b g L' hx with ⟨rfl, rfl, rfl⟩ | hx
    · have := (h.mem _ _ _ hv).1; omega
    · exact h.memsep _ _ _ _ _ hx hv

end Go.Ev
