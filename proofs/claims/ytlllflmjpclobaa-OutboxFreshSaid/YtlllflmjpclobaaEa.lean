import Derived.Below
import Derived.Laws.IdiomCopy
import GoSem.ClaimKeys
import Derived.DeepKeys3
import Derived.Laws.StructEq
import Derived.Laws.Rows
import Derived.Laws.AppendOwn
import Derived.Laws.MakeOwn
set_option linter.unusedVariables false
set_option linter.unusedSimpArgs false
section
namespace Go.Ev

/-- An abstract value. -/
inductive AV where
  | undef
  | bool (b : Bool)
  | int (k : IntKind) (n : Int)
  | str (s : List Nat)
  | nilptr
  | ptr (b i o g : Nat)
  | iptr (cs : List AV) (o : Nat)
  | nilslice
  | eslice
  | slice (b off len cap : Nat) (ex : Bool) (g : Nat)
  | lst (sz : Nat) (es : List (List AV))
  | agg (cs : List AV)
  | tuple (vs : List AV)
  | nilIface
  | iface (t : TypeId) (v : AV)
  | nilFunc
  | func (f : Fn) (first captured : List AV)
  | nilMap
  | map (b : Nat)
  deriving Inhabited

def AV.cells : AV → List AV
  | .agg cs => cs
  | v => [v]

/-- A value of one cell. -/
def AV.isCell : AV → Bool
  | .undef | .agg _ | .tuple _ => false
  | _ => true

/-- Where a row (block b, generation g) lies: its elements lo to ext - 1 from cell co on of block blk, esz cells each; the block has size cells. -/
structure Loc where
  blk : Nat
  co : Nat
  lo : Nat
  ext : Nat
  esz : Nat
  size : Nat

structure Emb where
  loc : Nat → Nat → Option Loc
  mloc : Nat → Option Nat

def Emb.le (E E' : Emb) : Prop := (∀ b g L, E.loc b g = some L → E'.loc b g = some L) ∧ (∀ b m, E.mloc b = some m → E'.mloc b = some m)

theorem Emb.le_refl (E : Emb) : E.le E := ⟨fun _ _ _ h => h, fun _ _ h => h⟩
theorem Emb.le_trans {E E' E'' : Emb} (h : E.le E') (h' : E'.le E'') : E.le E'' :=
  ⟨fun b g L x => h'.1 b g L (h.1 b g L x), fun b m x => h'.2 b m (h.2 b m x)⟩

/-- Memory that stays as it is. -/
abbrev Mem := Nat → Nat → Option Value

def strOf (s : ByteArray) : List Nat := s.data.toList.map UInt8.toNat

mutual
inductive Rep (C : Mem) (E : Emb) : AV → Value → Prop
  | undef (v : Value) : Rep C E .undef v
  | bool (b : Bool) : Rep C E (.bool b) (.bool b)
  | int (k : IntKind) (n : Int) : Rep C E (.int k n) (.int k n)
  | str (s : ByteArray) (l : List Nat) (h : strOf s = l) : Rep C E (.str l) (.string s)
  | nilptr : Rep C E .nilptr (.pointer none)
  | ptr (b i o g : Nat) (L : Loc) (off : Nat) (hL : E.loc b g = some L) (h1 : L.lo ≤ i) (h2 : i < L.ext) (h3 : off = L.co + (i - L.lo) * L.esz + o) :
      Rep C E (.ptr b i o g) (.pointer (some ⟨L.blk, off, none⟩))
  | iptr (cs : List AV) (o blk co off : Nat) (h : RepM C E blk co cs) (h3 : off = co + o) : Rep C E (.iptr cs o) (.pointer (some ⟨blk, off, none⟩))
  | nilslice : Rep C E .nilslice (.slice none 0 0)
  | eslice (a : Addr) : Rep C E .eslice (.slice (some a) 0 0)
  | slice (b off len cap : Nat) (ex : Bool) (g : Nat) (L : Loc) (a : Addr) (rc : Nat) (hL : E.loc b g = some L) (h1 : L.lo ≤ off) (h2 : off + cap ≤ L.ext)
      (h3 : len ≤ cap) (h4 : cap ≤ rc) (h5 : ex = true → rc = cap) (h6 : 0 < rc → a = ⟨L.blk, L.co + (off - L.lo) * L.esz, none⟩)
      (h7 : L.co + (off - L.lo + rc) * L.esz ≤ L.size) :
      Rep C E (.slice b off len cap ex g) (.slice (some a) len rc)
  | lst (sz : Nat) (es : List (List AV)) (blk co len rc : Nat) (a : Addr) (h : RepE C E blk co sz es) (h1 : len = es.length) (h2 : len ≤ rc) (h6 : 0 < rc → a = ⟨blk, co, none⟩) :
      Rep C E (.lst sz es) (.slice (some a) len rc)
  | agg (cs : List AV) (vs : List Value) (h : RepL C E cs vs) : Rep C E (.agg cs) (.agg vs.toArray)
  | tuple (cs : List AV) (vs : List Value) (h : RepL C E cs vs) : Rep C E (.tuple cs) (.tuple vs.toArray)
  | nilIface : Rep C E .nilIface .nilIface
  | iface (t : TypeId) (a : AV) (v : Value) (h : Rep C E a v) : Rep C E (.iface t a) (.iface t v)
  | nilFunc : Rep C E .nilFunc .nilFunc
  | func (f : Fn) (xs ys : List AV) (vs us : List Value) (h : RepL C E xs vs) (h' : RepL C E ys us) : Rep C E (.func f xs ys) (.func f vs.toArray us.toArray)
  | nilMap : Rep C E .nilMap (.map none)
  | map (b m : Nat) (h : E.mloc b = some m) : Rep C E (.map b) (.map (some m))
inductive RepL (C : Mem) (E : Emb) : List AV → List Value → Prop
  | nil : RepL C E [] []
  | cons (a : AV) (v : Value) (as : List AV) (vs : List Value) (h : Rep C E a v) (h' : RepL C E as vs) : RepL C E (a :: as) (v :: vs)
/-- In the memory that stays: these values from a cell on. -/
inductive RepM (C : Mem) (E : Emb) : Nat → Nat → List AV → Prop
  | nil (blk co : Nat) : RepM C E blk co []
  | cons (blk co : Nat) (a : AV) (as : List AV) (v : Value) (hv : C blk co = some v) (h : Rep C E a v) (h' : RepM C E blk (co + 1) as) : RepM C E blk co (a :: as)
/-- In the memory that stays: these elements from a cell on. -/
inductive RepE (C : Mem) (E : Emb) : Nat → Nat → Nat → List (List AV) → Prop
  | nil (blk co sz : Nat) : RepE C E blk co sz []
  | cons (blk co sz : Nat) (cs : List AV) (es : List (List AV)) (hl : cs.length = sz) (h : RepM C E blk co cs) (h' : RepE C E blk (co + sz) sz es) : RepE C E blk co sz (cs :: es)
end

def Mem.le (C C' : Mem) : Prop := ∀ b o v, C b o = some v → C' b o = some v
theorem Mem.le_refl (C : Mem) : C.le C := fun _ _ _ h => h

section mono
variable {C C' : Mem} {E E' : Emb}
mutual
theorem Rep.mono (hC : C.le C') (hE : E.le E') : ∀ {a : AV} {v : Value}, Rep C E a v → Rep C' E' a v
  | _, _, .undef v => .undef v
  | _, _, .bool b => .bool b
  | _, _, .int k n => .int k n
  | _, _, .str s l h => .str s l h
  | _, _, .nilptr => .nilptr
  | _, _, .ptr b i o g L off hL h1 h2 h3 => .ptr b i o g L off (hE.1 _ _ _ hL) h1 h2 h3
  | _, _, .iptr cs o blk co off h h3 => .iptr cs o blk co off (RepM.mono hC hE h) h3
  | _, _, .nilslice => .nilslice
  | _, _, .eslice a => .eslice a
  | _, _, .slice b off len cap ex g L a rc hL h1 h2 h3 h4 h5 h6 h7 => .slice b off len cap ex g L a rc (hE.1 _ _ _ hL) h1 h2 h3 h4 h5 h6 h7
  | _, _, .lst sz es blk co len rc a h h1 h2 h6 => .lst sz es blk co len rc a (RepE.mono hC hE h) h1 h2 h6
  | _, _, .agg cs vs h => .agg cs vs (RepL.mono hC hE h)
  | _, _, .tuple cs vs h => .tuple cs vs (RepL.mono hC hE h)
  | _, _, .nilIface => .nilIface
  | _, _, .iface t a v h => .iface t a v (Rep.mono hC hE h)
  | _, _, .nilFunc => .nilFunc
  | _, _, .func f xs ys vs us h h' => .func f xs ys vs us (RepL.mono hC hE h) (RepL.mono hC hE h')
  | _, _, .nilMap => .nilMap
  | _, _, .map b m h => .map b m (hE.2 _ _ h)
theorem RepL.mono (hC : C.le C') (hE : E.le E') : ∀ {as : List AV} {vs : List Value}, RepL C E as vs → RepL C' E' as vs
  | _, _, .nil => .nil
  | _, _, .cons a v as vs h h' => .cons a v as vs (Rep.mono hC hE h) (RepL.mono hC hE h')
theorem RepM.mono (hC : C.le C') (hE : E.le E') : ∀ {blk co : Nat} {as : List AV}, RepM C E blk co as → RepM C' E' blk co as
  | _, _, _, .nil blk co => .nil blk co
  | _, _, _, .cons blk co a as v hv h h' => .cons blk co a as v (hC _ _ _ hv) (Rep.mono hC hE h) (RepM.mono hC hE h')
theorem RepE.mono (hC : C.le C') (hE : E.le E') : ∀ {blk co sz : Nat} {es : List (List AV)}, RepE C E blk co sz es → RepE C' E' blk co sz es
  | _, _, _, _, .nil blk co sz => .nil blk co sz
  | _, _, _, _, .cons blk co sz cs es hl h h' => .cons blk co sz cs es hl (RepM.mono hC hE h) (RepE.mono hC hE h')
end
end mono

/-- A block of the abstract heap. -/
inductive Blk where
  | row (ty : TypeId) (esz : Nat) (els : List (List AV)) (gen wgen : Nat)
  | map (es : List (AV × AV × Nat)) (clock : Nat)

structure Heap where
  blk : Nat → Option Blk
  next : Nat

def Heap.set (H : Heap) (b : Nat) (x : Blk) : Heap := ⟨fun i => if i = b then some x else H.blk i, H.next⟩
def Heap.push (H : Heap) (x : Blk) : Heap := ⟨fun i => if i = H.next then some x else H.blk i, H.next + 1⟩

end Go.Ev
end
section
namespace Go.Ev
open Go.RowKit

/-- What an operation does to the world: only the cells in S may turn; new blocks may come. -/
structure Chg (w w' : World) (S : Nat → Nat → Prop) : Prop where
  os : w'.os = w.os
  tape : w'.tape = w.tape
  output : w'.output = w.output
  size : w.heap.size ≤ w'.heap.size
  cell : ∀ b o, b < w.heap.size → ¬ S b o → w'.cell? ⟨b, o, none⟩ = w.cell? ⟨b, o, none⟩
  some : ∀ b o, b < w.heap.size → (w.cell? ⟨b, o, none⟩).isSome = true → (w'.cell? ⟨b, o, none⟩).isSome = true
  frozen : ∀ b o, b < w.heap.size → w'.frozen? ⟨b, o, none⟩ = w.frozen? ⟨b, o, none⟩
  block : ∀ k, k < w.heap.size → (∀ o, ¬ S k o) → w'.heap[k]? = w.heap[k]?

theorem Chg.refl (w : World) (S : Nat → Nat → Prop) : Chg w w S :=
  ⟨rfl, rfl, rfl, Nat.le_refl _, fun _ _ _ _ => rfl, fun _ _ _ h => h, fun _ _ _ => rfl, fun _ _ _ => rfl⟩

theorem Chg.drew (w : World) (S : Nat → Nat → Prop) : Chg w w.drew S :=
  ⟨rfl, rfl, rfl, Nat.le_refl _, fun _ _ _ _ => rfl, fun _ _ _ h => h, fun _ _ _ => rfl, fun _ _ _ => rfl⟩

theorem Chg.alloc (w : World) (o : Obj) (S : Nat → Nat → Prop) : Chg w (w.alloc o) S where
  os := rfl
  tape := rfl
  output := rfl
  size := by simp
  cell := fun b o' hb _ => World.cell?_alloc_lt w o ⟨b, o', none⟩ hb
  some := fun b o' hb h => by rw [World.cell?_alloc_lt w o ⟨b, o', none⟩ hb]; exact h
  frozen := fun b o' hb => World.frozen?_alloc_old w o ⟨b, o', none⟩ (Nat.ne_of_lt hb)
  block := fun k hk _ => Below.heap_alloc w o k hk

theorem heap_setCells (b : Nat) : ∀ (vs : List Value) (o : Nat) (w : World) (k : Nat), k ≠ b → (w.setCells b o vs).heap[k]? = w.heap[k]?
  | [], _, _, _, _ => rfl
  | v :: r, o, w, k, h => by rw [World.setCells, heap_setCells b r (o + 1) _ k h]; exact Below.heap_setCell _ _ _ _ h

theorem size_setCells (b : Nat) : ∀ (vs : List Value) (o : Nat) (w : World), (w.setCells b o vs).heap.size = w.heap.size
  | [], _, _ => rfl
  | v :: r, o, w => by rw [World.setCells, size_setCells b r]; simp

theorem rest_setCells (b : Nat) : ∀ (vs : List Value) (o : Nat) (w : World), (w.setCells b o vs).os = w.os ∧ (w.setCells b o vs).tape = w.tape ∧ (w.setCells b o vs).output = w.output
  | [], _, _ => ⟨rfl, rfl, rfl⟩
  | v :: r, o, w => by
    obtain ⟨h1, h2, h3⟩ := rest_setCells b r (o + 1) (w.setCell ⟨b, o, none⟩ v)
    exact ⟨h1, h2, h3⟩

theorem some_setCells (b : Nat) (vs : List Value) (o : Nat) (w : World) (hc : ∀ j, j < vs.length → (w.cell? ⟨b, o + j, none⟩).isSome = true) (x y : Nat) (h : (w.cell? ⟨x, y, none⟩).isSome = true) :
    ((w.setCells b o vs).cell? ⟨x, y, none⟩).isSome = true := by
  by_cases hx : x = b ∧ o ≤ y ∧ y < o + vs.length
  · obtain ⟨rfl, h1, h2⟩ := hx
    have := World.cell?_setCells_in x vs o w hc (y - o) (by omega)
    rw [show o + (y - o) = y by omega] at this
    rw [this]; rfl
  · rw [World.cell?_setCells_out b vs o w ⟨x, y, none⟩ (fun h1 _ => by simp only at h1 ⊢; omega)]
    exact h

theorem Chg.setCells (w : World) (b o : Nat) (vs : List Value) (hc : ∀ j, j < vs.length → (w.cell? ⟨b, o + j, none⟩).isSome = true) :
    Chg w (w.setCells b o vs) (fun x y => x = b ∧ o ≤ y ∧ y < o + vs.length) where
  os := (rest_setCells b vs o w).1
  tape := (rest_setCells b vs o w).2.1
  output := (rest_setCells b vs o w).2.2
  size := by rw [size_setCells]; exact Nat.le_refl _
  cell := fun x y _ h => World.cell?_setCells_out b vs o w ⟨x, y, none⟩ (fun h1 _ => by simp only at h1 ⊢; omega)
  some := fun x y _ h => some_setCells b vs o w hc x y h
  frozen := fun x y _ => World.frozen?_setCells b vs o w _
  block := fun k _ h => by
    by_cases hk : k = b
    · subst hk
      cases vs with
      | nil => rfl
      | cons v r => exact absurd ⟨rfl, Nat.le_refl _, by simp⟩ (h o)
    · exact heap_setCells b vs o w k hk

theorem Chg.mono {w w' : World} {S S' : Nat → Nat → Prop} (h : Chg w w' S) (hS : ∀ b o, S b o → S' b o) : Chg w w' S' :=
  ⟨h.os, h.tape, h.output, h.size, fun b o hb hn => h.cell b o hb (fun hs => hn (hS _ _ hs)), h.some, h.frozen, fun k hk hn => h.block k hk (fun o hs => hn o (hS _ _ hs))⟩

theorem Chg.trans {w w' w'' : World} {S : Nat → Nat → Prop} (h : Chg w w' S) (h' : Chg w' w'' S) : Chg w w'' S where
  os := h'.os.trans h.os
  tape := h'.tape.trans h.tape
  output := h'.output.trans h.output
  size := Nat.le_trans h.size h'.size
  cell := fun b o hb hn => (h'.cell b o (Nat.lt_of_lt_of_le hb h.size) hn).trans (h.cell b o hb hn)
  some := fun b o hb hs => h'.some b o (Nat.lt_of_lt_of_le hb h.size) (h.some b o hb hs)
  frozen := fun b o hb => (h'.frozen b o (Nat.lt_of_lt_of_le hb h.size)).trans (h.frozen b o hb)
  block := fun k hk hn => (h'.block k (Nat.lt_of_lt_of_le hk h.size) hn).trans (h.block k hk hn)

/-- A row's elements lie where L says. -/
structure LocOk (C : Mem) (E : Emb) (w : World) (base : Nat) (L : Loc) (esz : Nat) (els : List (List AV)) : Prop where
  sz : L.esz = esz
  lo : L.lo ≤ L.ext
  ext : L.ext ≤ els.length
  base : base ≤ L.blk
  lt : L.blk < w.heap.size
  room : L.co + (L.ext - L.lo) * esz ≤ L.size
  shape : ∀ o, o < L.size → (w.cell? ⟨L.blk, o, none⟩).isSome = true ∧ w.frozen? ⟨L.blk, o, none⟩ = false
  cell : ∀ i j cs c, L.lo ≤ i → i < L.ext → els[i]? = some cs → cs[j]? = some c → ∃ v, w.cell? ⟨L.blk, L.co + (i - L.lo) * esz + j, none⟩ = some v ∧ Rep C E c v

structure RowOk (C : Mem) (E : Emb) (w : World) (base b esz : Nat) (els : List (List AV)) (gen wgen : Nat) : Prop where
  len : ∀ cs ∈ els, cs.length = esz
  le : wgen ≤ gen
  loc : ∀ g, wgen ≤ g → g ≤ gen → ∃ L, E.loc b g = some L ∧ LocOk C E w base L esz els
  last : ∀ L, E.loc b gen = some L → L.ext = els.length
  ends : ∀ g L G, wgen ≤ g → g ≤ gen → E.loc b g = some L → E.loc b gen = some G → L.blk = G.blk → L.co + (L.ext - L.lo) * esz ≤ G.co + (G.ext - G.lo) * esz

/-- A map's entries. -/
inductive RepK (C : Mem) (E : Emb) : List (AV × AV × Nat) → List MapEntry → Prop
  | nil : RepK C E [] []
  | cons (k x : AV) (n : Nat) (e : MapEntry) (as : List (AV × AV × Nat)) (es : List MapEntry) (hk : Rep C E k e.key) (hx : Rep C E x e.val) (hn : e.born = n) (h : RepK C E as es) :
      RepK C E ((k, x, n) :: as) (e :: es)

theorem RepK.mono {C C' : Mem} {E E' : Emb} (hC : C.le C') (hE : E.le E') {as : List (AV × AV × Nat)} {es : List MapEntry} (h : RepK C E as es) : RepK C' E' as es := by
  induction h with
  | nil => exact .nil
  | cons k x n e as es hk hx hn _ ih => exact .cons k x n e as es (hk.mono hC hE) (hx.mono hC hE) hn ih

structure WRel (C : Mem) (w0 : World) (E : Emb) (H : Heap) (w : World) : Prop where
  below : Below w0.heap.size w0 w
  mem : ∀ b o v, C b o = some v → b < w.heap.size ∧ w.cell? ⟨b, o, none⟩ = some v
  dom : ∀ b g L, E.loc b g = some L → H.blk b ≠ none ∧ L.blk < w.heap.size ∧ ∀ ty esz els gen wgen, H.blk b = some (.row ty esz els gen wgen) → g ≤ gen
  mdom : ∀ b m, E.mloc b = some m → H.blk b ≠ none ∧ m < w.heap.size
  row : ∀ b ty esz els gen wgen, H.blk b = some (.row ty esz els gen wgen) → RowOk C E w w0.heap.size b esz els gen wgen
  map : ∀ b es cl, H.blk b = some (.map es cl) → ∃ m es', E.mloc b = some m ∧ w0.heap.size ≤ m ∧ w.heap[m]? = some (.map es' cl) ∧ RepK C E es es'.toList
  sep : ∀ b g L b' g' L', E.loc b g = some L → E.loc b' g' = some L' → L.blk = L'.blk → b = b'
  msep : ∀ b m b', E.mloc b = some m → E.mloc b' = some m → b = b'
  memsep : ∀ b g L o v, E.loc b g = some L → C L.blk o = some v → False

theorem LocOk.chg {C : Mem} {E E' : Emb} {w w' : World} {base : Nat} {L : Loc} {esz : Nat} {els : List (List AV)} {S : Nat → Nat → Prop} (h : LocOk C E w base L esz els) (hc : Chg w w' S)
    (hE : E.le E') (hS : ∀ o, L.co ≤ o → o < L.co + (L.ext - L.lo) * esz → ¬ S L.blk o) (hl : ∀ cs ∈ els, cs.length = esz) : LocOk C E' w' base L esz els where
  sz := h.sz
  lo := h.lo
  ext := h.ext
  base := h.base
  lt := Nat.lt_of_lt_of_le h.lt hc.size
  room := h.room
  shape := fun o ho => ⟨hc.some _ _ h.lt (h.shape o ho).1, by rw [hc.frozen _ _ h.lt]; exact (h.shape o ho).2⟩
  cell := fun i j cs c h1 h2 h3 h4 => by
    obtain ⟨v, hv, hr⟩ := h.cell i j cs c h1 h2 h3 h4
    refine ⟨v, ?_, hr.mono (Mem.le_refl _) hE⟩
    rw [hc.cell _ _ h.lt (hS _ (by omega) ?_)]
    · exact hv
    · have hj : j < esz := by
        have := hl cs (List.mem_of_getElem? h3)
        have := (List.getElem?_eq_some_iff.1 h4).1
        omega
      have : (i - L.lo + 1) * esz ≤ (L.ext - L.lo) * esz := Nat.mul_le_mul_right _ (by omega)
      rw [Nat.add_mul] at this
      omega

theorem RowOk.chg {C : Mem} {E E' : Emb} {w w' : World} {base b esz : Nat} {els : List (List AV)} {gen wgen : Nat} {S : Nat → Nat → Prop} (h : RowOk C E w base b esz els gen wgen) (hc : Chg w w' S)
    (hE : E.le E') (hS : ∀ g L, wgen ≤ g → g ≤ gen → E.loc b g = some L → ∀ o, L.co ≤ o → o < L.co + (L.ext - L.lo) * esz → ¬ S L.blk o) : RowOk C E' w' base b esz els gen wgen := by
  have back : ∀ g L, wgen ≤ g → g ≤ gen → E'.loc b g = some L → E.loc b g = some L := fun g L h1 h2 hL => by
    obtain ⟨L', hL', _⟩ := h.loc g h1 h2
    have := hE.1 _ _ _ hL'
    rw [hL] at this
    cases this
    exact hL'
  refine ⟨h.len, h.le, fun g h1 h2 => ?_, fun L hL => h.last L (back _ _ h.le (Nat.le_refl _) hL), fun g L G h1 h2 hL hG => h.ends g L G h1 h2 (back _ _ h1 h2 hL) (back _ _ h.le (Nat.le_refl _) hG)⟩
  obtain ⟨L, hL, hl⟩ := h.loc g h1 h2
  exact ⟨L, hE.1 _ _ _ hL, hl.chg hc hE (hS g L h1 h2 hL) h.len⟩

/-- A world that turned nowhere where H lies. -/
theorem WRel.chg {C : Mem} {w0 : World} {E : Emb} {H : Heap} {w w' : World} {S : Nat → Nat → Prop} (h : WRel C w0 E H w) (hc : Chg w w' S) (hS : ∀ b o, ¬ S b o) : WRel C w0 E H w' where
  below := h.below.trans ⟨hc.os, hc.tape, hc.output, hc.size, fun k hk => hc.block k (Nat.lt_of_lt_of_le hk h.below.size) (fun o => hS k o)⟩
  mem := fun b o v hv => ⟨Nat.lt_of_lt_of_le (h.mem b o v hv).1 hc.size, by rw [hc.cell _ _ (h.mem b o v hv).1 (hS _ _)]; exact (h.mem b o v hv).2⟩
  dom := fun b g L hL => ⟨(h.dom b g L hL).1, Nat.lt_of_lt_of_le (h.dom b g L hL).2.1 hc.size, (h.dom b g L hL).2.2⟩
  mdom := fun b m hm => ⟨(h.mdom b m hm).1, Nat.lt_of_lt_of_le (h.mdom b m hm).2 hc.size⟩
  row := fun b ty esz els gen wgen hb => (h.row b ty esz els gen wgen hb).chg hc (Emb.le_refl _) (fun _ _ _ _ _ _ _ _ => hS _ _)
  map := fun b es cl hb => by
    obtain ⟨m, es', h1, h2, h3, h4⟩ := h.map b es cl hb
    exact ⟨m, es', h1, h2, by rw [hc.block m (h.mdom b m h1).2 (fun o => hS m o)]; exact h3, h4⟩
  sep := h.sep
  msep := h.msep
  memsep := h.memsep

def Emb.set (E : Emb) (b g : Nat) (L : Loc) : Emb := ⟨fun b' g' => if b' = b ∧ g' = g then some L else E.loc b' g', E.mloc⟩

theorem Emb.le_set {E : Emb} {b g : Nat} {L : Loc} (h : E.loc b g = none) : E.le (E.set b g L) := by
  refine ⟨fun b' g' L' h' => ?_, fun _ _ h => h⟩
  simp only [Emb.set]
  split
  · rename_i hh; obtain ⟨rfl, rfl⟩ := hh; rw [h] at h'; cases h'
  · exact h'

theorem Emb.set_same (E : Emb) (b g : Nat) (L : Loc) : (E.set b g L).loc b g = some L := by simp [Emb.set]

/-- Below, carried over a change that touches no old block. -/
theorem below_chg {w0 w w' : World} {S : Nat → Nat → Prop} (h : Below w0.heap.size w0 w) (hc : Chg w w' S) (hS : ∀ b o, S b o → w0.heap.size ≤ b) : Below w0.heap.size w0 w' :=
  h.trans ⟨hc.os, hc.tape, hc.output, hc.size, fun k hk => hc.block k (Nat.lt_of_lt_of_le hk h.size) (fun o hs => by have := hS k o hs; omega)⟩

/-- A new row. -/
theorem WRel.newRow {C : Mem} {w0 : World} {E : Emb} {H : Heap} {w w' : World} (h : WRel C w0 E H w) (hfree : H.blk H.next = none) (hc : Chg w w' (fun _ _ => False)) (ty esz : Nat) (els : List (List AV)) (L : Loc)
    (hL : L.blk = w.heap.size) (hlt : w.heap.size < w'.heap.size) (hlo : L.lo = 0) (hext : L.ext = els.length) (hesz : L.esz = esz) (hlen : ∀ cs ∈ els, cs.length = esz)
    (hroom : L.co + (L.ext - L.lo) * esz ≤ L.size)
    (hshape : ∀ o, o < L.size → (w'.cell? ⟨L.blk, o, none⟩).isSome = true ∧ w'.frozen? ⟨L.blk, o, none⟩ = false)
    (hcell : ∀ i j cs c, i < els.length → els[i]? = some cs → cs[j]? = some c → ∃ v, w'.cell? ⟨L.blk, L.co + i * esz + j, none⟩ = some v ∧ Rep C E c v) :
    E.le (E.set H.next 0 L) ∧ WRel C w0 (E.set H.next 0 L) (H.push (.row ty esz els 0 0)) w' := by
  have hnone : E.loc H.next 0 = none := by
    cases hx : E.loc H.next 0 with
    | none => rfl
    | some L' => exact absurd hfree (h.dom _ _ _ hx).1
  have hle := Emb.le_set (L := L) hnone
  refine ⟨hle, ?_⟩
  have h0 := h.chg hc (fun _ _ hf => hf)
  have hset : ∀ b g L', (E.set H.next 0 L).loc b g = some L' → (b = H.next ∧ g = 0 ∧ L' = L) ∨ E.loc b g = some L' := fun b g L' hx => by
    simp only [Emb.set] at hx
    split at hx
    · rename_i hh; cases hx; exact .inl ⟨hh.1, hh.2, rfl⟩
    · exact .inr hx
  constructor
  · exact h0.below
  · exact h0.mem
  · intro b g L' hx
    rcases hset b g L' hx with ⟨rfl, rfl, rfl⟩ | hx
    · refine ⟨by simp [Heap.push], by omega, fun ty esz els gen wgen hb => ?_⟩
      exact Nat.zero_le _
    · obtain ⟨h1, h2, h3⟩ := h0.dom b g L' hx
      have hbn : b ≠ H.next := fun e => h1 (e ▸ hfree)
      refine ⟨by simp only [Heap.push]; rw [if_neg hbn]; exact h1, h2, fun ty esz els gen wgen hb => ?_⟩
      simp only [Heap.push] at hb
      rw [if_neg hbn] at hb
      exact h3 _ _ _ _ _ hb
  · intro b m hm
    have hbn : b ≠ H.next := fun e => (h0.mdom b m hm).1 (e ▸ hfree)
    exact ⟨by simp only [Heap.push]; rw [if_neg hbn]; exact (h0.mdom b m hm).1, (h0.mdom b m hm).2⟩
  · intro b ty' esz' els' gen wgen hb
    simp only [Heap.push] at hb
    split at hb
    · rename_i hb'
      subst hb'
      cases hb
      refine ⟨hlen, Nat.le_refl _, fun g h1 h2 => ?_, fun L' hL' => ?_, fun g L' G h1 h2 hx hG _ => ?_⟩
      · obtain rfl : g = 0 := by omega
        refine ⟨L, Emb.set_same _ _ _ _, hesz, by omega, by omega, ?_, by omega, hroom, hshape, fun i j cs c h1 h2 h3 h4 => ?_⟩
        · rw [hL]; exact h.below.size
        · obtain ⟨v, hv, hr⟩ := hcell i j cs c (by omega) h3 h4
          rw [hlo, Nat.sub_zero]
          exact ⟨v, hv, hr.mono (Mem.le_refl _) hle⟩
      · rw [Emb.set_same] at hL'; cases hL'; exact hext
      · obtain rfl : g = 0 := by omega
        rw [hx] at hG; cases hG; exact Nat.le_refl _
    · exact (h0.row b _ _ _ _ _ hb).chg (Chg.refl w' (fun _ _ => False)) hle (fun _ _ _ _ _ _ _ _ hf => hf)
  · intro b es cl hb
    simp only [Heap.push] at hb
    split at hb
    · cases hb
    · obtain ⟨m, es', h1, h2, h3, h4⟩ := h0.map b es cl hb
      exact ⟨m, es', h1, h2, h3, h4.mono (Mem.le_refl _) hle⟩
  · intro b g L1 b' g' L2 hx hy hxy
    rcases hset b g L1 hx with ⟨rfl, rfl, rfl⟩ | hx' <;> rcases hset b' g' L2 hy with ⟨rfl, rfl, rfl⟩ | hy'
    · rfl
    · have := (h.dom _ _ _ hy').2.1; omega
    · have := (h.dom _ _ _ hx').2.1; omega
    · exact h.sep _ _ _ _ _ _ hx' hy' hxy
  · exact h.msep
  · intro b g L' o v hx hv
    rcases hset b g L' hx with ⟨rfl, rfl, rfl⟩ | hx
    · have := (h.mem _ _ _ hv).1; omega
    · exact h.memsep _ _ _ _ _ hx hv

end Go.Ev
end
section
namespace Go.Ev
open Go.RowKit

theorem Heap.set_same (H : Heap) (b : Nat) (x : Blk) : (H.set b x).blk b = some x := by simp [Heap.set]
theorem Heap.set_other (H : Heap) (b : Nat) (x : Blk) {i : Nat} (h : i ≠ b) : (H.set b x).blk i = H.blk i := by simp [Heap.set, h]

theorem LocOk.append {C : Mem} {E : Emb} {w : World} {base : Nat} {L : Loc} {esz : Nat} {els : List (List AV)} (h : LocOk C E w base L esz els) (new : List (List AV)) : LocOk C E w base L esz (els ++ new) where
  sz := h.sz
  lo := h.lo
  ext := by have := h.ext; simp; omega
  base := h.base
  lt := h.lt
  room := h.room
  shape := h.shape
  cell := fun i j cs c h1 h2 h3 h4 => by
    refine h.cell i j cs c h1 h2 ?_ h4
    rw [List.getElem?_append_left (by have := h.ext; omega)] at h3
    exact h3

theorem Heap.set_ne {H : Heap} {b c : Nat} {x : Blk} (h : H.blk c ≠ none) : (H.set b x).blk c ≠ none := by
  by_cases hc : c = b
  · subst hc; rw [Heap.set_same]; simp
  · rw [Heap.set_other _ _ _ hc]; exact h

/-- Where the newest generation of a row lies. -/
theorem WRel.newest {C : Mem} {w0 : World} {E : Emb} {H : Heap} {w : World} (h : WRel C w0 E H w) {b : Nat} {ty esz : Nat} {els : List (List AV)} {gen wgen : Nat} (hb : H.blk b = some (.row ty esz els gen wgen)) :
    ∃ G, E.loc b gen = some G ∧ LocOk C E w w0.heap.size G esz els ∧ G.ext = els.length := by
  have hr := h.row _ _ _ _ _ _ hb
  obtain ⟨G, hG, hl⟩ := hr.loc gen hr.le (Nat.le_refl _)
  exact ⟨G, hG, hl, hr.last G hG⟩

theorem map_not_cells {w : World} {m : Nat} {es : Array MapEntry} {cl o : Nat} (h : w.heap[m]? = some (.map es cl)) : w.cell? ⟨m, o, none⟩ = none := by
  simp [World.cell?, h]

/-- What is left of the relation where only cells of one row's block turn: everything but that row. -/
theorem WRel.others {C : Mem} {w0 : World} {E E' : Emb} {H : Heap} {w w' : World} {S : Nat → Nat → Prop} (h : WRel C w0 E H w) (hc : Chg w w' S) (hE : E.le E') {b : Nat} {G : Loc} {g0 : Nat} (hG : E.loc b g0 = some G)
    (hbase : w0.heap.size ≤ G.blk) (hS : ∀ x o, S x o → x = G.blk ∧ (w.cell? ⟨x, o, none⟩).isSome = true) :
    Below w0.heap.size w0 w' ∧ (∀ x o v, C x o = some v → x < w'.heap.size ∧ w'.cell? ⟨x, o, none⟩ = some v) ∧
    (∀ c ty esz els gen wgen, c ≠ b → H.blk c = some (.row ty esz els gen wgen) → RowOk C E' w' w0.heap.size c esz els gen wgen) ∧
    (∀ c es cl, H.blk c = some (.map es cl) → ∃ m es', E'.mloc c = some m ∧ w0.heap.size ≤ m ∧ w'.heap[m]? = some (.map es' cl) ∧ RepK C E' es es'.toList) := by
  refine ⟨below_chg h.below hc (fun x o hs => by rw [(hS x o hs).1]; exact hbase), fun x o v hv => ?_, fun c ty esz els gen wgen hne hb => ?_, fun c es cl hb => ?_⟩
  · obtain ⟨h1, h2⟩ := h.mem x o v hv
    refine ⟨Nat.lt_of_lt_of_le h1 hc.size, ?_⟩
    rw [hc.cell x o h1 (fun hs => h.memsep b g0 G o v hG (by rw [← (hS x o hs).1]; exact hv))]
    exact h2
  · refine (h.row _ _ _ _ _ _ hb).chg hc hE (fun g L _ _ hL o _ _ hs => hne ?_)
    exact h.sep _ _ _ _ _ _ hL hG (hS _ _ hs).1
  · obtain ⟨m, es', h1, h2, h3, h4⟩ := h.map c es cl hb
    refine ⟨m, es', hE.2 _ _ h1, h2, ?_, h4.mono (Mem.le_refl _) hE⟩
    rw [hc.block m (h.mdom c m h1).2 (fun o hs => ?_)]
    · exact h3
    · have := (hS m o hs).2
      rw [map_not_cells h3] at this
      cases this

/-- A row's newest generation is written. -/
theorem WRel.write {C : Mem} {w0 : World} {E : Emb} {H : Heap} {w w' : World} {S : Nat → Nat → Prop} (h : WRel C w0 E H w) (hc : Chg w w' S) {b : Nat} {ty esz : Nat} {els els' : List (List AV)} {gen wgen : Nat} {G : Loc}
    (hb : H.blk b = some (.row ty esz els gen wgen)) (hG : E.loc b gen = some G) (hS : ∀ x o, S x o → x = G.blk ∧ (w.cell? ⟨x, o, none⟩).isSome = true)
    (hlen : els'.length = els.length) (hl : ∀ cs ∈ els', cs.length = esz)
    (hcell : ∀ i j cs c, G.lo ≤ i → i < G.ext → els'[i]? = some cs → cs[j]? = some c → ∃ v, w'.cell? ⟨G.blk, G.co + (i - G.lo) * esz + j, none⟩ = some v ∧ Rep C E c v) :
    WRel C w0 E (H.set b (.row ty esz els' gen gen)) w' := by
  obtain ⟨G', hG', hlo, hext⟩ := h.newest hb
  rw [hG] at hG'; cases hG'
  obtain ⟨o1, o2, o3, o4⟩ := h.others hc (Emb.le_refl E) hG hlo.base hS
  constructor
  · exact o1
  · exact o2
  · intro c g L hL
    obtain ⟨d1, d2, d3⟩ := h.dom c g L hL
    refine ⟨Heap.set_ne d1, Nat.lt_of_lt_of_le d2 hc.size, fun ty' esz' els'' gen' wgen' hb' => ?_⟩
    by_cases hcb : c = b
    · subst hcb
      rw [Heap.set_same] at hb'; cases hb'
      exact d3 _ _ _ _ _ hb
    · rw [Heap.set_other _ _ _ hcb] at hb'
      exact d3 _ _ _ _ _ hb'
  · exact fun c m hm => ⟨Heap.set_ne (h.mdom c m hm).1, Nat.lt_of_lt_of_le (h.mdom c m hm).2 hc.size⟩
  · intro c ty' esz' els'' gen' wgen' hb'
    by_cases hcb : c = b
    · subst hcb
      rw [Heap.set_same] at hb'; cases hb'
      refine ⟨hl, Nat.le_refl _, fun g h1 h2 => ?_, fun L hL => ?_, fun g L L' h1 h2 hL hL' _ => ?_⟩
      · obtain rfl : g = gen := by omega
        refine ⟨G, hG, hlo.sz, hlo.lo, by rw [hlen]; exact hlo.ext, hlo.base, Nat.lt_of_lt_of_le hlo.lt hc.size, hlo.room, fun o ho => ?_, hcell⟩
        exact ⟨hc.some _ _ hlo.lt (hlo.shape o ho).1, by rw [hc.frozen _ _ hlo.lt]; exact (hlo.shape o ho).2⟩
      · rw [hG] at hL; cases hL; rw [hlen]; exact hext
      · obtain rfl : g = gen := by omega
        rw [hL] at hL'; cases hL'; exact Nat.le_refl _
    · rw [Heap.set_other _ _ _ hcb] at hb'
      exact o3 _ _ _ _ _ _ hcb hb'
  · intro c es cl hb'
    by_cases hcb : c = b
    · subst hcb; rw [Heap.set_same] at hb'; cases hb'
    · rw [Heap.set_other _ _ _ hcb] at hb'
      exact o4 c es cl hb'
  · exact h.sep
  · exact h.msep
  · exact h.memsep

/-- A row grows at its end: in place, or in a block of its own. -/
theorem WRel.grow {C : Mem} {w0 : World} {E : Emb} {H : Heap} {w w' : World} {S : Nat → Nat → Prop} (h : WRel C w0 E H w) (hc : Chg w w' S) {b : Nat} {ty esz : Nat} {els new : List (List AV)} {gen wgen : Nat} {G L : Loc}
    (hb : H.blk b = some (.row ty esz els gen wgen)) (hG : E.loc b gen = some G)
    (hS : ∀ x o, S x o → x = G.blk ∧ (w.cell? ⟨x, o, none⟩).isSome = true ∧ G.co + (G.ext - G.lo) * esz ≤ o)
    (hnew : ∀ cs ∈ new, cs.length = esz)
    (hblk : (L.blk = G.blk ∧ G.co + (G.ext - G.lo) * esz ≤ L.co + (L.ext - L.lo) * esz) ∨ w.heap.size ≤ L.blk)
    (hL : LocOk C E w' w0.heap.size L esz (els ++ new)) (hext : L.ext = (els ++ new).length) :
    E.le (E.set b (gen + 1) L) ∧ WRel C w0 (E.set b (gen + 1) L) (H.set b (.row ty esz (els ++ new) (gen + 1) wgen)) w' := by
  obtain ⟨G', hG', hlo, hGext⟩ := h.newest hb
  rw [hG] at hG'; cases hG'
  have hrow := h.row _ _ _ _ _ _ hb
  have hnone : E.loc b (gen + 1) = none := by
    cases hx : E.loc b (gen + 1) with
    | none => rfl
    | some L' => have := (h.dom _ _ _ hx).2.2 _ _ _ _ _ hb; omega
  have hle := Emb.le_set (L := L) hnone
  refine ⟨hle, ?_⟩
  obtain ⟨o1, o2, o3, o4⟩ := h.others hc hle hG hlo.base (fun x o hs => ⟨(hS x o hs).1, (hS x o hs).2.1⟩)
  have hset : ∀ c g L', (E.set b (gen + 1) L).loc c g = some L' → (c = b ∧ g = gen + 1 ∧ L' = L) ∨ E.loc c g = some L' := fun c g L' hx => by
    simp only [Emb.set] at hx
    split at hx
    · rename_i hh; cases hx; exact .inl ⟨hh.1, hh.2, rfl⟩
    · exact .inr hx
  have hb0 := (h.dom b gen G hG).1
  constructor
  · exact o1
  · exact o2
  · intro c g L' hx
    rcases hset c g L' hx with ⟨rfl, rfl, rfl⟩ | hx
    · refine ⟨Heap.set_ne hb0, hL.lt, fun ty' esz' els'' gen' wgen' hb' => ?_⟩
      rw [Heap.set_same] at hb'; cases hb'
      exact Nat.le_refl _
    · obtain ⟨d1, d2, d3⟩ := h.dom c g L' hx
      refine ⟨Heap.set_ne d1, Nat.lt_of_lt_of_le d2 hc.size, fun ty' esz' els'' gen' wgen' hb' => ?_⟩
      by_cases hcb : c = b
      · subst hcb
        rw [Heap.set_same] at hb'; cases hb'
        have := d3 _ _ _ _ _ hb
        omega
      · rw [Heap.set_other _ _ _ hcb] at hb'
        exact d3 _ _ _ _ _ hb'
  · exact fun c m hm => ⟨Heap.set_ne (h.mdom c m hm).1, Nat.lt_of_lt_of_le (h.mdom c m hm).2 hc.size⟩
  · intro c ty' esz' els'' gen' wgen' hb'
    by_cases hcb : c = b
    · subst hcb
      rw [Heap.set_same] at hb'; cases hb'
      have hold : ∀ g, wgen ≤ g → g ≤ gen → ∃ L', E.loc c g = some L' ∧ LocOk C (E.set c (gen + 1) L) w' w0.heap.size L' esz (els ++ new) := fun g h1 h2 => by
        obtain ⟨L', hL', hl'⟩ := hrow.loc g h1 h2
        refine ⟨L', hL', (hl'.chg hc hle (fun o ho1 ho2 hs => ?_) hrow.len).append new⟩
        have hs' := hS _ _ hs
        have := hrow.ends g L' G h1 h2 hL' hG hs'.1
        omega
      refine ⟨fun cs hcs => ?_, by have := hrow.le; omega, fun g h1 h2 => ?_, fun L' hL' => ?_, fun g L1 L2 h1 h2 hL1 hL2 h12 => ?_⟩
      · rcases List.mem_append.1 hcs with hcs | hcs
        · exact hrow.len cs hcs
        · exact hnew cs hcs
      · by_cases hg : g = gen + 1
        · subst hg
          exact ⟨L, Emb.set_same _ _ _ _, hL.chg (Chg.refl w' (fun _ _ => False)) hle (fun _ _ _ hf => hf) (fun cs hcs => by
            rcases List.mem_append.1 hcs with hcs | hcs
            · exact hrow.len cs hcs
            · exact hnew cs hcs)⟩
        · obtain ⟨L', hL', hl'⟩ := hold g h1 (by omega)
          exact ⟨L', hle.1 _ _ _ hL', hl'⟩
      · rw [Emb.set_same] at hL'; cases hL'; exact hext
      · rw [Emb.set_same] at hL2; cases hL2
        by_cases hg : g = gen + 1
        · subst hg; rw [Emb.set_same] at hL1; cases hL1; exact Nat.le_refl _
        · rcases hset _ _ _ hL1 with ⟨_, hh, _⟩ | hL1'
          · exact absurd hh hg
          · rcases hblk with ⟨e1, e2⟩ | hge
            · have := hrow.ends g L1 G h1 (by omega) hL1' hG (by rw [h12, e1])
              omega
            · have := (h.dom _ _ _ hL1').2.1
              omega
    · rw [Heap.set_other _ _ _ hcb] at hb'
      exact o3 _ _ _ _ _ _ hcb hb'
  · intro c es cl hb'
    by_cases hcb : c = b
    · subst hcb; rw [Heap.set_same] at hb'; cases hb'
    · rw [Heap.set_other _ _ _ hcb] at hb'
      exact o4 c es cl hb'
  · intro c g L1 c' g' L2 hx hy hxy
    rcases hset c g L1 hx with ⟨rfl, rfl, rfl⟩ | hx' <;> rcases hset c' g' L2 hy with ⟨rfl, rfl, rfl⟩ | hy'
    · rfl
    · rcases hblk with ⟨e1, _⟩ | hge
      · exact h.sep _ _ _ _ _ _ hG hy' (by rw [← e1, hxy])
      · have := (h.dom _ _ _ hy').2.1; omega
    · rcases hblk with ⟨e1, _⟩ | hge
      · exact h.sep _ _ _ _ _ _ hx' hG (by rw [hxy, e1])
      · have := (h.dom _ _ _ hx').2.1; omega
    · exact h.sep _ _ _ _ _ _ hx' hy' hxy
  · exact h.msep
  · intro c g L' o v hx hv
    rcases hset c g L' hx with ⟨rfl, rfl, rfl⟩ | hx
    · rcases hblk with ⟨e1, _⟩ | hge
      · exact h.memsep _ _ _ _ _ hG (e1 ▸ hv)
      · have := (h.mem _ _ _ hv).1; omega
    · exact h.memsep _ _ _ _ _ hx hv

/-! ### Reading -/

/-- These values, in these cells. -/
theorem choose_cells {C : Mem} {E : Emb} {w : World} {blk : Nat} : ∀ (as : List AV) (off : Nat), (∀ j c, as[j]? = some c → ∃ v, w.cell? ⟨blk, off + j, none⟩ = some v ∧ Rep C E c v) →
    ∃ vs, RepL C E as vs ∧ ∀ j v, vs[j]? = some v → w.cell? ⟨blk, off + j, none⟩ = some v
  | [], _, _ => ⟨[], .nil, fun j v h => by simp at h⟩
  | a :: as, off, h => by
    obtain ⟨v, hv, hr⟩ := h 0 a (by simp)
    obtain ⟨vs, h1, h2⟩ := choose_cells as (off + 1) (fun j c hj => by
      obtain ⟨u, hu, hr⟩ := h (j + 1) c (by simpa using hj)
      exact ⟨u, by rw [show off + 1 + j = off + (j + 1) by omega]; exact hu, hr⟩)
    refine ⟨v :: vs, .cons a v as vs hr h1, fun j u hj => ?_⟩
    cases j with
    | zero => simp at hj; subst hj; exact hv
    | succ j => rw [show off + (j + 1) = off + 1 + j by omega]; exact h2 j u (by simpa using hj)

theorem RepL.length {C : Mem} {E : Emb} : ∀ {as : List AV} {vs : List Value}, RepL C E as vs → vs.length = as.length
  | _, _, .nil => rfl
  | _, _, .cons _ _ _ _ _ h => by simp [RepL.length h]

theorem RepL.get {C : Mem} {E : Emb} : ∀ {as : List AV} {vs : List Value}, RepL C E as vs → ∀ (j : Nat) (a : AV), as[j]? = some a → ∃ v, vs[j]? = some v ∧ Rep C E a v
  | _, _, .nil, j, a, h => by simp at h
  | _, _, .cons b v as vs h h', 0, a, e => by simp at e; subst e; exact ⟨v, rfl, h⟩
  | _, _, .cons b v as vs h h', j + 1, a, e => by simpa using RepL.get h' j a (by simpa using e)

theorem RepL.of_get {C : Mem} {E : Emb} : ∀ {as : List AV} {vs : List Value}, vs.length = as.length → (∀ (j : Nat) a v, as[j]? = some a → vs[j]? = some v → Rep C E a v) → RepL C E as vs
  | [], [], _, _ => .nil
  | a :: as, v :: vs, hl, h => .cons a v as vs (h 0 a v rfl rfl) (RepL.of_get (by simpa using hl) (fun j x y hx hy => h (j + 1) x y (by simpa using hx) (by simpa using hy)))

theorem RepM.get {C : Mem} {E : Emb} : ∀ {blk co : Nat} {as : List AV}, RepM C E blk co as → ∀ (j : Nat) (a : AV), as[j]? = some a → ∃ v, C blk (co + j) = some v ∧ Rep C E a v
  | _, _, _, .nil _ _, j, a, h => by simp at h
  | _, _, _, .cons blk co b as v hv h h', 0, a, e => by simp at e; subst e; exact ⟨v, hv, h⟩
  | _, _, _, .cons blk co b as v hv h h', j + 1, a, e => by
    obtain ⟨u, hu, hr⟩ := RepM.get h' j a (by simpa using e)
    exact ⟨u, by rw [show co + (j + 1) = co + 1 + j by omega]; exact hu, hr⟩

theorem RepE.get {C : Mem} {E : Emb} : ∀ {blk co sz : Nat} {es : List (List AV)}, RepE C E blk co sz es → ∀ (i : Nat) (cs : List AV), es[i]? = some cs → cs.length = sz ∧ RepM C E blk (co + i * sz) cs
  | _, _, _, _, .nil _ _ _, i, cs, h => by simp at h
  | _, _, _, _, .cons blk co sz c es hl h h', 0, cs, e => by simp at e; subst e; exact ⟨hl, by simpa using h⟩
  | _, _, _, _, .cons blk co sz c es hl h h', i + 1, cs, e => by
    obtain ⟨h1, h2⟩ := RepE.get h' i cs (by simpa using e)
    refine ⟨h1, ?_⟩
    rw [show co + (i + 1) * sz = co + sz + i * sz by rw [Nat.add_mul]; omega]
    exact h2

end Go.Ev
end
section
namespace Go.Ev

/-! ### What the operations do, on abstract values -/

def avCell : Value → AV
  | .bool b => .bool b
  | .int k n => .int k n
  | .string s => .str (strOf s)
  | .pointer none => .nilptr
  | .slice none 0 0 => .nilslice
  | .map none => .nilMap
  | .nilFunc => .nilFunc
  | .nilIface => .nilIface
  | .func f xs ys => if xs.size = 0 ∧ ys.size = 0 then .func f [] [] else .undef
  | _ => .undef

def avOf : Value → AV
  | .agg cs => .agg (cs.toList.map avCell)
  | .tuple cs => .tuple (cs.toList.map avCell)
  | v => avCell v

def AV.isUndef : AV → Bool
  | .undef => true
  | _ => false


/-- A value that its abstract value tells in full. -/
def valCell : AV → Option Value
  | .int k n => some (.int k n)
  | .bool b => some (.bool b)
  | _ => none
def valCells : List AV → Option (List Value)
  | [] => some []
  | a :: l => match valCell a, valCells l with | some v, some vs => some (v :: vs) | _, _ => none
def valOf : AV → Option Value
  | .agg cs => (valCells cs).map fun vs => .agg vs.toArray
  | _ => none

def eqCell : AV → AV → Bool
  | .int k n, .int k' m => decide (k = k') && decide (n = m)
  | .bool a, .bool b => a == b
  | _, _ => false
def eqCells : List AV → List AV → Bool
  | [], [] => true
  | a :: l, b :: m => eqCell a b && eqCells l m
  | _, _ => false
def eqKey : AV → AV → Bool
  | .agg xs, .agg ys => eqCells xs ys
  | _, _ => false


def isAggD : TypeDesc → Bool
  | .struct _ | .array _ _ => true
  | _ => false

section
variable (P : Program)

def szOf (t : TypeId) : Option Nat := (P.info? t).map (·.size)
def bytesOf (t : TypeId) : Option Nat := (P.info? t).map (·.bytes)
def aggOf (t : TypeId) : Option Bool := (P.underlying t).map isAggD
def zeroOf (t : TypeId) : Option AV := (P.info? t).bind fun i => i.zero.map avOf
def elemOfSlice (t : TypeId) : Option TypeId := match P.underlying t with | some (.slice e) => some e | _ => none
def fieldOf (t : TypeId) (f : Nat) : Option Field := match P.underlying t with | some (.struct fs) => fs[f]? | _ => none

/-- A part of an aggregate's cells as a value of type t. -/
def partOf (t : TypeId) (cs : List AV) (off : Nat) : Option AV :=
  match aggOf P t, szOf P t with
  | some true, some n => if off + n ≤ cs.length then some (.agg ((cs.drop off).take n)) else none
  | some false, _ => cs[off]?
  | _, _ => none

def Heap.load (H : Heap) (a : AV) (n : Nat) : Option (List AV) :=
  match a with
  | .iptr cs o => if o + n ≤ cs.length then some ((cs.drop o).take n) else none
  | .ptr b i o g =>
    match H.blk b with
    | some (.row _ esz els _ wgen) =>
      if wgen ≤ g ∧ o + n ≤ esz then
        match els[i]? with
        | some cs => some ((cs.drop o).take n)
        | none => none
      else none
    | _ => none
  | _ => none

def splice (cs : List AV) (o : Nat) (vs : List AV) : List AV := cs.take o ++ vs ++ cs.drop (o + vs.length)

def Heap.store (H : Heap) (a : AV) (vs : List AV) : Option Heap :=
  match a with
  | .ptr b i o g =>
    match H.blk b with
    | some (.row ty esz els gen _) =>
      if g = gen ∧ o + vs.length ≤ esz ∧ vs.all AV.isCell = true then
        match els[i]? with
        | some cs => some (H.set b (.row ty esz (els.set i (splice cs o vs)) gen gen))
        | none => none
      else none
    | _ => none
  | _ => none

/-- The first n elements of a slice (or the bytes of a string). -/
def Heap.elems (H : Heap) (esz n : Nat) (a : AV) : Option (List (List AV)) :=
  match a with
  | .nilslice => if n = 0 then some [] else none
  | .eslice => if n = 0 then some [] else none
  | .slice b off len _ _ g =>
    match H.blk b with
    | some (.row _ sz els _ wgen) => if wgen ≤ g ∧ sz = esz ∧ n ≤ len then some ((els.drop off).take n) else none
    | _ => none
  | .lst sz es => if sz = esz ∧ n ≤ es.length then some (es.take n) else none
  | .str s => if esz = 1 ∧ n ≤ s.length then some ((s.take n).map fun (c : Nat) => [AV.int .u8 (c : Int)]) else none
  | _ => none

def AV.len? : AV → Option Nat
  | .nilslice => some 0
  | .eslice => some 0
  | .slice _ _ len _ _ _ => some len
  | .lst _ es => some es.length
  | .str s => some s.length
  | _ => none

def setAll (els : List (List AV)) (i : Nat) (new : List (List AV)) : List (List AV) := els.take i ++ new ++ els.drop (i + new.length)

def maxBytes : Nat := 140737488355328

def Heap.append (H : Heap) (e : TypeId) (esz bytes : Nat) (s : AV) (new : List (List AV)) : Option (AV × Heap) :=
  if new.all (fun cs => cs.all AV.isCell) = true then
    match s with
    | .nilslice => if new.length = 0 then some (.nilslice, H) else
        if new.length * bytes ≤ maxBytes ∧ new.length ≤ maxBytes then some (.slice H.next 0 new.length new.length false 0, H.push (.row e esz new 0 0)) else none
    | .eslice => if new.length = 0 then some (.eslice, H) else
        if new.length * bytes ≤ maxBytes ∧ new.length ≤ maxBytes then some (.slice H.next 0 new.length new.length false 0, H.push (.row e esz new 0 0)) else none
    | .lst sz es => if new.length = 0 then some (.lst sz es, H) else none
    | .slice b off len cap ex g =>
      if new.length = 0 then some (s, H) else
      match H.blk b with
      | some (.row ty sz els gen wgen) =>
        if wgen ≤ g ∧ sz = esz ∧ (len + new.length) * bytes ≤ maxBytes ∧ len + new.length ≤ maxBytes then
          if len + new.length ≤ cap then
            if g = gen then some (.slice b off (len + new.length) cap ex g, H.set b (.row ty sz (setAll els (off + len) new) gen gen)) else none
          else if ex then some (.slice H.next 0 (len + new.length) (len + new.length) false 0, H.push (.row e esz ((els.drop off).take len ++ new) 0 0))
          else if g = gen ∧ off + len = els.length then some (.slice b off (len + new.length) (len + new.length) false (gen + 1), H.set b (.row ty sz (els ++ new) (gen + 1) wgen))
          else none
        else none
      | _ => none
    | _ => none
  else none

/-- '==' of the fields of two structs. -/
def eqFields (rec : TypeId → AV → AV → Option Bool) (xs ys : List AV) : List Field → Option Bool
  | [] => some true
  | f :: fs =>
    if f.name = "_" then eqFields rec xs ys fs else
    match partOf P f.type xs f.offset, partOf P f.type ys f.offset with
    | some a, some b =>
      match rec f.type a b with
      | some true => eqFields rec xs ys fs
      | some false => some false
      | none => none
    | _, _ => none

/-- '==' -/
def eqA : Nat → TypeId → AV → AV → Option Bool
  | 0, _, _, _ => none
  | d + 1, t, x, y =>
    match P.underlying t, x, y with
    | some .bool, .bool a, .bool b => some (a == b)
    | some (.int _), .int k a, .int k' b => if k = k' then some (a == b) else none
    | some .string, .str a, .str b => some (a == b)
    | some (.pointer _), .nilptr, .nilptr => some true
    | some (.pointer _), .nilptr, .ptr .. | some (.pointer _), .nilptr, .iptr .. | some (.pointer _), .ptr .., .nilptr | some (.pointer _), .iptr .., .nilptr => some false
    | some (.interface _), .nilIface, .nilIface => some true
    | some (.interface _), .nilIface, .iface .. | some (.interface _), .iface .., .nilIface => some false
    | some (.slice _), .nilslice, .nilslice => some true
    | some (.slice _), .nilslice, .eslice | some (.slice _), .nilslice, .slice .. | some (.slice _), .nilslice, .lst .. => some false
    | some (.slice _), .eslice, .nilslice | some (.slice _), .slice .., .nilslice | some (.slice _), .lst .., .nilslice => some false
    | some (.map _ _), .nilMap, .nilMap => some true
    | some (.map _ _), .nilMap, .map _ | some (.map _ _), .map _, .nilMap => some false
    | some (.func ..), .nilFunc, .nilFunc => some true
    | some (.func ..), .nilFunc, .func .. | some (.func ..), .func .., .nilFunc => some false
    | some (.struct fs), .agg xs, .agg ys => if P.stoodInHeld t then none else eqFields P (eqA d) xs ys fs.toList
    | _, _, _ => none

def lessA : List Nat → List Nat → Bool
  | _, [] => false
  | [], _ :: _ => true
  | a :: x, b :: y => decide (a < b) || (a == b && lessA x y)

def evInt (op : BinOp) (k : IntKind) (a b : Int) : Option AV :=
  match op with
  | .add => some (.int k (k.wrap (a + b)))
  | .sub => some (.int k (k.wrap (a - b)))
  | .mul => some (.int k (k.wrap (a * b)))
  | .quo => if b = 0 then none else some (.int k (k.wrap (a.tdiv b)))
  | .rem => if b = 0 then none else some (.int k (a.tmod b))
  | .and => some (.int k (k.wrap (BitVec.ofInt k.bits a &&& BitVec.ofInt k.bits b).toNat))
  | .or => some (.int k (k.wrap (BitVec.ofInt k.bits a ||| BitVec.ofInt k.bits b).toNat))
  | .xor => some (.int k (k.wrap (BitVec.ofInt k.bits a ^^^ BitVec.ofInt k.bits b).toNat))
  | .eql => some (.bool (a == b))
  | .neq => some (.bool (a != b))
  | .lss => some (.bool (decide (a < b)))
  | .leq => some (.bool (decide (a ≤ b)))
  | .gtr => some (.bool (decide (a > b)))
  | .geq => some (.bool (decide (a ≥ b)))
  | _ => none

def evStr (op : BinOp) (a b : List Nat) : Option AV :=
  match op with
  | .add => if a.length + b.length ≤ maxBytes then some (.str (a ++ b)) else none
  | .eql => some (.bool (a == b))
  | .neq => some (.bool (!(a == b)))
  | .lss => some (.bool (lessA a b))
  | .leq => some (.bool (lessA a b || a == b))
  | .gtr => some (.bool (!(lessA a b || a == b)))
  | .geq => some (.bool (!(lessA a b)))
  | _ => none

def eqOk (op : BinOp) (t : TypeId) (x y : Operand) (a b : AV) : Bool :=
  match a, b with
  | .nilIface, .nilIface => (match x with | .const _ => true | _ => false) || (match y with | .const _ => true | _ => false)
  | .agg _, .agg _ => !(P.eqGuardType P.depth t)
  | _, _ => true

def evBin (op : BinOp) (t : TypeId) (x y : Operand) (a b : AV) : Option AV :=
  match op, a, b with
  | .shl, .int k m, .int _ n => if n < 0 then none else some (.int k (k.wrap (m * 2 ^ (min n.toNat k.bits))))
  | .shr, .int k m, .int _ n => if n < 0 then none else some (.int k (m.fdiv (2 ^ (min n.toNat k.bits))))
  | op, .int k m, .int k' n => if k = k' then evInt op k m n else none
  | op, .str m, .str n => evStr op m n
  | .eql, a, b => if eqOk P op t x y a b then (eqA P 10000 t a b).map .bool else none
  | .neq, a, b => if eqOk P op t x y a b then (eqA P 10000 t a b).map fun r => .bool (!r) else none
  | _, _, _ => none

def evUn (op : UnOp) (x : AV) : Option AV :=
  match op, x with
  | .neg, .int k n => some (.int k (k.wrap (0 - n)))
  | .xor, .int k n => some (.int k (k.wrap (BitVec.ofInt k.bits (if k.signed then -1 else k.max) ^^^ BitVec.ofInt k.bits n).toNat))
  | .not, .bool b => some (.bool (!b))
  | _, _ => none

def isIfaceD : TypeDesc → Bool
  | .interface _ => true
  | _ => false

def AV.int? : AV → Option Int
  | .int _ n => some n
  | _ => none

/-- The bounds of a slice expression: low, high, max (present: cap known). -/
def boundsOk (l h m : Int) : Bool := decide (0 ≤ l) && decide (l ≤ h) && decide (h ≤ m)

def optInt (ρ : Operand → AV) : Option Operand → Option (Option Int)
  | none => some none
  | some x => match ρ x with | .int _ n => some (some n) | _ => none

/-- The row behind a slice, where its generation still counts: how many cells an element has. -/
def Heap.eszOf (H : Heap) (b g : Nat) : Option Nat :=
  match H.blk b with
  | some (.row _ esz _ _ wgen) => if wgen ≤ g then some esz else none
  | _ => none

def evSlice (H : Heap) (t : TypeId) (a : AV) (lo hi mx : Option Int) : Option AV :=
  let l := lo.getD 0
  match P.underlying t, a, mx with
  | some .string, .str s, none =>
    let h := hi.getD s.length
    if boundsOk l h s.length then some (.str ((s.drop l.toNat).take (h - l).toNat)) else none
  | some (.slice e), .nilslice, none => if boundsOk l (hi.getD 0) 0 && (szOf P e).isSome then some .nilslice else none
  | some (.slice e), .nilslice, some m =>
    match hi with
    | some h => if boundsOk l h m && decide (m ≤ 0) && (szOf P e).isSome then some .nilslice else none
    | none => none
  | some (.slice e), .eslice, none => if boundsOk l (hi.getD 0) 0 && (szOf P e).isSome then some .eslice else none
  | some (.slice e), .lst sz es, none =>
    let h := hi.getD es.length
    if boundsOk l h es.length && decide (szOf P e = some sz) then some (.lst sz ((es.drop l.toNat).take (h - l).toNat)) else none
  | some (.slice e), .lst sz es, some m =>
    match hi with
    | some h => if boundsOk l h m && decide (m ≤ es.length) && decide (l = m) && decide (szOf P e = some sz) then some .eslice else none
    | none => none
  | some (.slice e), .slice b off len cap ex g, none =>
    let h := hi.getD len
    if boundsOk l h cap && decide ((szOf P e).isSome ∧ szOf P e = H.eszOf b g) then some (.slice b (off + l.toNat) (h - l).toNat (cap - l.toNat) ex g) else none
  | some (.slice e), .slice b off _ cap _ g, some m =>
    match hi with
    | some h => if boundsOk l h m && decide (m ≤ cap) && decide ((szOf P e).isSome ∧ szOf P e = H.eszOf b g) then (if l = m then some .eslice else some (.slice b (off + l.toNat) (h - l).toNat (m - l).toNat true g)) else none
    | none => none
  | _, _, _ => none

def evIndexAddr (H : Heap) (t : TypeId) (a i : AV) : Option AV :=
  match i with
  | .int _ n =>
    match P.underlying t, a with
    | some (.slice e), .slice b off len _ _ g => if 0 ≤ n ∧ n < (len : Int) ∧ szOf P e = H.eszOf b g then (szOf P e).map fun _ => .ptr b (off + n.toNat) 0 g else none
    | some (.slice e), .lst sz es => if 0 ≤ n ∧ szOf P e = some sz then (es[n.toNat]?).map fun cs => .iptr cs 0 else none
    | _, _ => none
  | _ => none

def evIndex (t : TypeId) (a i : AV) : Option AV :=
  match i with
  | .int _ n =>
    match P.underlying t, a with
    | some .string, .str s => if 0 ≤ n then (s[n.toNat]?).map fun (c : Nat) => .int .u8 (c : Int) else none
    | some (.array len e), .agg cs => if 0 ≤ n ∧ n < (len : Int) then (szOf P e).bind fun sz => partOf P e cs (n.toNat * sz) else none
    | _, _ => none
  | _ => none

/-- Some kinds of conversion. -/
def evConvert (s d : TypeId) (x : AV) : Option AV :=
  match P.underlying s, P.underlying d, x with
  | some _, some (.int k), .int _ n => some (.int k (k.wrap n))
  | some _, some .string, .str l => some (.str l)
  | _, _, _ => none

def fillA (place : Nat → Option (Nat × Nat)) (cells : List AV) : List (Nat × AV) → Option (List AV)
  | [] => some cells
  | (i, v) :: rest =>
    match place i with
    | none => none
    | some (off, size) =>
      if v.isUndef = false ∧ v.cells.length = size ∧ off + size ≤ cells.length then fillA place (splice cells off v.cells) rest else none

def evBuild (t : TypeId) (parts : List (Nat × AV)) : Option AV :=
  match zeroOf P t, P.underlying t with
  | some z, some (.struct fs) =>
    if z.isUndef then none else
    if fs.all (fun f => (szOf P f.type).isSome) then
      (fillA (fun i => (fs[i]?).bind fun f => (szOf P f.type).map fun s => (f.offset, s)) z.cells parts).map .agg
    else none
  | some z, some (.array _ e) =>
    if z.isUndef then none else
    (szOf P e).bind fun s => (fillA (fun i => some (i * s, s)) z.cells parts).map .agg
  | _, _ => none

def fillE (esz : Nat) (els : List (List AV)) : List (Nat × AV) → Option (List (List AV))
  | [] => some els
  | (i, v) :: rest => if v.isUndef = false ∧ v.cells.length = esz ∧ i < els.length then fillE esz (els.set i v.cells) rest else none

def evBuildSlice (H : Heap) (t : TypeId) (len : Nat) (parts : List (Nat × AV)) : Option (AV × Heap) :=
  (elemOfSlice P t).bind fun e =>
  match szOf P e, zeroOf P e with
  | some s, some z =>
    if len * s ≤ 2 ^ 24 ∧ z.isUndef = false ∧ z.cells.length = s then
      (fillE s (List.replicate len z.cells) parts).map fun els => (.slice H.next 0 len len true 0, H.push (.row e s els 0 0))
    else none
  | _, _ => none

def evMakeSlice (H : Heap) (t : TypeId) (l c : AV) : Option (AV × Heap) :=
  (elemOfSlice P t).bind fun e =>
  match P.info? e, zeroOf P e, l, c with
  | some i, some z, .int _ l, .int _ c =>
    if 0 ≤ l ∧ l ≤ c ∧ c ≤ 9223372036854775807 ∧ i.bytes * c ≤ 140737488355328 ∧ z.isUndef = false ∧ z.cells.length = i.size then
      some (.slice H.next 0 l.toNat c.toNat true 0, H.push (.row e i.size (List.replicate c.toNat z.cells) 0 0))
    else none
  | _, _, _, _ => none

/-! ### Maps whose keys are strings -/

def isStrT (t : TypeId) : Bool := match P.underlying t with | some .string => true | _ => false

/-- The place of a key among a map's entries, its value and its stamp. -/
def findK (l : List Nat) : List (AV × AV × Nat) → Nat → Option (Option (Nat × AV × Nat))
  | [], _ => some none
  | (.str k, x, n) :: es, i => if l = k then some (some (i, x, n)) else findK l es (i + 1)
  | _ :: _, _ => none

def evLookup (H : Heap) (t : TypeId) (m k : AV) (ok : Bool) : Option AV :=
  match P.underlying t, k with
  | some (.map kt et), .str l =>
    if isStrT P kt = true then
      match m with
      | .nilMap => (zeroOf P et).map fun z => if ok = true then .tuple [z, .bool false] else z
      | .map b =>
        match H.blk b with
        | some (.map es _) =>
          match findK l es 0 with
          | some (some (_, v, _)) => some (if ok = true then .tuple [v, .bool true] else v)
          | some none => (zeroOf P et).map fun z => if ok = true then .tuple [z, .bool false] else z
          | none => none
        | _ => none
      | _ => none
    else none
  | _, _ => none

def evMapUpdate (H : Heap) (t : TypeId) (m k x : AV) : Option Heap :=
  match P.underlying t, k, m with
  | some (.map kt _), .str l, .map b =>
    if isStrT P kt = true then
      match H.blk b with
      | some (.map es cl) =>
        match findK l es 0 with
        | some (some (i, _, n)) => some (H.set b (.map (es.set i (.str l, x, n)) cl))
        | some none => some (H.set b (.map (es ++ [(.str l, x, cl)]) (cl + 1)))
        | none => none
      | _ => none
    else none
  | _, _, _ => none

/-! Maps whose keys are structs of numbers and truth values. -/

/-- A key that a map of this key type takes. -/
def keyOk (kt : TypeId) (a : AV) : Option Value :=
  match valOf a with
  | some v => if (keyOf P kt v).isSome then some v else none
  | none => none

def wideK (kt : TypeId) : Bool := P.keyTypeAt 100 kt && P.tiled 100 kt && (match P.underlying kt with | some (.array _ _) | some (.struct _) => true | _ => false)

def findW (key : AV) : List (AV × AV × Nat) → Nat → Option (Nat × AV × Nat)
  | [], _ => none
  | (k, x, n) :: es, i => if eqKey k key = true then some (i, x, n) else findW key es (i + 1)

/-- The key occurs once at most. -/
def oneW (key : AV) : List (AV × AV × Nat) → Bool
  | [] => true
  | e :: es => if eqKey e.1 key = true then es.all (fun e => !eqKey e.1 key) else oneW key es

def evLookupW (H : Heap) (t : TypeId) (m k : AV) (ok : Bool) : Option AV :=
  match P.underlying t with
  | some (.map kt et) =>
    if wideK P kt = true ∧ (keyOk P kt k).isSome then
      match m with
      | .nilMap => (zeroOf P et).map fun z => if ok = true then .tuple [z, .bool false] else z
      | .map b =>
        match H.blk b with
        | some (.map es _) =>
          if es.all (fun e => (keyOk P kt e.1).isSome) = true ∧ oneW k es = true then
            match findW k es 0 with
            | some (_, v, _) => some (if ok = true then .tuple [v, .bool true] else v)
            | none => (zeroOf P et).map fun z => if ok = true then .tuple [z, .bool false] else z
          else none
        | _ => none
      | _ => none
    else none
  | _ => none

def evMapUpdateW (H : Heap) (t : TypeId) (m k x : AV) : Option Heap :=
  match P.underlying t, m with
  | some (.map kt _), .map b =>
    if wideK P kt = true ∧ (keyOk P kt k).isSome then
      match H.blk b with
      | some (.map es cl) =>
        if es.all (fun e => (keyOk P kt e.1).isSome) = true ∧ oneW k es = true then
          match findW k es 0 with
          | some (i, _, n) => some (H.set b (.map (es.set i (k, x, n)) cl))
          | none => some (H.set b (.map (es ++ [(k, x, cl)]) (cl + 1)))
        else none
      | _ => none
    else none
  | _, _ => none

/-- A map, read; or written: by the kind of the key. -/
def evLook (H : Heap) (t : TypeId) (m k : AV) (ok : Bool) : Option AV := match k with | .agg _ => evLookupW P H t m k ok | _ => evLookup P H t m k ok
def evMapUpd (H : Heap) (t : TypeId) (m k x : AV) : Option Heap := match k with | .agg _ => evMapUpdateW P H t m k x | _ => evMapUpdate P H t m k x

def evDelete (H : Heap) (ts : Array TypeId) (m k : AV) : Option (AV × Heap) :=
  match (ts[0]?).bind P.underlying, k, m with
  | some (.map kt _), .str l, .map b =>
    if isStrT P kt = true then
      match H.blk b with
      | some (.map es cl) =>
        match findK l es 0 with
        | some (some (i, _, _)) => some (.tuple [], H.set b (.map (es.eraseIdx i) cl))
        | some none => some (.tuple [], H.set b (.map es cl))
        | none => none
      | _ => none
    else none
  | _, _, _ => none

def evClear (H : Heap) (ts : Array TypeId) (x : AV) : Option (AV × Heap) :=
  match (ts[0]?).bind P.underlying, x with
  | some (.map _ _), .map b => (match H.blk b with | some (.map _ cl) => some (.tuple [], H.set b (.map [] cl)) | _ => none)
  | some (.slice _), .nilslice => some (.tuple [], H)
  | some (.slice _), .eslice => some (.tuple [], H)
  | some (.slice e), .slice b off len _ _ g =>
    if len = 0 then some (.tuple [], H) else
    match szOf P e, zeroOf P e, H.blk b with
    | some s, some z, some (.row ty sz els gen _) =>
      if g = gen ∧ sz = s ∧ z.isUndef = false ∧ z.cells.length = s ∧ z.cells.all AV.isCell = true ∧ off + len ≤ els.length then some (.tuple [], H.set b (.row ty sz (setAll els off (List.replicate len z.cells)) gen gen)) else none
    | _, _, _ => none
  | _, _ => none

/-- The bytes of a slice, as a string. -/
def bytesOfCells : List (List AV) → Option (List Nat)
  | [] => some []
  | [.int .u8 n] :: r => if 0 ≤ n ∧ n < 256 then (bytesOfCells r).map (n.toNat :: ·) else none
  | _ :: _ => none

def evBytes (H : Heap) (s d : TypeId) (x : AV) : Option AV :=
  match P.underlying s, P.underlying d with
  | some (.slice e), some .string =>
    match P.underlying e, x with
    | some (.int .u8), .slice _ _ len _ _ _ => ((H.elems 1 len x).bind bytesOfCells).map .str
    | _, _ => none
  | _, _ => none

/-- Text to bytes: a new row. -/
def isTextT (s d : TypeId) : Bool := match P.underlying s, P.underlying d with | some .string, some (.slice _) => true | _, _ => false
def evText (H : Heap) (d : TypeId) (x : AV) : Option (AV × Heap) :=
  match P.underlying d, x with
  | some (.slice e), .str l =>
    match P.underlying e with
    | some (.int .u8) => some (.slice H.next 0 l.length l.length false 0, H.push (.row e 1 (l.map fun (c : Nat) => [AV.int .u8 (c : Int)]) 0 0))
    | _ => none
  | _, _ => none

def evBuiltin (H : Heap) (b : Builtin) (ts : Array TypeId) (args : List AV) : Option (AV × Heap) :=
  match b, args with
  | .len, [x] =>
    match (ts[0]?).bind P.underlying, x with
    | some .string, .str s => some (.int .i64 s.length, H)
    | some (.slice _), .nilslice => some (.int .i64 0, H)
    | some (.slice _), .eslice => some (.int .i64 0, H)
    | some (.slice _), .slice _ _ n _ _ _ => some (.int .i64 n, H)
    | some (.slice _), .lst _ es => some (.int .i64 es.length, H)
    | some (.map _ _), .nilMap => some (.int .i64 0, H)
    | some (.map _ _), .map b => (match H.blk b with | some (.map es _) => some (.int .i64 es.length, H) | _ => none)
    | _, _ => none
  | .append, [s, x] =>
    match ts.toList with
    | [t, u] =>
      match elemOfSlice P t, P.underlying u with
      | some e, some d =>
        match P.info? e, d with
        | some _, .int _ => none
        | some i, _ =>
          match i.zero, x.len? with
          | some z, some n => if z.cells.size = i.size ∧ 0 < i.size then (H.elems i.size n x).bind fun new => H.append e i.size i.bytes s new else none
          | _, _ => none
        | _, _ => none
      | _, _ => none
    | _ => none
  | .max, [.int k a, .int k' b] => if k = k' then some (.int k (if b > a then b else a), H) else none
  | .min, [.int k a, .int k' b] => if k = k' then some (.int k (if b < a then b else a), H) else none
  | .delete, [m, k] => evDelete P H ts m k
  | .clear, [x] => evClear P H ts x
  | _, _ => none

def evOp (ρ : Operand → AV) (o : Oper) (H : Heap) : Option (AV × Heap) :=
  match o.op with
  | .move x | .assign x => some (ρ x, H)
  | .pick c a b => (match ρ c with | .bool t => some (if t then ρ a else ρ b, H) | _ => none)
  | .alloc t => (match zeroOf P t with
    | some z => if z.isUndef then none else some (.ptr H.next 0 0 0, H.push (.row t z.cells.length [z.cells] 0 0))
    | none => none)
  | .box t x => if (ρ x).isUndef then none else some (.ptr H.next 0 0 0, H.push (.row t (ρ x).cells.length [(ρ x).cells] 0 0))
  | .build t parts => (evBuild P t (parts.toList.map fun p => (p.1, ρ p.2))).map (·, H)
  | .buildSlice t len parts => evBuildSlice P H t len (parts.toList.map fun p => (p.1, ρ p.2))
  | .load t a => (match aggOf P t, szOf P t with
    | some true, some n => (H.load (ρ a) n).map fun cs => (.agg cs, H)
    | some false, _ => (match H.load (ρ a) 1 with | some [v] => some (v, H) | _ => none)
    | _, _ => none)
  | .store t a x => if (ρ x).isUndef = false ∧ szOf P t = some (ρ x).cells.length then (H.store (ρ a) (ρ x).cells).map fun H' => (.undef, H') else none
  | .binOp op t x y _ => (evBin P op t x y (ρ x) (ρ y)).map (·, H)
  | .unOp op _ x => (evUn op (ρ x)).map (·, H)
  | .convert s d x => if isTextT P s d = true then evText P H d (ρ x) else (match evConvert P s d (ρ x) with | some r => some (r, H) | none => (evBytes P H s d (ρ x)).map (·, H))
  | .makeMap _ none => some (.map H.next, H.push (.map [] 0))
  | .lookup t x k ok => (evLook P H t (ρ x) (ρ k) ok).map (·, H)
  | .mapUpdate t m k x => (evMapUpd P H t (ρ m) (ρ k) (ρ x)).map fun H' => (.undef, H')
  | .makeInterface t x => (match P.underlying t with | some d => if isIfaceD d then none else some (.iface t (ρ x), H) | none => none)
  | .makeFunc fn first captured => some (.func fn (first.toList.map ρ) (captured.toList.map ρ), H)
  | .makeSlice t l c => evMakeSlice P H t (ρ l) (ρ c)
  | .slice t x lo hi mx => (match optInt ρ lo, optInt ρ hi, optInt ρ mx with
    | some l, some h, some m => (evSlice P H t (ρ x) l h m).map (·, H)
    | _, _, _ => none)
  | .fieldAddr s x f => (match fieldOf P s f with
    | some fd => (match szOf P fd.type, ρ x with
      | some n, .ptr b i o g => if n = 0 then none else some (.ptr b i (o + fd.offset) g, H)
      | some n, .iptr cs o => if n = 0 then none else some (.iptr cs (o + fd.offset), H)
      | _, _ => none)
    | none => none)
  | .field s x f => (match fieldOf P s f, ρ x with
    | some fd, .agg cs => (partOf P fd.type cs fd.offset).map (·, H)
    | _, _ => none)
  | .indexAddr t x i => (evIndexAddr P H t (ρ x) (ρ i)).map (·, H)
  | .index t x i => (evIndex P t (ρ x) (ρ i)).map (·, H)
  | .extract t i => (match ρ t with | .tuple vs => (vs[i]?).map (·, H) | _ => none)
  | .nilCheck x => (match ρ x with | .ptr b i o g => some (.ptr b i o g, H) | .iptr cs o => some (.iptr cs o, H) | _ => none)
  | .call { callee := .builtin b, args, argTypes } => evBuiltin P H b argTypes (args.toList.map ρ)
  | _ => none

end
end Go.Ev
end
section
set_option linter.unusedVariables false
set_option linter.unusedSimpArgs false
namespace Go.Ev
section
variable {P : Program} {C : Mem} {E : Emb}

theorem rep_avCell (v : Value) : Rep C E (avCell v) v := by
  unfold avCell
  split
  case h_9 f xs ys =>
    split
    · rename_i h
      obtain ⟨h1, h2⟩ := h
      obtain rfl : xs = #[] := Array.eq_empty_of_size_eq_zero h1
      obtain rfl : ys = #[] := Array.eq_empty_of_size_eq_zero h2
      exact .func f [] [] [] [] .nil .nil
    · exact .undef _
  all_goals first
    | exact .bool _
    | exact .int _ _
    | exact .str _ _ rfl
    | exact .nilptr
    | exact .nilslice
    | exact .nilMap
    | exact .nilFunc
    | exact .nilIface
    | exact .undef _

theorem repL_map_avCell : ∀ l : List Value, RepL C E (l.map avCell) l
  | [] => .nil
  | v :: l => .cons _ v _ l (rep_avCell v) (repL_map_avCell l)

theorem rep_avOf (v : Value) : Rep C E (avOf v) v := by
  unfold avOf
  split
  · rename_i cs; simpa using Rep.agg _ _ (repL_map_avCell (C := C) (E := E) cs.toList)
  · rename_i cs; simpa using Rep.tuple _ _ (repL_map_avCell (C := C) (E := E) cs.toList)
  · exact rep_avCell _

theorem rep_cells {a : AV} {v : Value} (h : Rep C E a v) (hu : a.isUndef = false) : RepL C E a.cells v.cells.toList := by
  cases h
  case agg cs vs h => simpa [AV.cells, Value.cells] using h
  all_goals first
    | (simp [AV.isUndef] at hu; done)
    | (simp only [AV.cells, Value.cells, List.toList_toArray]
       refine .cons _ _ _ _ ?_ .nil
       constructor <;> assumption)

theorem rep_bool {b : Bool} {v : Value} (h : Rep C E (.bool b) v) : v = .bool b := by cases h; rfl
theorem rep_int {k : IntKind} {n : Int} {v : Value} (h : Rep C E (.int k n) v) : v = .int k n := by cases h; rfl
theorem rep_agg {cs : List AV} {v : Value} (h : Rep C E (.agg cs) v) : ∃ vs, v = .agg vs.toArray ∧ RepL C E cs vs := by cases h; exact ⟨_, rfl, by assumption⟩
theorem rep_tuple {cs : List AV} {v : Value} (h : Rep C E (.tuple cs) v) : ∃ vs, v = .tuple vs.toArray ∧ RepL C E cs vs := by cases h; exact ⟨_, rfl, by assumption⟩
theorem rep_str {l : List Nat} {v : Value} (h : Rep C E (.str l) v) : ∃ s, v = .string s ∧ strOf s = l := by cases h; exact ⟨_, rfl, by assumption⟩

theorem repL_take : ∀ {as : List AV} {vs : List Value} (n : Nat), RepL C E as vs → RepL C E (as.take n) (vs.take n)
  | _, _, 0, _ => by simpa using RepL.nil
  | _, _, n + 1, .nil => by simpa using RepL.nil
  | _, _, n + 1, .cons a v as vs h h' => by simpa using RepL.cons a v _ _ h (repL_take n h')
theorem repL_drop : ∀ {as : List AV} {vs : List Value} (n : Nat), RepL C E as vs → RepL C E (as.drop n) (vs.drop n)
  | _, _, 0, h => by simpa using h
  | _, _, n + 1, .nil => by simpa using RepL.nil
  | _, _, n + 1, .cons a v as vs h h' => by simpa using repL_drop n h'
theorem repL_append : ∀ {as bs : List AV} {vs us : List Value}, RepL C E as vs → RepL C E bs us → RepL C E (as ++ bs) (vs ++ us)
  | _, _, _, _, .nil, h => by simpa using h
  | _, _, _, _, .cons a v as vs h h', h2 => by simpa using RepL.cons a v _ _ h (repL_append h' h2)

variable (w : World)

theorem run_isAgg' {t : TypeId} {b : Bool} (h : aggOf P t = some b) : (isAgg t).run P w = .ok b w := by
  unfold aggOf at h
  cases hu : P.underlying t with
  | none => simp [hu] at h
  | some d =>
    simp only [hu, Option.map_some, Option.some.injEq] at h
    subst h
    cases d <;> simp [isAgg, run_underlying hu, isAggD]

theorem run_sizeOf' {t : TypeId} {n : Nat} (h : szOf P t = some n) : (sizeOf t).run P w = .ok n w := by
  unfold szOf at h
  cases hi : P.info? t with
  | none => simp [hi] at h
  | some i => simp [hi] at h; simp [sizeOf, typeInfo, hi, h]

theorem run_zeroValue' {t : TypeId} {z : AV} (h : zeroOf P t = some z) : ∃ v, (zeroValue t).run P w = .ok v w ∧ Rep C E z v := by
  unfold zeroOf at h
  cases hi : P.info? t with
  | none => simp [hi] at h
  | some i =>
    simp only [hi, Option.bind_some] at h
    cases hz : i.zero with
    | none => simp [hz] at h
    | some v =>
      simp only [hz, Option.map_some, Option.some.injEq] at h
      exact ⟨v, by simp [zeroValue, typeInfo, hi, hz], h ▸ rep_avOf v⟩

theorem run_part' {t : TypeId} {cs : List AV} {vs : List Value} {off : Nat} {r : AV} (hr : RepL C E cs vs) (h : partOf P t cs off = some r) : ∃ v, (part t vs.toArray off).run P w = .ok v w ∧ Rep C E r v := by
  unfold partOf at h
  cases ha : aggOf P t with
  | none => simp [ha] at h
  | some b =>
    cases b with
    | true =>
      cases hs : szOf P t with
      | none => simp [ha, hs] at h
      | some n =>
        simp only [ha, hs] at h
        split at h
        · rename_i hle
          cases h
          refine ⟨.agg ((vs.drop off).take n).toArray, ?_, .agg _ _ (repL_take n (repL_drop off hr))⟩
          simp only [part, Sem.run_bind, run_isAgg' w ha, Result.andThen_ok, if_true, run_sizeOf' w hs, Sem.run_pure]
          congr 2
          simp [List.take_drop]
        · cases h
    | false =>
      simp only [ha] at h
      obtain ⟨v, hv, hrep⟩ := hr.get off r h
      refine ⟨v, ?_, hrep⟩
      simp [part, run_isAgg' w ha, hv]

/-! equality -/

theorem strOf_inj {s s' : ByteArray} (h : strOf s = strOf s') : s = s' := by
  unfold strOf at h
  have h2 : s.data.toList = s'.data.toList := by
    exact (List.map_inj_right (fun a b h => UInt8.toNat_inj.1 h)).1 h
  cases s; cases s'
  simp at h2
  rw [h2]

theorem strOf_beq (s s' : ByteArray) : (strOf s == strOf s') = (s.toList == s'.toList) := by
  rw [ByteArray.toList_eq, ByteArray.toList_eq]
  rw [Bool.eq_iff_iff]
  simp only [beq_iff_eq]
  constructor
  · intro h; rw [strOf_inj h]
  · intro h; unfold strOf; rw [h]


set_option maxHeartbeats 2000000 in
theorem eqA_sound : ∀ (d : Nat) (t : TypeId) (x y : AV) (u v : Value) (r : Bool), eqA P d t x y = some r → Rep C E x u → Rep C E y v → (Op.equalIn d t u v).run P w = .ok r w := by
  intro d
  induction d with
  | zero => intro t x y u v r h; simp [eqA] at h
  | succ d ih =>
    intro t x y u v r h hx hy
    have fields : ∀ (fs : List Field) (xs ys : List AV) (us vs : List Value) (r : Bool), eqFields P (eqA P d) xs ys fs = some r → RepL C E xs us → RepL C E ys vs →
        (Op.eqFields d us.toArray vs.toArray fs).run P w = .ok r w := by
      intro fs
      induction fs with
      | nil => intro xs ys us vs r h _ _; simp [eqFields] at h; subst h; simp [Op.eqFields]
      | cons f fs ihf =>
        intro xs ys us vs r h hx hy
        simp only [eqFields] at h
        simp only [Op.eqFields]
        split at h
        · rename_i hn
          rw [if_neg (by simpa using hn)]
          exact ihf _ _ _ _ _ h hx hy
        · rename_i hn
          rw [if_pos hn]
          split at h
          · rename_i a b ha hb
            obtain ⟨va, ra, pa⟩ := run_part' w hx ha
            obtain ⟨vb, rb, pb⟩ := run_part' w hy hb
            simp only [Sem.run_bind, ra, rb, Result.andThen_ok]
            split at h
            · rename_i he
              rw [ih _ _ _ _ _ _ he pa pb]
              simp only [Result.andThen_ok, Bool.not_true, Bool.false_eq_true, if_false]
              exact ihf _ _ _ _ _ h hx hy
            · rename_i he
              cases h
              rw [ih _ _ _ _ _ _ he pa pb]
              simp
            · cases h
          · cases h
    rw [eqA.eq_def] at h
    dsimp only at h
    split at h
    case h_25 fs xs ys ht =>
      split at h
      · cases h
      · rename_i hsh
        obtain ⟨us, rfl, hus⟩ := rep_agg hx
        obtain ⟨vs, rfl, hvs⟩ := rep_agg hy
        have hf : P.fieldsOf t = fs := by simp [Program.fieldsOf, ht]
        rw [run_equalIn_struct w d t us.toArray vs.toArray (by rw [hf]; exact ht) (by simpa using hsh), hf]
        exact fields _ _ _ _ _ _ h hus hvs
    all_goals first
      | (cases h; done)
      | (rename_i ht
         cases hx; cases hy
         first
           | (cases h; simp [Op.equalIn, run_underlying ht]; done)
           | (split at h <;> first | (cases h; done) | (rename_i hk; cases h; subst hk; simp [Op.equalIn, run_underlying ht]; done))
           | (rename_i s1 l1 s2 l2; cases h; subst l1; subst l2; simp [Op.equalIn, run_underlying ht, beq_toListBytes, strOf_beq]; done)
           | skip)

end
end Go.Ev
end
section
set_option linter.unusedVariables false
set_option linter.unusedSimpArgs false
namespace Go.Ev
section
variable {P : Program} {C : Mem} {E : Emb} (w : World)

theorem strOf_length (s : ByteArray) : (strOf s).length = s.size := by simp [strOf]

theorem lessA_sound : ∀ (a b : List UInt8), Op.bytesLess a b = lessA (a.map UInt8.toNat) (b.map UInt8.toNat)
  | x, [] => by cases x <;> rfl
  | [], _ :: _ => rfl
  | a :: x, b :: y => by
    simp only [Op.bytesLess, List.map_cons, lessA, lessA_sound x y]
    congr 1
    rw [Bool.eq_iff_iff]
    simp only [Bool.and_eq_true, beq_iff_eq, UInt8.toNat_inj]

theorem lessA_str (s s' : ByteArray) : Op.bytesLess s.toList s'.toList = lessA (strOf s) (strOf s') := by
  rw [ByteArray.toList_eq, ByteArray.toList_eq]; exact lessA_sound _ _

theorem evInt_sound {op : BinOp} {k : IntKind} {a b : Int} {r : AV} (h : evInt op k a b = some r) (hs : op ≠ .shl ∧ op ≠ .shr) (t : TypeId) :
    ∃ v, (binOp op t (.int k a) (.int k b)).run P w = .ok v w ∧ Rep C E r v := by
  cases op <;> simp only [evInt] at h
  all_goals first
    | (cases h; done)
    | (exact absurd rfl hs.1)
    | (exact absurd rfl hs.2)
    | (cases h; refine ⟨_, by simp [binOp, Op.intArith, Op.intBits, Op.intCmp]; rfl, by constructor⟩)
    | (cases h; refine ⟨_, rfl, by constructor⟩)
    | (split at h
       · cases h
       · rename_i hb
         cases h
         refine ⟨_, by simp [binOp, Op.intDiv, hb]; rfl, by constructor⟩)

theorem strOf_append (s s' : ByteArray) : strOf (s ++ s') = strOf s ++ strOf s' := by simp [strOf]

theorem evStr_sound {op : BinOp} {a b : ByteArray} {r : AV} (h : evStr op (strOf a) (strOf b) = some r) (t : TypeId) :
    ∃ v, (binOp op t (.string a) (.string b)).run P w = .ok v w ∧ Rep C E r v := by
  cases op <;> simp only [evStr] at h
  case add =>
    split at h
    · rename_i hl
      cases h
      rw [strOf_length, strOf_length] at hl
      have hn : ¬ ((9223372036854775807 : Int) < ((a.size : Int) + (b.size : Int))) := by unfold maxBytes at hl; omega
      refine ⟨.string (a ++ b), ?_, .str _ _ (strOf_append a b)⟩
      simp [binOp, Op.stringOp, IntKind.max, IntKind.signed, IntKind.bits, hn]
    · cases h
  all_goals first
    | (cases h; done)
    | (cases h; refine ⟨_, rfl, ?_⟩; simp only [strOf_beq, ← lessA_str]; constructor)

theorem binOp_eql {t : TypeId} {u v : Value} {r : Bool} (h : (Op.equalIn 10000 t u v).run P w = .ok r w)
    (hi : ∀ k a k' b, ¬ (u = .int k a ∧ v = .int k' b)) (hs : ∀ a b, ¬ (u = .string a ∧ v = .string b)) (hf : ∀ k a, u ≠ .float k a) (hc : ∀ k a b, u ≠ .complex k a b) :
    (binOp .eql t u v).run P w = .ok (.bool r) w ∧ (binOp .neq t u v).run P w = .ok (.bool (!r)) w := by
  constructor <;> (unfold binOp; split <;> first
    | (exact absurd ⟨rfl, rfl⟩ (hi _ _ _ _))
    | (exact absurd ⟨rfl, rfl⟩ (hs _ _))
    | (exact absurd rfl (hf _ _))
    | (exact absurd rfl (hc _ _ _))
    | (simp [Op.equal, Op.maxDepth, h]; done)
    | (simp_all; done)
    | skip)

theorem rep_ne_float {a : AV} {v : Value} (h : Rep C E a v) (ha : a.isUndef = false) : (∀ k n, v ≠ .float k n) ∧ (∀ k m n, v ≠ .complex k m n) := by
  cases h <;> simp_all [AV.isUndef]

def isConst : Operand → Bool
  | .const _ => true
  | _ => false

theorem eqGuard_ok {op : BinOp} {t : TypeId} {x y : Operand} {u v : Value} (h1 : u = .nilIface → v = .nilIface → isConst x = true ∨ isConst y = true)
    (h2 : ∀ xs ys, u = .agg xs → v = .agg ys → P.eqGuardType P.depth t = false) : (eqGuard op t x y u v).run P w = .ok () w := by
  cases op <;> first
    | (simp [eqGuard]; done)
    | (simp only [eqGuard]
       simp only [Bool.not_true, Bool.false_eq_true, if_false]
       split
       · have := h1 rfl rfl
         cases x <;> cases y <;> simp_all [isConst]
       · have := h2 _ _ rfl rfl
         simp [run_program, this]
       · simp)

end
end Go.Ev
end
section
set_option linter.unusedVariables false
set_option linter.unusedSimpArgs false
namespace Go.Ev
section
variable {P : Program} {C : Mem} {E : Emb} (w : World)

theorem eqA_defined {d : Nat} {t : TypeId} {a b : AV} {r : Bool} (h : eqA P d t a b = some r) : a.isUndef = false ∧ b.isUndef = false := by
  cases d with
  | zero => simp [eqA] at h
  | succ d =>
    rw [eqA.eq_def] at h
    dsimp only at h
    split at h <;> first | (cases h; done) | exact ⟨rfl, rfl⟩

theorem evBin_sound {op : BinOp} {t : TypeId} {x y : Operand} {a b r : AV} {u v : Value} (h : evBin P op t x y a b = some r) (hu : Rep C E a u) (hv : Rep C E b v) :
    ∃ z, (eqGuard op t x y u v).run P w = .ok () w ∧ (binOp op t u v).run P w = .ok z w ∧ Rep C E r z := by
  unfold evBin at h
  split at h
  · rename_i k m k' n
    obtain rfl := rep_int hu
    obtain rfl := rep_int hv
    split at h
    · cases h
    · rename_i hn
      cases h
      exact ⟨.int k (k.wrap (m * 2 ^ (min n.toNat k.bits))), eqGuard_ok w (by simp) (by simp), by simp [binOp, Op.shift, hn], .int _ _⟩
  · rename_i k m k' n
    obtain rfl := rep_int hu
    obtain rfl := rep_int hv
    split at h
    · cases h
    · rename_i hn
      cases h
      exact ⟨.int k (m.fdiv (2 ^ (min n.toNat k.bits))), eqGuard_ok w (by simp) (by simp), by simp [binOp, Op.shift, hn], .int _ _⟩
  · rename_i op k m k' n h1 h2
    obtain rfl := rep_int hu
    obtain rfl := rep_int hv
    split at h
    · rename_i hk
      subst hk
      obtain ⟨z, hz, hr⟩ := evInt_sound (C := C) (E := E) (P := P) w h ⟨fun e => by subst e; simp_all, fun e => by subst e; simp_all⟩ t
      exact ⟨z, eqGuard_ok w (by simp) (by simp), hz, hr⟩
    · cases h
  · rename_i op m n
    obtain ⟨s, rfl, rfl⟩ := rep_str hu
    obtain ⟨s', rfl, rfl⟩ := rep_str hv
    obtain ⟨z, hz, hr⟩ := evStr_sound (C := C) (E := E) (P := P) w h t
    exact ⟨z, eqGuard_ok w (by simp) (by simp), hz, hr⟩
  all_goals first
    | (cases h; done)
    | (rename_i _ _ hni hns
       split at h
       · rename_i hok
         cases he : eqA P 10000 t a b with
         | none => simp [he] at h
         | some q =>
           simp only [he, Option.map_some, Option.some.injEq] at h
           subst h
           obtain ⟨hau, hbu⟩ := eqA_defined he
           have hrun := eqA_sound (C := C) (E := E) w 10000 t a b u v q he hu hv
           have hfl := rep_ne_float hu hau
           have hb := binOp_eql w hrun (fun k m k' n ⟨e1, e2⟩ => by
               subst e1; subst e2
               cases hu <;> first | (simp [AV.isUndef] at hau; done) | skip
               cases hv <;> first | (simp [AV.isUndef] at hbu; done) | skip
               exact hni _ _ _ _ rfl rfl) (fun m n ⟨e1, e2⟩ => by
               subst e1; subst e2
               cases hu <;> first | (simp [AV.isUndef] at hau; done) | skip
               cases hv <;> first | (simp [AV.isUndef] at hbu; done) | skip
               simp_all) hfl.1 hfl.2
           refine ⟨_, eqGuard_ok w (fun e1 e2 => ?_) (fun xs ys e1 e2 => ?_), by first | exact hb.1 | exact hb.2, .bool _⟩
           · subst e1; subst e2
             cases hu <;> first | (simp [AV.isUndef] at hau; done) | skip
             cases hv <;> first | (simp [AV.isUndef] at hbu; done) | skip
             cases x <;> cases y <;> simp_all [eqOk, isConst]
           · subst e1; subst e2
             cases hu <;> first | (simp [AV.isUndef] at hau; done) | skip
             cases hv <;> first | (simp [AV.isUndef] at hbu; done) | skip
             simpa [eqOk] using hok
       · cases h)

theorem evUn_sound {op : UnOp} {a r : AV} {u : Value} (h : evUn op a = some r) (hu : Rep C E a u) : ∃ z, (Op.unary op u).run P w = .ok z w ∧ Rep C E r z := by
  unfold evUn at h
  split at h
  · rename_i k n
    obtain rfl := rep_int hu
    cases h
    exact ⟨_, by simp [Op.unary, Op.intArith], .int _ _⟩
  · rename_i k n
    obtain rfl := rep_int hu
    cases h
    exact ⟨_, by simp [Op.unary, Op.intBits], .int _ _⟩
  · rename_i b
    obtain rfl := rep_bool hu
    cases h
    exact ⟨_, by simp [Op.unary], .bool _⟩
  · cases h

theorem evConvert_sound {s d : TypeId} {a r : AV} {u : Value} (h : evConvert P s d a = some r) (hu : Rep C E a u) : ∃ z, (convert s d u).run P w = .ok z w ∧ Rep C E r z := by
  unfold evConvert at h
  split at h
  · rename_i sd k k' n hs hd
    obtain rfl := rep_int hu
    cases h
    exact ⟨_, by simp [convert, run_underlying hs, run_underlying hd, Conv.intToInt], .int _ _⟩
  · rename_i sd l hs hd
    obtain ⟨s', rfl, rfl⟩ := rep_str hu
    cases h
    refine ⟨.string s', ?_, .str _ _ rfl⟩
    simp only [convert, Sem.run_bind, run_underlying hs, run_underlying hd, Result.andThen_ok]
    cases sd <;> simp
  · cases h

theorem boundsOk_iff {l h m : Int} (hb : boundsOk l h m = true) : 0 ≤ l ∧ l ≤ h ∧ h ≤ m := by
  simp [boundsOk] at hb; exact ⟨hb.1.1, hb.1.2, hb.2⟩

theorem run_sliceBound {k : IntKind} {n : Int} {y : Nat} {code : BoundsCode} (h0 : 0 ≤ n) (h1 : n ≤ y) : (Instr.sliceBound (.int k n) y code).run P w = .ok n.toNat w := by
  simp [Instr.sliceBound, asIntOf, h0, h1]

/-- Bounds that are met: no max. -/
theorem run_sliceBounds {isS : Bool} {len cap : Nat} {lo hi : Option Value} {l h : Int} (hlo : (lo = none ∧ l = 0) ∨ ∃ k, lo = some (.int k l)) (hhi : (hi = none ∧ h = len) ∨ ∃ k, hi = some (.int k h))
    (hb : 0 ≤ l ∧ l ≤ h ∧ h ≤ cap) : (Instr.sliceBounds isS len cap lo hi none).run P w = .ok (l.toNat, h.toNat, cap) w := by
  obtain ⟨b1, b2, b3⟩ := hb
  have hh : (h.toNat : Int) = h := by omega
  rcases hlo with ⟨rfl, rfl⟩ | ⟨k, rfl⟩ <;> rcases hhi with ⟨rfl, rfl⟩ | ⟨k', rfl⟩
  · simp [Instr.sliceBounds]
  · simp only [Instr.sliceBounds, Sem.run_bind, Sem.run_pure, Result.andThen_ok]
    cases isS <;> simp [run_sliceBound (P := P) w (k := k') (y := cap) (by omega : 0 ≤ h) b3]
  · simp only [Instr.sliceBounds, Sem.run_bind, Sem.run_pure, Result.andThen_ok]
    simp [run_sliceBound (P := P) w (k := k) (y := len) b1 (by omega)]
  · simp only [Instr.sliceBounds, Sem.run_bind, Sem.run_pure, Result.andThen_ok]
    cases isS <;> simp [run_sliceBound (P := P) w (k := k') (y := cap) (by omega : 0 ≤ h) b3, run_sliceBound (P := P) w (k := k) (y := h.toNat) b1 (by omega)]

/-- .. with a max. -/
theorem run_sliceBounds3 {isS : Bool} {len cap : Nat} {lo : Option Value} {l h m : Int} {kh km : IntKind} (hlo : (lo = none ∧ l = 0) ∨ ∃ k, lo = some (.int k l))
    (hb : 0 ≤ l ∧ l ≤ h ∧ h ≤ m ∧ m ≤ cap) : (Instr.sliceBounds isS len cap lo (some (.int kh h)) (some (.int km m))).run P w = .ok (l.toNat, h.toNat, m.toNat) w := by
  obtain ⟨b1, b2, b3, b4⟩ := hb
  rcases hlo with ⟨rfl, rfl⟩ | ⟨k, rfl⟩
  · simp only [Instr.sliceBounds, Sem.run_bind, Sem.run_pure, Result.andThen_ok]
    cases isS <;> simp [run_sliceBound (P := P) w (k := km) (y := cap) (by omega : 0 ≤ m) b4, run_sliceBound (P := P) w (k := kh) (y := m.toNat) (by omega : 0 ≤ h) (by omega)]
  · simp only [Instr.sliceBounds, Sem.run_bind, Sem.run_pure, Result.andThen_ok]
    cases isS <;> simp [run_sliceBound (P := P) w (k := km) (y := cap) (by omega : 0 ≤ m) b4, run_sliceBound (P := P) w (k := kh) (y := m.toNat) (by omega : 0 ≤ h) (by omega), run_sliceBound (P := P) w (k := k) (y := h.toNat) b1 (by omega)]

theorem optInt_rep {ρ : Operand → AV} {ev : Operand → Value} (hρ : ∀ x, Rep C E (ρ x) (ev x)) {o : Option Operand} {n : Option Int} (h : optInt ρ o = some n) :
    (o = none ∧ n = none) ∨ ∃ k m, n = some m ∧ o.map ev = some (.int k m) := by
  unfold optInt at h
  split at h
  · cases h; exact .inl ⟨rfl, rfl⟩
  · rename_i x
    split at h
    · rename_i k m hx
      cases h
      have := hρ x
      rw [hx] at this
      exact .inr ⟨k, m, rfl, by simp [rep_int this]⟩
    · cases h

theorem run_index_string {t : TypeId} (ht : P.underlying t = some .string) {s : ByteArray} {k : IntKind} {n : Int} (h0 : 0 ≤ n) {c : UInt8} (hc : s.data.toList[n.toNat]? = some c) :
    (Instr.index t (.string s) (.int k n)).run P w = .ok (.int .u8 c.toNat) w := by
  have hc' : s[n.toNat]? = some c := by
    obtain ⟨hlt, he⟩ := List.getElem?_eq_some_iff.1 hc
    rw [getElem?_pos s n.toNat (by simpa using hlt)]
    have he' : s.data[n.toNat]'(by simpa using hlt) = c := by simpa using he
    exact congrArg some he'
  simp [Instr.index, asIntOf, run_underlying ht, h0, hc']

theorem evIndex_sound {t : TypeId} {a i r : AV} {u v : Value} (h : evIndex P t a i = some r) (hu : Rep C E a u) (hv : Rep C E i v) : ∃ z, (Instr.index t u v).run P w = .ok z w ∧ Rep C E r z := by
  unfold evIndex at h
  split at h
  · rename_i k n
    obtain rfl := rep_int hv
    split at h
    · rename_i s ht
      obtain ⟨s', rfl, rfl⟩ := rep_str hu
      split at h
      · rename_i h0
        cases hc : (strOf s')[n.toNat]? with
        | none => simp [hc] at h
        | some c =>
          simp only [hc, Option.map_some, Option.some.injEq] at h
          subst h
          unfold strOf at hc
          rw [List.getElem?_map] at hc
          cases hc' : s'.data.toList[n.toNat]? with
          | none => simp [hc'] at hc
          | some c' =>
            simp only [hc', Option.map_some, Option.some.injEq] at hc
            subst hc
            exact ⟨_, run_index_string w ht h0 hc', .int _ _⟩
      · cases h
    · rename_i len e cs ht
      obtain ⟨vs, rfl, hvs⟩ := rep_agg hu
      split at h
      · rename_i hb
        cases hs : szOf P e with
        | none => simp [hs] at h
        | some sz =>
          simp only [hs, Option.bind_some] at h
          obtain ⟨z, hz, hr⟩ := run_part' w hvs h
          refine ⟨z, ?_, hr⟩
          simp [Instr.index, asIntOf, run_underlying ht, hb, run_sizeOf' w hs, hz]
      · cases h
    · cases h
  · cases h

theorem WRel.esz {w0 : World} {H : Heap} {w : World} (hw : WRel C w0 E H w) {b g s : Nat} (h : H.eszOf b g = some s) {L : Loc} (hL : E.loc b g = some L) : LocOk C E w w0.heap.size L s (match H.blk b with | some (.row _ _ els _ _) => els | _ => []) := by
  unfold Heap.eszOf at h
  split at h
  · rename_i ty esz els gen wgen hb
    split at h
    · rename_i hg
      cases h
      obtain ⟨L', hL', hl⟩ := (hw.row _ _ _ _ _ _ hb).loc g hg ((hw.dom _ _ _ hL).2.2 _ _ _ _ _ hb)
      rw [hL] at hL'; cases hL'
      simpa [hb] using hl
    · cases h
  · cases h

theorem evIndexAddr_sound {w0 : World} {H : Heap} (hw : WRel C w0 E H w) {t : TypeId} {a i r : AV} {u v : Value} (h : evIndexAddr P H t a i = some r) (hu : Rep C E a u) (hv : Rep C E i v) :
    ∃ z, (Instr.indexAt t u v).run P w = .ok z w ∧ Rep C E r z := by
  unfold evIndexAddr at h
  split at h
  · rename_i k n
    obtain rfl := rep_int hv
    split at h
    · rename_i e b off len cap ex g ht
      split at h
      · rename_i hb
        obtain ⟨hb1, hb2, hes⟩ := hb
        have hb : 0 ≤ n ∧ n < (len : Int) := ⟨hb1, hb2⟩
        cases hs : szOf P e with
        | none => simp [hs] at h
        | some s =>
          simp only [hs, Option.map_some, Option.some.injEq] at h
          subst h
          cases hu with
          | slice _ _ _ _ _ _ L ad rc hL h1 h2 h3 h4 h5 h6 h7 =>
            have he := (hw.esz (by rw [← hes, hs]) hL).sz
            have hrc : 0 < rc := by omega
            have had := h6 hrc
            subst had
            refine ⟨_, by simp [Instr.indexAt, asIntOf, run_underlying ht, hb, run_sizeOf' w hs, Addr.add_lit]; rfl, ?_⟩
            refine .ptr b _ 0 g L _ hL (by omega) (by omega) ?_
            rw [he, Nat.add_zero, show off + n.toNat - L.lo = (off - L.lo) + n.toNat by omega, Nat.add_mul]
            omega
      · cases h
    · rename_i e sz es ht
      split at h
      · rename_i hb
        obtain ⟨h0, hs⟩ := hb
        cases hc : es[n.toNat]? with
        | none => simp [hc] at h
        | some cs =>
          simp only [hc, Option.map_some, Option.some.injEq] at h
          subst h
          cases hu with
          | lst _ _ blk co len rc ad hE h1 h2 h6 =>
            have hlt : n.toNat < es.length := (List.getElem?_eq_some_iff.1 hc).1
            have hrc : 0 < rc := by omega
            have had := h6 hrc
            subst had
            obtain ⟨hl, hm⟩ := hE.get n.toNat cs hc
            have hb : 0 ≤ n ∧ n < (len : Int) := ⟨h0, by omega⟩
            refine ⟨_, by simp [Instr.indexAt, asIntOf, run_underlying ht, hb, run_sizeOf' w hs, Addr.add_lit]; rfl, ?_⟩
            exact .iptr cs 0 blk (co + n.toNat * sz) _ hm rfl
      · cases h
    · cases h
  · cases h
end
end Go.Ev
end
section
set_option linter.unusedVariables false
set_option linter.unusedSimpArgs false
namespace Go.Ev
section
variable {P : Program} {C : Mem} {w0 : World} {E : Emb} {H : Heap} {w : World}

/-- What an abstract read finds lies in memory. -/
theorem load_cells (hw : WRel C w0 E H w) {a : AV} {u : Value} {n : Nat} {cs : List AV} (h : H.load a n = some cs) (hu : Rep C E a u) :
    ∃ ad vs, u = .pointer (some ad) ∧ cs.length = n ∧ RepL C E cs vs ∧ ∀ j v, vs[j]? = some v → w.cell? (ad.add j) = some v := by
  unfold Heap.load at h
  split at h
  · rename_i cs' o
    split at h
    · rename_i hle
      cases h
      cases hu with
      | iptr _ _ blk co off hm h3 =>
        obtain ⟨vs, h1, h2⟩ := choose_cells (C := C) (E := E) (w := w) (blk := blk) ((cs'.drop o).take n) off (fun j c hj => by
          rw [List.getElem?_take] at hj
          split at hj
          · rw [List.getElem?_drop] at hj
            obtain ⟨v, hv, hr⟩ := hm.get (o + j) c hj
            exact ⟨v, by subst h3; rw [Nat.add_assoc]; exact (hw.mem _ _ _ hv).2, hr⟩
          · cases hj)
        exact ⟨_, vs, rfl, by simp; omega, h1, fun j v hj => by rw [Addr.add_lit]; exact h2 j v hj⟩
    · cases h
  · rename_i b i o g
    split at h
    · rename_i ty esz els gen wgen hb
      split at h
      · rename_i hg
        split at h
        · rename_i cs' hi
          cases h
          cases hu with
          | ptr _ _ _ _ L off hL h1 h2 h3 =>
            obtain ⟨L', hL', hl⟩ := (hw.row _ _ _ _ _ _ hb).loc g hg.1 ((hw.dom _ _ _ hL).2.2 _ _ _ _ _ hb)
            rw [hL] at hL'; cases hL'
            have hcl := (hw.row _ _ _ _ _ _ hb).len cs' (List.mem_of_getElem? hi)
            obtain ⟨vs, r1, r2⟩ := choose_cells (C := C) (E := E) (w := w) (blk := L.blk) ((cs'.drop o).take n) off (fun j c hj => by
              rw [List.getElem?_take] at hj
              split at hj
              · rw [List.getElem?_drop] at hj
                obtain ⟨v, hv, hr⟩ := hl.cell i (o + j) cs' c h1 h2 hi hj
                exact ⟨v, by subst h3; rw [hl.sz, Nat.add_assoc]; exact hv, hr⟩
              · cases hj)
            exact ⟨_, vs, rfl, by simp; omega, r1, fun j v hj => by rw [Addr.add_lit]; exact r2 j v hj⟩
        · cases h
      · cases h
    · cases h
  · cases h

theorem run_loadCells' {ad : Addr} {vs : List Value} (h : ∀ j v, vs[j]? = some v → w.cell? (ad.add j) = some v) {n : Nat} (hn : vs.length = n) : (loadCells ad n).run P w = .ok vs.toArray w := by
  subst hn; exact run_loadCells_list w ad vs h

theorem load_agg (hw : WRel C w0 E H w) {t : TypeId} {a : AV} {u : Value} {n : Nat} {cs : List AV} (ha : aggOf P t = some true) (hs : szOf P t = some n) (h : H.load a n = some cs) (hu : Rep C E a u) :
    ∃ z, (Instr.loadAt t u).run P w = .ok z w ∧ Rep C E (.agg cs) z := by
  obtain ⟨ad, vs, rfl, hl, hr, hc⟩ := load_cells hw h hu
  refine ⟨.agg vs.toArray, ?_, .agg _ _ hr⟩
  have := run_loadCells' (P := P) hc (n := n) (by rw [hr.length, hl])
  simp [Instr.loadAt, Instr.sureAddr, loadVar, run_isAgg' w ha, run_sizeOf' w hs, this]

theorem load_one (hw : WRel C w0 E H w) {t : TypeId} {a r : AV} {u : Value} (ha : aggOf P t = some false) (h : H.load a 1 = some [r]) (hu : Rep C E a u) :
    ∃ z, (Instr.loadAt t u).run P w = .ok z w ∧ Rep C E r z := by
  obtain ⟨ad, vs, rfl, hl, hr, hc⟩ := load_cells hw h hu
  cases hr with
  | cons _ v _ _ h1 h2 =>
    refine ⟨v, ?_, h1⟩
    have := hc 0 v rfl
    have h0 : ad.add 0 = ad := by simp [Addr.add]
    rw [h0] at this
    simp [Instr.loadAt, Instr.sureAddr, loadVar, run_isAgg' w ha, this]

theorem rep_oneCell {a : AV} {v : Value} (h : Rep C E a v) (hc : a.isCell = true) : v.oneCell' = true := by
  cases h <;> simp_all [AV.isCell, Value.oneCell']

theorem repL_oneCell : ∀ {as : List AV} {vs : List Value}, RepL C E as vs → as.all AV.isCell = true → ∀ v ∈ vs, v.oneCell' = true
  | _, _, .nil, _, v, hv => by cases hv
  | _, _, .cons a u as vs h h', hc, v, hv => by
    simp only [List.all_cons, Bool.and_eq_true] at hc
    rcases List.mem_cons.1 hv with rfl | hv
    · exact rep_oneCell h hc.1
    · exact repL_oneCell h' hc.2 v hv

/-- A cell of a row: element i, cell j, in numbers. -/
theorem cell_lt {i ext lo esz j co size : Nat} (h1 : lo ≤ i) (h2 : i < ext) (hj : j < esz) (hr : co + (ext - lo) * esz ≤ size) : co + (i - lo) * esz + j < size := by
  have : (i - lo + 1) * esz ≤ (ext - lo) * esz := Nat.mul_le_mul_right _ (by omega)
  rw [Nat.add_mul] at this
  omega

theorem place_inj {i i' esz j j' : Nat} (hj : j < esz) (hj' : j' < esz) (h : i * esz + j = i' * esz + j') : i = i' ∧ j = j' := by
  have e1 : (i * esz + j) / esz = i := by rw [Nat.mul_comm, Nat.mul_add_div (by omega), Nat.div_eq_of_lt hj, Nat.add_zero]
  have e2 : (i' * esz + j') / esz = i' := by rw [Nat.mul_comm, Nat.mul_add_div (by omega), Nat.div_eq_of_lt hj', Nat.add_zero]
  have : i = i' := by rw [← e1, ← e2, h]
  subst this
  exact ⟨rfl, by omega⟩

theorem splice_length {cs vs : List AV} {o : Nat} (h : o + vs.length ≤ cs.length) : (splice cs o vs).length = cs.length := by
  simp [splice]; omega

theorem splice_get {cs vs : List AV} {o j : Nat} (h : o + vs.length ≤ cs.length) : (splice cs o vs)[j]? = if o ≤ j ∧ j < o + vs.length then vs[j - o]? else cs[j]? := by
  unfold splice
  rw [List.append_assoc]
  by_cases h1 : j < o
  · rw [List.getElem?_append_left (by simp; omega), if_neg (by omega), List.getElem?_take, if_pos h1]
  · rw [List.getElem?_append_right (by simp; omega)]
    have e : j - (cs.take o).length = j - o := by simp; omega
    rw [e]
    by_cases h2 : j < o + vs.length
    · rw [if_pos ⟨by omega, h2⟩, List.getElem?_append_left (by omega)]
    · rw [if_neg (by omega), List.getElem?_append_right (by omega), List.getElem?_drop]
      congr 1
      omega

theorem store_ok (hw : WRel C w0 E H w) {t : TypeId} {a x : AV} {u v : Value} {H' : Heap} (hs : szOf P t = some x.cells.length) (hx : x.isUndef = false) (h : H.store a x.cells = some H') (hu : Rep C E a u) (hv : Rep C E x v) :
    ∃ w', (Instr.storeAt t u v).run P w = .ok () w' ∧ WRel C w0 E H' w' := by
  have hcs := rep_cells hv hx
  generalize hX : x.cells = xs at *
  unfold Heap.store at h
  split at h
  · rename_i b i o g
    split at h
    · rename_i ty esz els gen wgen hb
      split at h
      · rename_i hg
        obtain ⟨rfl, hle, hall⟩ := hg
        split at h
        · rename_i cs hi
          cases h
          cases hu with
          | ptr _ _ _ _ L off hL h1 h2 h3 =>
            obtain ⟨G, hG, hlo, hext⟩ := hw.newest hb
            rw [hL] at hG; cases hG
            have hcl := (hw.row _ _ _ _ _ _ hb).len cs (List.mem_of_getElem? hi)
            have hlen : v.cells.toList.length = xs.length := hcs.length
            have hsz := hlo.sz
            have hoff : ∀ j, j < v.cells.toList.length → off + j < L.size := fun j hj => by
              have := cell_lt (j := o + j) h1 h2 (by omega) hlo.room
              subst h3
              rw [hsz]
              omega
            have hc : ∀ j, j < v.cells.toList.length → (w.cell? ⟨L.blk, off + j, none⟩).isSome = true := fun j hj => (hlo.shape _ (hoff j hj)).1
            have hrun := run_storeCells_cells (P := P) L.blk off v.cells.toList 0 w (by simpa using hc) (fun j hj => by simpa using (hlo.shape _ (hoff j hj)).2) (repL_oneCell hcs hall)
            refine ⟨w.setCells L.blk off v.cells.toList, ?_, ?_⟩
            · have h1' : v.cells.size = xs.length := by simpa using hlen
              simp [Instr.storeAt, Instr.sureAddr, storeVar, run_sizeOf' w hs, h1', hrun]
            · refine hw.write (Chg.setCells w L.blk off v.cells.toList hc) hb hL (fun x y ⟨e1, e2, e3⟩ => ⟨e1, ?_⟩) (by simp) (fun cs' hcs' => ?_) (fun i' j cs' c e1 e2 e3 e4 => ?_)
              · subst e1
                have := hc (y - off) (by omega)
                rwa [show off + (y - off) = y by omega] at this
              · rcases List.mem_or_eq_of_mem_set hcs' with hm | rfl
                · exact (hw.row _ _ _ _ _ _ hb).len cs' hm
                · rw [splice_length (by omega)]; exact hcl
              · have hj : j < esz := by
                  have hl' : cs'.length = esz := by
                    rw [List.getElem?_set] at e3
                    split at e3
                    · split at e3
                      · cases e3; rw [splice_length (by omega)]; exact hcl
                      · cases e3
                    · exact (hw.row _ _ _ _ _ _ hb).len cs' (List.mem_of_getElem? e3)
                  have := (List.getElem?_eq_some_iff.1 e4).1
                  omega
                rw [List.getElem?_set] at e3
                split at e3
                · rename_i hii
                  subst hii
                  split at e3
                  · cases e3
                    rw [splice_get (by omega)] at e4
                    split at e4
                    · rename_i hin
                      obtain ⟨z, hz, hr⟩ := hcs.get _ _ e4
                      refine ⟨z, ?_, hr⟩
                      have hlt := (List.getElem?_eq_some_iff.1 hz).1
                      have := World.cell?_setCells_in L.blk v.cells.toList off w hc (j - o) hlt
                      rw [show off + (j - o) = L.co + (i - L.lo) * esz + j by subst h3; rw [hsz]; omega] at this
                      rw [this, ← hz, List.getElem?_eq_getElem hlt]
                    · rename_i hout
                      obtain ⟨z, hz, hr⟩ := hlo.cell i j cs c e1 e2 hi e4
                      refine ⟨z, ?_, hr⟩
                      rw [World.cell?_setCells_out]
                      · exact hz
                      · intro _ _
                        simp only
                        subst h3
                        rw [hsz, hlen]
                        omega
                  · cases e3
                · rename_i hne
                  obtain ⟨z, hz, hr⟩ := hlo.cell i' j cs' c e1 e2 e3 e4
                  refine ⟨z, ?_, hr⟩
                  rw [World.cell?_setCells_out]
                  · exact hz
                  · intro _ _
                    simp only
                    subst h3
                    rw [hsz, hlen]
                    apply Classical.byContradiction
                    intro hcon
                    have hk : ∃ q, q < xs.length ∧ (i' - L.lo) * esz + j = (i - L.lo) * esz + (o + q) := ⟨(i' - L.lo) * esz + j - ((i - L.lo) * esz + o), by omega, by omega⟩
                    obtain ⟨q, hq, heq⟩ := hk
                    have := (place_inj hj (by omega) heq).1
                    omega
        · cases h
      · cases h
    · cases h
  · cases h

/-- A new variable. -/
theorem newVar_ok (hw : WRel C w0 E H w) (hfree : H.blk H.next = none) {t : TypeId} {x : AV} {v : Value} (hx : x.isUndef = false) (hv : Rep C E x v) :
    ∃ E' ad w', (newVar t v).run P w = .ok ad w' ∧ E.le E' ∧ WRel C w0 E' (H.push (.row t x.cells.length [x.cells] 0 0)) w' ∧ Rep C E' (.ptr H.next 0 0 0) (.pointer (some ad)) := by
  have hcs := rep_cells hv hx
  have hlen : v.cells.size = x.cells.length := by have := hcs.length; simpa using this
  let L : Loc := ⟨w.heap.size, 0, 0, 1, x.cells.length, x.cells.length⟩
  have hnew := hw.newRow hfree (w' := w.alloc (.cells v.cells t)) (Chg.alloc w _ _) t x.cells.length [x.cells] L rfl (by simp) rfl rfl rfl (by simp) (by simp [L])
    (fun o ho => by
      simp only [L] at ho ⊢
      refine ⟨?_, World.frozen?_alloc_new _ _ _ _⟩
      rw [World.cell?_alloc_new, Array.getElem?_eq_getElem (by omega)]; rfl)
    (fun i j cs c hi h3 h4 => by
      have : i = 0 := by simpa using hi
      subst this
      simp at h3; subst h3
      obtain ⟨z, hz, hr⟩ := hcs.get j c h4
      refine ⟨z, ?_, hr⟩
      simp only [L]
      rw [World.cell?_alloc_new]
      simpa using hz)
  refine ⟨_, ⟨w.heap.size, 0, none⟩, _, by simp [newVar, newRow], hnew.1, hnew.2, ?_⟩
  exact .ptr _ 0 0 0 L 0 (Emb.set_same _ _ _ _) (by simp [L]) (by simp [L]) (by simp [L])

end
end Go.Ev
end
section
set_option linter.unusedVariables false
set_option linter.unusedSimpArgs false
namespace Go.Ev
section
variable {P : Program} {C : Mem} {w0 : World} {E : Emb} {H : Heap} {w : World}

theorem flatten_get : ∀ {es : List (List AV)} {esz : Nat}, (∀ cs ∈ es, cs.length = esz) → ∀ (q : Nat) (c : AV), es.flatten[q]? = some c → ∃ i j cs, q = i * esz + j ∧ es[i]? = some cs ∧ cs[j]? = some c ∧ j < esz
  | [], esz, _, q, c, h => by simp at h
  | e :: es, esz, hl, q, c, h => by
    have he := hl e (by simp)
    simp only [List.flatten_cons] at h
    by_cases hq : q < e.length
    · rw [List.getElem?_append_left hq] at h
      exact ⟨0, q, e, by omega, rfl, h, by omega⟩
    · rw [List.getElem?_append_right (by omega)] at h
      obtain ⟨i, j, cs, h1, h2, h3, h4⟩ := flatten_get (fun cs hc => hl cs (by simp [hc])) (q - e.length) c h
      exact ⟨i + 1, j, cs, by rw [Nat.add_mul]; omega, by simpa using h2, h3, h4⟩

theorem flatten_at : ∀ {es : List (List AV)} {esz : Nat}, (∀ cs ∈ es, cs.length = esz) → ∀ (i j : Nat) (cs : List AV) (c : AV), es[i]? = some cs → cs[j]? = some c → es.flatten[i * esz + j]? = some c
  | [], esz, _, i, j, cs, c, h, _ => by simp at h
  | e :: es, esz, hl, 0, j, cs, c, h, h' => by
    simp at h; subst h
    rw [List.flatten_cons, List.getElem?_append_left (by have := (List.getElem?_eq_some_iff.1 h').1; omega)]
    simpa using h'
  | e :: es, esz, hl, i + 1, j, cs, c, h, h' => by
    have he := hl e (by simp)
    rw [List.flatten_cons, List.getElem?_append_right (by rw [Nat.add_mul]; omega)]
    have := flatten_at (es := es) (fun cs hc => hl cs (by simp [hc])) i j cs c (by simpa using h) h'
    rw [show (i + 1) * esz + j - e.length = i * esz + j by rw [Nat.add_mul]; omega]
    exact this

theorem flatten_len : ∀ {es : List (List AV)} {esz : Nat}, (∀ cs ∈ es, cs.length = esz) → es.flatten.length = es.length * esz
  | [], esz, _ => by simp
  | e :: es, esz, hl => by
    rw [List.flatten_cons, List.length_append, flatten_len (fun cs hc => hl cs (by simp [hc])), hl e (by simp), List.length_cons, Nat.add_mul]
    omega

/-- The first elements of what is appended or copied. -/
theorem elems_ok (hw : WRel C w0 E H w) {a : AV} {u : Value} {esz n : Nat} {new : List (List AV)} (h : H.elems esz n a = some new) (hu : Rep C E a u) :
    ∃ vs, RepL C E new.flatten vs ∧ new.length = n ∧ (∀ cs ∈ new, cs.length = esz) ∧ ∀ w' : World, (∀ a, w'.cell? a = w.cell? a) → (Builtin.firstCells esz n u).run P w' = .ok vs.toArray w' := by
  unfold Heap.elems at h
  split at h
  · split at h
    · rename_i hn
      cases h; subst hn
      cases hu
      exact ⟨[], .nil, rfl, by simp, fun w' _ => by simp [Builtin.firstCells]⟩
    · cases h
  · split at h
    · rename_i hn
      cases h; subst hn
      cases hu
      exact ⟨[], .nil, rfl, by simp, fun w' _ => by simp [Builtin.firstCells, loadCells, loadCellsFrom]⟩
    · cases h
  · rename_i b off len cap ex g
    split at h
    · rename_i ty sz els gen wgen hb
      split at h
      · rename_i hg
        obtain ⟨hg, rfl, hn⟩ := hg
        cases h
        cases hu with
        | slice _ _ _ _ _ _ L ad rc hL h1 h2 h3 h4 h5 h6 h7 =>
          obtain ⟨L', hL', hl⟩ := (hw.row _ _ _ _ _ _ hb).loc g hg ((hw.dom _ _ _ hL).2.2 _ _ _ _ _ hb)
          rw [hL] at hL'; cases hL'
          have hlen := (hw.row _ _ _ _ _ _ hb).len
          have hext := hl.ext
          have hsub : ∀ cs ∈ (els.drop off).take n, cs.length = sz := fun cs hc => hlen cs (List.mem_of_mem_drop (List.mem_of_mem_take hc))
          have hnl : ((els.drop off).take n).length = n := by simp; omega
          obtain ⟨vs, r1, r2⟩ := choose_cells (C := C) (E := E) (w := w) (blk := L.blk) ((els.drop off).take n).flatten (L.co + (off - L.lo) * sz) (fun q c hq => by
            obtain ⟨i, j, cs, e1, e2, e3, e4⟩ := flatten_get hsub q c hq
            rw [List.getElem?_take] at e2
            split at e2
            · rw [List.getElem?_drop] at e2
              obtain ⟨v, hv, hr⟩ := hl.cell (off + i) j cs c (by omega) (by omega) e2 e3
              refine ⟨v, ?_, hr⟩
              rw [show off + i - L.lo = (off - L.lo) + i by omega, Nat.add_mul] at hv
              rw [e1]
              rw [show L.co + (off - L.lo) * sz + (i * sz + j) = L.co + ((off - L.lo) * sz + i * sz) + j by omega]
              exact hv
            · cases e2)
          refine ⟨vs, r1, hnl, hsub, fun w' hw' => ?_⟩
          have hvl : vs.length = n * sz := by rw [r1.length, flatten_len hsub, hnl]
          rcases Nat.eq_zero_or_pos rc with h0 | h0
          · have : n = 0 := by omega
            subst this
            have : vs = [] := List.eq_nil_of_length_eq_zero (by simpa using hvl)
            subst this
            simp [Builtin.firstCells, loadCells, loadCellsFrom]
          · have had := h6 h0
            subst had
            exact run_firstCells_some w' sz n _ _ _ vs hvl (fun j v hj => by rw [hw', Addr.add_lit, hl.sz]; exact r2 j v hj)
      · cases h
    · cases h
  · rename_i sz es
    split at h
    · rename_i hg
      obtain ⟨rfl, hn⟩ := hg
      cases h
      cases hu with
      | lst _ _ blk co len rc ad hE h1 h2 h6 =>
        have hsub : ∀ cs ∈ es.take n, cs.length = sz := fun cs hc => by
          obtain ⟨i, hi⟩ := List.getElem?_of_mem (List.mem_of_mem_take hc)
          exact (hE.get i cs hi).1
        have hnl : (es.take n).length = n := by simp; omega
        obtain ⟨vs, r1, r2⟩ := choose_cells (C := C) (E := E) (w := w) (blk := blk) (es.take n).flatten co (fun q c hq => by
          obtain ⟨i, j, cs, e1, e2, e3, e4⟩ := flatten_get hsub q c hq
          rw [List.getElem?_take] at e2
          split at e2
          · obtain ⟨_, hm⟩ := hE.get i cs e2
            obtain ⟨v, hv, hr⟩ := hm.get j c e3
            exact ⟨v, by rw [e1, ← Nat.add_assoc]; exact (hw.mem _ _ _ hv).2, hr⟩
          · cases e2)
        refine ⟨vs, r1, hnl, hsub, fun w' hw' => ?_⟩
        have hvl : vs.length = n * sz := by rw [r1.length, flatten_len hsub, hnl]
        rcases Nat.eq_zero_or_pos rc with h0 | h0
        · have : n = 0 := by omega
          subst this
          have : vs = [] := List.eq_nil_of_length_eq_zero (by simpa using hvl)
          subst this
          simp [Builtin.firstCells, loadCells, loadCellsFrom]
        · have had := h6 h0
          subst had
          exact run_firstCells_some w' sz n _ _ _ vs hvl (fun j v hj => by rw [hw', Addr.add_lit]; exact r2 j v hj)
    · cases h
  · rename_i s
    split at h
    · rename_i hg
      obtain ⟨rfl, hn⟩ := hg
      cases h
      obtain ⟨s', rfl, rfl⟩ := rep_str hu
      have hone : ∀ cs ∈ (((strOf s').take n).map fun (c : Nat) => [AV.int .u8 (c : Int)]), cs.length = 1 := by
        intro cs hc; obtain ⟨c, _, rfl⟩ := List.mem_map.1 hc; rfl
      refine ⟨(s'.data.toList.take n).map fun b => Value.int .u8 b.toNat, ?_, by simp; omega, hone, fun w' hw' => ?_⟩
      · have : ∀ l : List UInt8, RepL C E (((l.map UInt8.toNat).map fun (c : Nat) => [AV.int .u8 (c : Int)]).flatten) (l.map fun b => Value.int .u8 b.toNat) := by
          intro l
          induction l with
          | nil => exact .nil
          | cons b l ih => simpa using RepL.cons _ _ _ _ (.int _ _) ih
        have h2 := this (s'.data.toList.take n)
        unfold strOf
        rw [← List.map_take]
        exact h2
      · simp only [Builtin.firstCells, Sem.run_pure]
        congr 1
        apply Array.ext'
        simp [List.map_take]
    · cases h
  · cases h

theorem len_ok {a : AV} {u : Value} {n : Nat} (h : a.len? = some n) (hu : Rep C E a u) (w' : World) : (Builtin.lenOf u).run P w' = .ok n w' := by
  unfold AV.len? at h
  split at h <;> first | (cases h; done) | skip
  all_goals cases h
  · cases hu; simp [Builtin.lenOf]
  · cases hu; simp [Builtin.lenOf]
  · cases hu; simp [Builtin.lenOf]
  · cases hu with
    | lst _ _ blk co len rc ad hE h1 h2 h6 => subst h1; simp [Builtin.lenOf]
  · obtain ⟨s, rfl, rfl⟩ := rep_str hu; simp [Builtin.lenOf, strOf_length]

section run
variable {t u ty e : TypeId} {i : TypeInfo} {z : Value} {d : TypeDesc} {x : Value} {n : Nat} {news : List Value}

set_option maxHeartbeats 8000000 in
theorem run_append_fits (ht : P.underlying t = some (.slice e)) (hu : P.underlying u = some d) (hd : ∀ k, d ≠ .int k) (hi : P.info? e = some i) (hx : (Builtin.lenOf x).run P w = .ok n w)
    (hf : (Builtin.firstCells i.size n x).run P w = .ok news.toArray w) {a : Addr} {sLen sCap : Nat} (hfit : sLen + n ≤ sCap) {w' : World} (hst : (storeCells (a.add (sLen * i.size)) news).run P w = .ok () w') :
    (Builtin.append_ #[t, u] ty #[.slice (some a) sLen sCap, x]).run P w = .ok (.slice (some a) (sLen + n) sCap) w' := by
  cases d <;> first | (exact absurd rfl (hd _)) | simp [Builtin.append_, run_underlying ht, run_underlying hu, sizeOf, typeInfo, hi, hx, hf, hfit, hst]

set_option maxHeartbeats 8000000 in
theorem run_append_none (ht : P.underlying t = some (.slice e)) (hu : P.underlying u = some d) (hd : ∀ k, d ≠ .int k) (hi : P.info? e = some i) (hx : (Builtin.lenOf x).run P w = .ok 0 w)
    (hf : (Builtin.firstCells i.size 0 x).run P w = .ok #[] w) : (Builtin.append_ #[t, u] ty #[.slice none 0 0, x]).run P w = .ok (.slice none 0 0) w := by
  cases d <;> first | (exact absurd rfl (hd _)) | simp [Builtin.append_, run_underlying ht, run_underlying hu, sizeOf, typeInfo, hi, hx, hf]

set_option maxHeartbeats 8000000 in
theorem run_append_new (ht : P.underlying t = some (.slice e)) (hu : P.underlying u = some d) (hd : ∀ k, d ≠ .int k) (hi : P.info? e = some i) (hz : i.zero = some z) (hx : (Builtin.lenOf x).run P w = .ok n w)
    (hf : (Builtin.firstCells i.size n x).run P w.drew = .ok news.toArray w.drew) {base : Option Addr} {sLen sCap : Nat} {olds : List Value}
    (ho : (Builtin.firstCells i.size sLen (.slice base sLen sCap)).run P w.drew = .ok olds.toArray w.drew) (hfit : sCap < sLen + n) (hb : (sLen + n) * i.bytes ≤ 140737488355328) (hl : sLen + n ≤ 140737488355328) :
    (Builtin.append_ #[t, u] ty #[.slice base sLen sCap, x]).run P w =
      .ok (.slice (some ⟨w.heap.size, 0, none⟩) (sLen + n) (grownCap w (sLen + n) sCap e))
        (w.drew.alloc (.cells (olds.toArray ++ news.toArray ++ Builtin.zeroCells z.cells (grownCap w (sLen + n) sCap e - (sLen + n))) e)) := by
  have hn : ¬ (sLen + n ≤ sCap) := by omega
  have h63' : ¬ (9223372036854775807 < ((sLen : Int) + (n : Int))) := by omega
  have h48' : ¬ (281474976710656 < Builtin.nextslicecap (sLen + n) sCap * i.bytes) := by
    have := growslice_fits (bytes := i.bytes) hfit hb
    omega
  cases d <;> first
    | (exact absurd rfl (hd _))
    | (simp [Builtin.append_, run_underlying ht, run_underlying hu, sizeOf, typeInfo, zeroValue, hi, hz, hx, hn, h63', h48', Question.forced, hf, ho, newRow, grownCap]
       done)
    | (simp [Builtin.append_, run_underlying ht, run_underlying hu, sizeOf, typeInfo, zeroValue, hi, hz, hx, hn, h63', h48', Question.forced, hf, ho, newRow, grownCap]
       congr 2
       apply Array.ext'
       simp [List.append_assoc])
end run

end
end Go.Ev
end
section
set_option linter.unusedVariables false
set_option linter.unusedSimpArgs false
namespace Go.Ev
section
variable {P : Program} {C : Mem} {w0 : World} {E : Emb} {H : Heap} {w : World}

/-- A new row of elements, with room behind it. -/
theorem newRow_ok (hw : WRel C w0 E H w) (hfree : H.blk H.next = none) {w1 : World} (hc1 : Chg w w1 (fun _ _ => False)) (hs1 : w1.heap.size = w.heap.size) {ty esz : Nat} {els : List (List AV)} {vals : List Value} {zs : Array Value} {rc : Nat} (hr : RepL C E els.flatten vals)
    (hl : ∀ cs ∈ els, cs.length = esz) (hrc : els.length ≤ rc) (hz : vals.length + zs.size = rc * esz) {k cap : Nat} {ex : Bool} (hk : k ≤ cap) (hcap : cap ≤ els.length) (hex : ex = true → rc = cap) :
    ∃ E', E.le E' ∧ WRel C w0 E' (H.push (.row ty esz els 0 0)) (w1.alloc (.cells (vals.toArray ++ zs) ty)) ∧
      Rep C E' (.slice H.next 0 k cap ex 0) (.slice (some ⟨w.heap.size, 0, none⟩) k rc) := by
  have hvl : vals.length = els.length * esz := by rw [hr.length, flatten_len hl]
  let L : Loc := ⟨w.heap.size, 0, 0, els.length, esz, rc * esz⟩
  have hnew := hw.newRow hfree (w' := w1.alloc (.cells (vals.toArray ++ zs) ty)) (hc1.trans (Chg.alloc w1 _ _)) ty esz els L rfl (by simp [hs1]) rfl rfl rfl hl (by simp only [L, Nat.zero_add, Nat.sub_zero]; exact Nat.mul_le_mul_right _ hrc)
    (fun o ho => by
      simp only [L] at ho ⊢
      rw [← hs1]
      refine ⟨?_, World.frozen?_alloc_new _ _ _ _⟩
      rw [World.cell?_alloc_new, Array.getElem?_eq_getElem (by simp; omega)]; rfl)
    (fun i j cs c hi h3 h4 => by
      obtain ⟨z, hz, hr'⟩ := hr.get _ _ (flatten_at hl i j cs c h3 h4)
      refine ⟨z, ?_, hr'⟩
      simp only [L]
      rw [← hs1, World.cell?_alloc_new, Nat.zero_add, Array.getElem?_append_left (by have := (List.getElem?_eq_some_iff.1 hz).1; simpa using this)]
      simpa using hz)
  refine ⟨_, hnew.1, hnew.2, ?_⟩
  exact .slice _ 0 k cap ex 0 L _ rc (Emb.set_same _ _ _ _) (by simp [L]) (by simp [L]; omega) hk (by omega) hex (fun _ => by simp [L]) (by simp [L])

theorem setAll_length {els new : List (List AV)} {i : Nat} (h : i + new.length ≤ els.length) : (setAll els i new).length = els.length := by
  simp [setAll]; omega

theorem setAll_get {els new : List (List AV)} {i j : Nat} (h : i + new.length ≤ els.length) : (setAll els i new)[j]? = if i ≤ j ∧ j < i + new.length then new[j - i]? else els[j]? := by
  unfold setAll
  rw [List.append_assoc]
  by_cases h1 : j < i
  · rw [List.getElem?_append_left (by simp; omega), if_neg (by omega), List.getElem?_take, if_pos h1]
  · rw [List.getElem?_append_right (by simp; omega)]
    have e : j - (els.take i).length = j - i := by simp; omega
    rw [e]
    by_cases h2 : j < i + new.length
    · rw [if_pos ⟨by omega, h2⟩, List.getElem?_append_left (by omega)]
    · rw [if_neg (by omega), List.getElem?_append_right (by omega), List.getElem?_drop]
      congr 1
      omega

theorem size_zeroCells' (z : Array Value) (n : Nat) : (Builtin.zeroCells z n).size = n * z.size := by simp [Builtin.zeroCells]

/-- Elements written into a row's newest generation, from element k on. -/
theorem setAll_ok (hw : WRel C w0 E H w) {b ty esz : Nat} {els new : List (List AV)} {gen wgen : Nat} {vals : List Value} {G : Loc} (hb : H.blk b = some (.row ty esz els gen wgen)) (hG : E.loc b gen = some G) {k : Nat} (hlo : G.lo ≤ k)
    (hk : k + new.length ≤ els.length) (hr : RepL C E new.flatten vals) (hl : ∀ cs ∈ new, cs.length = esz) (hcell : new.all (fun cs => cs.all AV.isCell) = true) :
    (storeCells ⟨G.blk, G.co + (k - G.lo) * esz, none⟩ vals).run P w = .ok () (w.setCells G.blk (G.co + (k - G.lo) * esz) vals) ∧
    WRel C w0 E (H.set b (.row ty esz (setAll els k new) gen gen)) (w.setCells G.blk (G.co + (k - G.lo) * esz) vals) := by
  obtain ⟨G', hG', hlocok, hext⟩ := hw.newest hb
  rw [hG] at hG'; cases hG'
  have hrow := hw.row _ _ _ _ _ _ hb
  have hvl : vals.length = new.length * esz := by rw [hr.length, flatten_len hl]
  generalize hoff : G.co + (k - G.lo) * esz = off
  have hroom := hlocok.room
  have hin : ∀ j, j < vals.length → off + j < G.size := fun j hj => by
    have h1 : (k - G.lo + new.length) * esz ≤ (G.ext - G.lo) * esz := Nat.mul_le_mul_right _ (by omega)
    rw [Nat.add_mul] at h1
    omega
  have hc : ∀ j, j < vals.length → (w.cell? ⟨G.blk, off + j, none⟩).isSome = true := fun j hj => (hlocok.shape _ (hin j hj)).1
  have hone : ∀ v ∈ vals, v.oneCell' = true := repL_oneCell hr (by
    rw [List.all_eq_true] at hcell ⊢
    intro c hc'
    obtain ⟨cs, h1, h2⟩ := List.mem_flatten.1 hc'
    exact (List.all_eq_true.1 (hcell cs h1)) c h2)
  refine ⟨run_storeCells_cells (P := P) G.blk off vals 0 w (by simpa using hc) (fun j hj => by simpa using (hlocok.shape _ (hin j hj)).2) hone, ?_⟩
  have hlen' : ∀ (i : Nat) (cs : List AV), (setAll els k new)[i]? = some cs → cs.length = esz := fun i cs h => by
    rw [setAll_get hk] at h
    split at h
    · exact hl cs (List.mem_of_getElem? h)
    · exact hrow.len cs (List.mem_of_getElem? h)
  refine hw.write (Chg.setCells w G.blk off vals hc) hb hG (fun x y ⟨e1, e2, e3⟩ => ⟨e1, ?_⟩) (setAll_length hk) (fun cs hcs => ?_) (fun i j cs c e1 e2 e3 e4 => ?_)
  · subst e1
    have := hc (y - off) (by omega)
    rwa [show off + (y - off) = y by omega] at this
  · obtain ⟨i, hi⟩ := List.getElem?_of_mem hcs
    exact hlen' i cs hi
  · have hj : j < esz := by
      have := hlen' i cs e3
      have := (List.getElem?_eq_some_iff.1 e4).1
      omega
    rw [setAll_get hk] at e3
    split at e3
    · rename_i hki
      obtain ⟨z, hz, hr'⟩ := hr.get _ _ (flatten_at hl (i - k) j cs c e3 e4)
      refine ⟨z, ?_, hr'⟩
      have hlt := (List.getElem?_eq_some_iff.1 hz).1
      have := World.cell?_setCells_in G.blk vals off w hc ((i - k) * esz + j) hlt
      rw [show off + ((i - k) * esz + j) = G.co + (i - G.lo) * esz + j by
        rw [← hoff, show i - G.lo = (k - G.lo) + (i - k) by omega, Nat.add_mul]; omega] at this
      rw [this, ← hz, List.getElem?_eq_getElem hlt]
    · rename_i hki
      obtain ⟨z, hz, hr'⟩ := hlocok.cell i j cs c e1 e2 e3 e4
      refine ⟨z, ?_, hr'⟩
      rw [World.cell?_setCells_out]
      · exact hz
      · intro _ _
        simp only
        apply Classical.byContradiction
        intro hcon
        have hk2 : ∃ p q, p < new.length ∧ q < esz ∧ (i - G.lo) * esz + j = ((k - G.lo) + p) * esz + q := by
          refine ⟨((i - G.lo) * esz + j - (k - G.lo) * esz) / esz, ((i - G.lo) * esz + j - (k - G.lo) * esz) % esz, ?_, Nat.mod_lt _ (by omega), ?_⟩
          · rw [Nat.div_lt_iff_lt_mul (by omega)]; omega
          · have := Nat.div_add_mod ((i - G.lo) * esz + j - (k - G.lo) * esz) esz
            rw [Nat.add_mul]
            rw [Nat.mul_comm] at this
            omega
        obtain ⟨p, q, hp, hq, heq⟩ := hk2
        have := (place_inj hj hq heq).1
        omega

/-- append. -/
theorem append_ok (hw : WRel C w0 E H w) {t u ty e : TypeId} {i : TypeInfo} {z : Value} {d : TypeDesc} (ht : P.underlying t = some (.slice e)) (hu : P.underlying u = some d) (hd : ∀ k, d ≠ .int k) (hi : P.info? e = some i) (hz : i.zero = some z)
    (hzs : z.cells.size = i.size) {s x r : AV} {sv xv : Value} {n : Nat} {new : List (List AV)} {H' : Heap} (hfree : H.blk H.next = none ∨ H'.next = H.next) (hn : x.len? = some n) (he : H.elems i.size n x = some new)
    (ha : H.append e i.size i.bytes s new = some (r, H')) (hs : Rep C E s sv) (hx : Rep C E x xv) :
    ∃ y E' w', (Builtin.append_ #[t, u] ty #[sv, xv]).run P w = .ok y w' ∧ E.le E' ∧ WRel C w0 E' H' w' ∧ Rep C E' r y := by
  obtain ⟨vs, hvs, hnl, hlen, hfc⟩ := elems_ok (P := P) hw he hx
  have hlx := len_ok (P := P) hn hx w
  have hf := hfc w (fun _ => rfl)
  have hfd := hfc w.drew (fun _ => rfl)
  have hvl : vs.length = n * i.size := by rw [hvs.length, flatten_len hlen, hnl]
  have hnil : n = 0 → vs = [] := fun h0 => List.eq_nil_of_length_eq_zero (by rw [hvl, h0, Nat.zero_mul])
  unfold Heap.append at ha
  split at ha
  case isFalse => cases ha
  rename_i hcell
  have made : ∀ (base : Option Addr) (sLen sCap : Nat) (old : List (List AV)) (olds : List Value), old.length = sLen → (∀ cs ∈ old, cs.length = i.size) → RepL C E old.flatten olds →
      (Builtin.firstCells i.size sLen (.slice base sLen sCap)).run P w.drew = .ok olds.toArray w.drew → sCap < sLen + n → (sLen + n) * i.bytes ≤ 140737488355328 → sLen + n ≤ 140737488355328 → H.blk H.next = none →
      ∃ y E' w', (Builtin.append_ #[t, u] ty #[.slice base sLen sCap, xv]).run P w = .ok y w' ∧ E.le E' ∧ WRel C w0 E' (H.push (.row e i.size (old ++ new) 0 0)) w' ∧ Rep C E' (.slice H.next 0 (sLen + n) (sLen + n) false 0) y := by
    intro base sLen sCap old olds h1 h2 h3 h4 h5 h6 h7 hfree
    have hrun := run_append_new (P := P) (ty := ty) ht hu hd hi hz hlx hfd h4 h5 h6 h7
    have hge := grownCap_ge w (sLen + n) sCap e
    have hol : olds.length = sLen * i.size := by rw [h3.length, flatten_len h2, h1]
    have hll : ∀ cs ∈ old ++ new, cs.length = i.size := fun cs hc => by
      rcases List.mem_append.1 hc with hc | hc
      · exact h2 cs hc
      · exact hlen cs hc
    obtain ⟨E', g1, g2, g3⟩ := newRow_ok (ty := e) hw hfree (Chg.drew w _) rfl (els := old ++ new) (vals := olds ++ vs) (zs := Builtin.zeroCells z.cells (grownCap w (sLen + n) sCap e - (sLen + n))) (rc := grownCap w (sLen + n) sCap e)
      (by rw [List.flatten_append]; exact repL_append h3 hvs) hll (by simp; omega) (by
        rw [size_zeroCells', hzs, List.length_append, hol, hvl, ← Nat.add_mul, ← Nat.add_mul]; congr 1; omega) (k := sLen + n) (cap := sLen + n) (ex := false) (Nat.le_refl _) (by simp; omega) (by simp)
    refine ⟨_, E', _, hrun, g1, ?_, g3⟩
    have : (olds ++ vs).toArray ++ Builtin.zeroCells z.cells (grownCap w (sLen + n) sCap e - (sLen + n)) = olds.toArray ++ vs.toArray ++ Builtin.zeroCells z.cells (grownCap w (sLen + n) sCap e - (sLen + n)) := by simp
    rw [this] at g2
    exact g2
  split at ha
  · cases hs
    split at ha
    · rename_i h0
      cases ha
      have h0' : n = 0 := by omega
      subst h0'
      refine ⟨_, E, w, run_append_none (P := P) ht hu hd hi hlx (by rw [hf, hnil rfl]), Emb.le_refl _, hw, .nilslice⟩
    · split at ha
      · rename_i hb
        cases ha
        unfold maxBytes at hb
        have := made none 0 0 [] [] rfl (by simp) .nil (by simp [Builtin.firstCells]) (by omega) (by rw [Nat.zero_add, ← hnl]; exact hb.1) (by omega) (hfree.resolve_right (by simp [Heap.push]))
        simpa [hnl] using this
      · cases ha
  · cases hs with
    | eslice a =>
      split at ha
      · rename_i h0
        cases ha
        have h0' : n = 0 := by omega
        subst h0'
        refine ⟨_, E, w, run_append_fits (P := P) ht hu hd hi hlx hf (by omega) (w' := w) (by rw [hnil rfl]; simp [storeCells]), Emb.le_refl _, hw, .eslice a⟩
      · split at ha
        · rename_i hb
          cases ha
          unfold maxBytes at hb
          have := made (some a) 0 0 [] [] rfl (by simp) .nil (by simp [Builtin.firstCells, loadCells, loadCellsFrom]) (by omega) (by rw [Nat.zero_add, ← hnl]; exact hb.1) (by omega) (hfree.resolve_right (by simp [Heap.push]))
          simpa [hnl] using this
        · cases ha
  · rename_i sz es
    split at ha
    · rename_i h0
      cases ha
      have h0' : n = 0 := by omega
      subst h0'
      have hs' := hs
      cases hs with
      | lst _ _ blk co len rc ad hE h1 h2 h6 =>
        exact ⟨_, E, w, run_append_fits (P := P) ht hu hd hi hlx hf (by omega) (w' := w) (by rw [hnil rfl]; simp [storeCells]), Emb.le_refl _, hw, hs'⟩
    · cases ha
  · rename_i b off len cap ex g
    have hs' := hs
    cases hs with
    | slice _ _ _ _ _ _ L a rc hL h1 h2 h3 h4 h5 h6 h7 =>
      split at ha
      · rename_i h0
        cases ha
        have h0' : n = 0 := by omega
        subst h0'
        exact ⟨_, E, w, run_append_fits (P := P) ht hu hd hi hlx hf (by omega) (w' := w) (by rw [hnil rfl]; simp [storeCells]), Emb.le_refl _, hw, hs'⟩
      · rename_i hnew0
        split at ha
        · rename_i ty' sz els gen wgen hb
          split at ha
          · rename_i hg
            obtain ⟨hg, rfl, hby, hml⟩ := hg
            unfold maxBytes at hby hml
            rw [hnl] at hby hml
            obtain ⟨L', hL', hl⟩ := (hw.row _ _ _ _ _ _ hb).loc g hg ((hw.dom _ _ _ hL).2.2 _ _ _ _ _ hb)
            rw [hL] at hL'; cases hL'
            have hlenE := (hw.row _ _ _ _ _ _ hb).len
            have hext := hl.ext
            have hLsz := hl.sz
            split at ha
            · rename_i hfit
              split at ha
              · rename_i hgg
                subst hgg
                cases ha
                have had := h6 (by omega)
                subst had
                have hst := setAll_ok (P := P) hw hb hL (k := off + len) (by omega) (by omega) hvs hlen hcell
                refine ⟨_, E, _, run_append_fits (P := P) ht hu hd hi hlx hf (by omega) (w' := w.setCells L.blk (L.co + (off + len - L.lo) * i.size) vs) ?_, Emb.le_refl _, hst.2, ?_⟩
                · rw [Addr.add_lit, hLsz, show L.co + (off - L.lo) * i.size + len * i.size = L.co + (off + len - L.lo) * i.size by
                    rw [show off + len - L.lo = (off - L.lo) + len by omega, Nat.add_mul]; omega]
                  exact hst.1
                · rw [← hnl]
                  exact .slice b off (len + new.length) cap ex g L _ rc hL h1 h2 hfit h4 h5 h6 h7
              · cases ha
            · rename_i hnfit
              have holdE : H.elems i.size len (.slice b off len cap ex g) = some ((els.drop off).take len) := by
                simp [Heap.elems, hb, hg]
              obtain ⟨olds, ho1, ho2, ho3, ho4⟩ := elems_ok (P := P) hw holdE hs'
              split at ha
              · rename_i hex
                cases ha
                have := made (some a) len rc _ olds ho2 ho3 ho1 (ho4 w.drew (fun _ => rfl)) (by have := h5 hex; omega) hby hml (hfree.resolve_right (by simp [Heap.push]))
                rw [hnl]
                exact this
              · rename_i hex
                split at ha
                · rename_i hfr
                  obtain ⟨rfl, hfr⟩ := hfr
                  cases ha
                  rw [hnl]
                  by_cases hroom : len + n ≤ rc
                  · -- in place
                    have had := h6 (by omega)
                    subst had
                    have hGext := (hw.row _ _ _ _ _ _ hb).last L hL
                    generalize hoff : L.co + (off + len - L.lo) * i.size = o0
                    have hsp : L.co + (off - L.lo) * i.size + len * i.size = o0 := by
                      rw [← hoff, show off + len - L.lo = (off - L.lo) + len by omega, Nat.add_mul]; omega
                    have hend : L.co + (L.ext - L.lo) * i.size = o0 := by rw [← hoff]; congr 3; omega
                    have hin : ∀ j, j < vs.length → o0 + j < L.size := fun j hj => by
                      have hh : (off - L.lo + (len + n)) * i.size ≤ (off - L.lo + rc) * i.size := Nat.mul_le_mul_right _ (by omega)
                      rw [hLsz] at h7
                      rw [Nat.add_mul, Nat.add_mul] at hh
                      omega
                    have hc : ∀ j, j < vs.length → (w.cell? ⟨L.blk, o0 + j, none⟩).isSome = true := fun j hj => (hl.shape _ (hin j hj)).1
                    have hone : ∀ v ∈ vs, v.oneCell' = true := repL_oneCell hvs (by
                      rw [List.all_eq_true] at hcell ⊢
                      intro c hc'
                      obtain ⟨cs, g1, g2⟩ := List.mem_flatten.1 hc'
                      exact (List.all_eq_true.1 (hcell cs g1)) c g2)
                    have hst := run_storeCells_cells (P := P) L.blk o0 vs 0 w (by simpa using hc) (fun j hj => by simpa using (hl.shape _ (hin j hj)).2) hone
                    have hchg := Chg.setCells w L.blk o0 vs hc
                    let L2 : Loc := ⟨L.blk, L.co, L.lo, L.ext + n, i.size, L.size⟩
                    have hlocok : LocOk C E (w.setCells L.blk o0 vs) w0.heap.size L2 i.size (els ++ new) := by
                      refine ⟨rfl, by have := hl.lo; simp only [L2]; omega, by simp only [L2]; simp; omega, hl.base, Nat.lt_of_lt_of_le hl.lt hchg.size, ?_, fun o ho => ⟨hchg.some _ _ hl.lt (hl.shape o ho).1, by rw [hchg.frozen _ _ hl.lt]; exact (hl.shape o ho).2⟩, ?_⟩
                      · simp only [L2]
                        have hh : (off - L.lo + (len + n)) * i.size ≤ (off - L.lo + rc) * i.size := Nat.mul_le_mul_right _ (by omega)
                        rw [hLsz] at h7
                        rw [show L.ext + n - L.lo = off - L.lo + (len + n) by omega]
                        omega
                      · intro i' j cs c e1 e2 e3 e4
                        simp only [L2] at e1 e2 ⊢
                        by_cases hi' : i' < els.length
                        · rw [List.getElem?_append_left hi'] at e3
                          obtain ⟨zz, hzz, hrr⟩ := hl.cell i' j cs c e1 (by omega) e3 e4
                          refine ⟨zz, ?_, hrr⟩
                          rw [World.cell?_setCells_out]
                          · exact hzz
                          · intro _ _
                            left
                            simp only
                            have hj : j < i.size := by
                              have := hlenE cs (List.mem_of_getElem? e3)
                              have := (List.getElem?_eq_some_iff.1 e4).1
                              omega
                            have hh : (i' - L.lo + 1) * i.size ≤ (L.ext - L.lo) * i.size := Nat.mul_le_mul_right _ (by omega)
                            rw [Nat.add_mul] at hh
                            omega
                        · rw [List.getElem?_append_right (by omega)] at e3
                          obtain ⟨zz, hzz, hrr⟩ := hvs.get _ _ (flatten_at hlen _ j cs c e3 e4)
                          refine ⟨zz, ?_, hrr⟩
                          have hlt := (List.getElem?_eq_some_iff.1 hzz).1
                          have := World.cell?_setCells_in L.blk vs o0 w hc _ hlt
                          rw [show o0 + ((i' - els.length) * i.size + j) = L.co + (i' - L.lo) * i.size + j by
                            rw [← hend, show i' - L.lo = (L.ext - L.lo) + (i' - els.length) by omega, Nat.add_mul]; omega] at this
                          rw [this, ← hzz, List.getElem?_eq_getElem hlt]
                    have hgrow := hw.grow hchg (L := L2) hb hL (fun x y ⟨e1, e2, e3⟩ => ⟨e1, by
                        subst e1
                        have := hc (y - o0) (by omega)
                        rwa [show o0 + (y - o0) = y by omega] at this, by omega⟩) hlen (.inl ⟨rfl, by
                        simp only [L2]
                        have : (L.ext - L.lo) * i.size ≤ (L.ext + n - L.lo) * i.size := Nat.mul_le_mul_right _ (by omega)
                        omega⟩) hlocok (by simp only [L2]; simp; omega)
                    refine ⟨_, _, _, run_append_fits (P := P) ht hu hd hi hlx hf hroom (w' := w.setCells L.blk o0 vs) ?_, hgrow.1, hgrow.2, ?_⟩
                    · rw [Addr.add_lit, hLsz, hsp]; simpa using hst
                    · refine .slice b off (len + n) (len + n) false (g + 1) L2 _ rc (Emb.set_same _ _ _ _) (by simp only [L2]; omega) (by simp only [L2]; omega) (Nat.le_refl _) hroom (by simp) (fun _ => ?_) ?_
                      · simp only [L2]; rw [hLsz]
                      · simp only [L2]; rw [hLsz] at h7; exact h7
                  · -- in a block of its own
                    have hrun := run_append_new (P := P) (ty := ty) ht hu hd hi hz hlx hfd (ho4 w.drew (fun _ => rfl)) (sCap := rc) (base := some a) (by omega) hby hml
                    generalize hgc : grownCap w (len + n) rc e = gc at hrun
                    have hge : len + n ≤ gc := hgc ▸ grownCap_ge w (len + n) rc e
                    have hol : olds.length = len * i.size := by rw [ho1.length, flatten_len ho3, ho2]
                    let cells : Array Value := olds.toArray ++ vs.toArray ++ Builtin.zeroCells z.cells (gc - (len + n))
                    have hcs : cells.size = gc * i.size := by
                      simp only [cells, Array.size_append, List.size_toArray, size_zeroCells', hzs, hol, hvl, ← Nat.add_mul]
                      congr 1; omega
                    let L2 : Loc := ⟨w.heap.size, 0, off, off + len + n, i.size, gc * i.size⟩
                    have hchg : Chg w (w.drew.alloc (.cells cells e)) (fun _ _ => False) := (Chg.drew w _).trans (Chg.alloc w.drew _ _)
                    have hboth : RepL C E (((els.drop off).take len) ++ new).flatten (olds ++ vs) := by rw [List.flatten_append]; exact repL_append ho1 hvs
                    have hbothl : ∀ cs ∈ ((els.drop off).take len) ++ new, cs.length = i.size := fun cs hc => by
                      rcases List.mem_append.1 hc with hc | hc
                      · exact ho3 cs hc
                      · exact hlen cs hc
                    have hdrop : (els.drop off).take len = els.drop off := List.take_of_length_le (by simp; omega)
                    have hlocok : LocOk C E (w.drew.alloc (.cells cells e)) w0.heap.size L2 i.size (els ++ new) := by
                      refine ⟨rfl, by simp only [L2]; omega, by simp only [L2]; simp; omega, by simp only [L2]; exact hw.below.size, by simp [L2], ?_, fun o ho => ?_, ?_⟩
                      · simp only [L2, Nat.zero_add]; exact Nat.mul_le_mul_right _ (by omega)
                      · simp only [L2] at ho ⊢
                        refine ⟨?_, World.frozen?_alloc_new w.drew _ _ _⟩
                        have := World.cell?_alloc_new w.drew cells e o
                        rw [World.size_drew] at this
                        rw [this, Array.getElem?_eq_getElem (by omega)]; rfl
                      · intro i' j cs c e1 e2 e3 e4
                        simp only [L2] at e1 e2 ⊢
                        have e3' : (((els.drop off).take len) ++ new)[i' - off]? = some cs := by
                          rw [hdrop, ← List.drop_append_of_le_length (by omega), List.getElem?_drop, show off + (i' - off) = i' by omega]
                          exact e3
                        obtain ⟨zz, hzz, hrr⟩ := hboth.get _ _ (flatten_at hbothl _ j cs c e3' e4)
                        refine ⟨zz, ?_, hrr⟩
                        have := World.cell?_alloc_new w.drew cells e ((i' - off) * i.size + j)
                        rw [World.size_drew] at this
                        rw [Nat.zero_add, this]
                        have hlt := (List.getElem?_eq_some_iff.1 hzz).1
                        simp only [cells]
                        rw [Array.getElem?_append_left (by simpa using hlt)]
                        rw [← hzz]
                        simp
                    have hgrow := hw.grow hchg (L := L2) hb hL (fun x y hf => hf.elim) hlen (.inr (by simp [L2])) hlocok (by simp only [L2]; simp; omega)
                    refine ⟨_, _, _, hrun, hgrow.1, hgrow.2, ?_⟩
                    refine .slice b off (len + n) (len + n) false (g + 1) L2 _ gc (Emb.set_same _ _ _ _) (by simp only [L2]; omega) (by simp only [L2]; omega) (Nat.le_refl _) hge (by simp) (fun _ => ?_) ?_
                    · simp only [L2]; simp
                    · simp only [L2]; simp
                · cases ha
          · cases ha
        · cases ha
  · cases ha

end
end Go.Ev
end
section
set_option linter.unusedVariables false
set_option linter.unusedSimpArgs false
namespace Go.Ev
section
variable {P : Program} {C : Mem} {w0 : World} {E : Emb} {H : Heap} {w : World}

theorem foldl_set_list (off : Nat) : ∀ (vs : List Value) (k : Nat) (arr : Array Value), off + k + vs.length ≤ arr.size →
    ((vs.zipIdx k).foldl (fun (cs : Array Value) (p : Value × Nat) => cs.setIfInBounds (off + p.2) p.1) arr).toList = arr.toList.take (off + k) ++ vs ++ arr.toList.drop (off + k + vs.length)
  | [], k, arr, _ => by simp
  | v :: vs, k, arr, h => by
    simp only [List.zipIdx_cons, List.foldl_cons]
    rw [foldl_set_list off vs (k + 1) (arr.setIfInBounds (off + k) v) (by simp at h ⊢; omega)]
    have := list_seg_step arr.toList (off + k) v vs (by simp at h ⊢; omega)
    simpa [Nat.add_assoc] using this

/-- The parts of a composite value. -/
inductive RepP (C : Mem) (E : Emb) : List (Nat × AV) → List (Nat × Value) → Prop
  | nil : RepP C E [] []
  | cons (i : Nat) (a : AV) (v : Value) (as : List (Nat × AV)) (vs : List (Nat × Value)) (h : Rep C E a v) (h' : RepP C E as vs) : RepP C E ((i, a) :: as) ((i, v) :: vs)

theorem repP_map {ρ : Operand → AV} {ev : Operand → Value} (hρ : ∀ x, Rep C E (ρ x) (ev x)) : ∀ l : List (Nat × Operand), RepP C E (l.map fun p => (p.1, ρ p.2)) (l.map fun p => (p.1, ev p.2))
  | [] => .nil
  | (i, x) :: l => .cons i _ _ _ _ (hρ x) (repP_map hρ l)

theorem fill_ok {place : Nat → Option (Nat × Nat)} {parts : List (Nat × AV)} {pv : List (Nat × Value)} (hp : RepP C E parts pv) : ∀ {cells r : List AV} {arr : Array Value}, RepL C E cells arr.toList → fillA place cells parts = some r →
    ∃ arr', Instr.fill place arr pv = some arr' ∧ RepL C E r arr'.toList := by
  induction hp with
  | nil => intro cells r arr hr h; simp [fillA] at h; subst h; exact ⟨arr, by simp [Instr.fill], hr⟩
  | cons i a v as vs h h' ih =>
    intro cells r arr hr hf
    simp only [fillA] at hf
    cases hpl : place i with
    | none => simp [hpl] at hf
    | some os =>
      obtain ⟨off, size⟩ := os
      simp only [hpl] at hf
      split at hf
      · rename_i hc
        obtain ⟨hu, hl, hle⟩ := hc
        have hcv := rep_cells h hu
        have hvl : v.cells.size = size := by have := hcv.length; simp at this; omega
        have hal : arr.size = cells.length := by have := hr.length; simpa using this
        have hset := foldl_set_list off v.cells.toList 0 arr (by simp; omega)
        have hr2 : RepL C E (splice cells off a.cells) ((v.cells.zipIdx.foldl (fun (cs : Array Value) (p : Value × Nat) => cs.setIfInBounds (off + p.2) p.1) arr)).toList := by
          have e : v.cells.zipIdx.foldl (fun (cs : Array Value) (p : Value × Nat) => cs.setIfInBounds (off + p.2) p.1) arr = (v.cells.toList.zipIdx).foldl (fun (cs : Array Value) (p : Value × Nat) => cs.setIfInBounds (off + p.2) p.1) arr := by
            rw [← Array.foldl_toList, Array.toList_zipIdx]
          rw [e, hset]
          unfold splice
          have hl2 : v.cells.toList.length = a.cells.length := hcv.length
          rw [← hl2]
          simp only [Nat.add_zero]
          exact repL_append (repL_append (repL_take off hr) hcv) (repL_drop _ hr)
        obtain ⟨arr', h1, h2⟩ := ih hr2 hf
        refine ⟨arr', ?_, h2⟩
        simp only [Instr.fill, hpl]
        rw [if_neg (by simp [hvl]; omega)]
        exact h1
      · cases hf

theorem zero_rep {t : TypeId} {z : AV} (h : zeroOf P t = some z) : ∃ i v, P.info? t = some i ∧ i.zero = some v ∧ Rep C E z v := by
  unfold zeroOf at h
  cases hi : P.info? t with
  | none => simp [hi] at h
  | some i =>
    simp only [hi, Option.bind_some] at h
    cases hz : i.zero with
    | none => simp [hz] at h
    | some v =>
      simp only [hz, Option.map_some, Option.some.injEq] at h
      exact ⟨i, v, rfl, hz, h ▸ rep_avOf v⟩

theorem places_some : ∀ (fs : List Field), fs.all (fun f => (szOf P f.type).isSome) = true → ∃ pl : List (Nat × Nat), fs.mapM (fun (f : Field) => (P.info? f.type).map fun i => (f.offset, i.size)) = some pl ∧
    ∀ i : Nat, pl[i]? = (fs[i]?).bind fun (f : Field) => (szOf P f.type).map fun s => (f.offset, s)
  | [], _ => ⟨[], by simp, by simp⟩
  | f :: fs, h => by
    simp only [List.all_cons, Bool.and_eq_true] at h
    obtain ⟨pl, h1, h2⟩ := places_some fs h.2
    have h3 := h.1
    unfold szOf at h3
    cases hi : P.info? f.type with
    | none => simp [hi] at h3
    | some it =>
      refine ⟨(f.offset, it.size) :: pl, by simp [List.mapM_cons, hi, h1], fun i => ?_⟩
      cases i with
      | zero => simp [szOf, hi]
      | succ i => simpa using h2 i

theorem build_ok {t : TypeId} {parts : List (Nat × AV)} {pv : Array (Nat × Value)} {r : AV} (hp : RepP C E parts pv.toList) (h : evBuild P t parts = some r) :
    ∃ z, (Instr.build t pv).run P w = .ok z w ∧ Rep C E r z := by
  unfold evBuild at h
  split at h
  · rename_i z fs hz hu
    split at h
    · cases h
    · rename_i hun
      split at h
      · rename_i hall
        obtain ⟨it, zv, hi, hzv, hrep⟩ := zero_rep (C := C) (E := E) hz
        obtain ⟨pl, h1, h2⟩ := places_some fs.toList (by rw [← Array.all_toList] at hall; exact hall)
        cases hf : fillA (fun i => (fs[i]?).bind fun (f : Field) => (szOf P f.type).map fun s => (f.offset, s)) z.cells parts with
        | none => simp [hf] at h
        | some cs =>
          simp only [hf, Option.map_some, Option.some.injEq] at h
          subst h
          obtain ⟨arr', g1, g2⟩ := fill_ok hp (arr := zv.cells) (rep_cells hrep (by simpa using hun)) hf
          have hpl : (fun (i : Nat) => (fs[i]?).bind fun (f : Field) => (szOf P f.type).map fun s => (f.offset, s)) = (fun (i : Nat) => pl.toArray[i]?) := by
            funext i
            have := h2 i
            simp only [List.getElem?_toArray, this, Array.getElem?_toList]
          rw [hpl] at g1
          refine ⟨.agg arr', run_build w t pv arr' (by simp only [Program.built, hi, hu, hzv, h1]; exact g1), ?_⟩
          have := Rep.agg (C := C) (E := E) _ _ g2
          simpa using this
      · cases h
  · rename_i z n e hz hu
    split at h
    · cases h
    · rename_i hun
      obtain ⟨it, zv, hi, hzv, hrep⟩ := zero_rep (C := C) (E := E) hz
      cases hs : szOf P e with
      | none => simp [hs] at h
      | some s =>
        simp only [hs, Option.bind_some] at h
        cases hf : fillA (fun i => some (i * s, s)) z.cells parts with
        | none => simp [hf] at h
        | some cs =>
          simp only [hf, Option.map_some, Option.some.injEq] at h
          subst h
          obtain ⟨arr', g1, g2⟩ := fill_ok hp (arr := zv.cells) (rep_cells hrep (by simpa using hun)) hf
          unfold szOf at hs
          cases hie : P.info? e with
          | none => simp [hie] at hs
          | some ie =>
            simp [hie] at hs
            subst hs
            refine ⟨.agg arr', run_build w t pv arr' (by simp only [Program.built, hi, hu, hzv, hie]; exact g1), ?_⟩
            have := Rep.agg (C := C) (E := E) _ _ g2
            simpa using this
  · cases h

theorem flatten_set : ∀ (els : List (List AV)) (i esz : Nat) (c : List AV), (∀ cs ∈ els, cs.length = esz) → i < els.length → c.length = esz → (els.set i c).flatten = splice els.flatten (i * esz) c
  | [], _, _, _, _, h, _ => by simp at h
  | e :: els, 0, esz, c, hl, _, hc => by
    have := hl e (by simp)
    simp [splice, hc]
    rw [List.drop_append_of_le_length (by omega), List.drop_of_length_le (by omega)]
    simp
  | e :: els, i + 1, esz, c, hl, h, hc => by
    have he := hl e (by simp)
    have ih := flatten_set els i esz c (fun cs hcs => hl cs (by simp [hcs])) (by simpa using h) hc
    simp only [List.set_cons_succ, List.flatten_cons, ih, splice]
    rw [show (i + 1) * esz = e.length + i * esz by rw [Nat.add_mul]; omega]
    rw [List.take_length_add_append, show e.length + i * esz + c.length = e.length + (i * esz + c.length) by omega, List.drop_length_add_append]
    simp

theorem fillE_ok {esz : Nat} {parts : List (Nat × AV)} {pv : List (Nat × Value)} (hp : RepP C E parts pv) : ∀ {els r : List (List AV)} {arr : Array Value}, (∀ cs ∈ els, cs.length = esz) → RepL C E els.flatten arr.toList → fillE esz els parts = some r →
    ∃ arr', Instr.fill (fun i => some (i * esz, esz)) arr pv = some arr' ∧ RepL C E r.flatten arr'.toList ∧ (∀ cs ∈ r, cs.length = esz) ∧ r.length = els.length := by
  induction hp with
  | nil => intro els r arr hl hr h; simp [fillE] at h; subst h; exact ⟨arr, by simp [Instr.fill], hr, hl, rfl⟩
  | cons i a v as vs h h' ih =>
    intro els r arr hl hr hf
    simp only [fillE] at hf
    split at hf
    · rename_i hc
      obtain ⟨hu, hla, hi⟩ := hc
      have hcv := rep_cells h hu
      have hvl : v.cells.size = esz := by have := hcv.length; simp at this; omega
      have hfl := flatten_len hl
      have hal : arr.size = els.length * esz := by have := hr.length; rw [hfl] at this; simpa using this
      have hie : i * esz + esz ≤ els.length * esz := by
        have : (i + 1) * esz ≤ els.length * esz := Nat.mul_le_mul_right _ hi
        rw [Nat.add_mul] at this; omega
      have hset := foldl_set_list (i * esz) v.cells.toList 0 arr (by simp; omega)
      have hr2 : RepL C E (els.set i a.cells).flatten ((v.cells.zipIdx.foldl (fun (cs : Array Value) (p : Value × Nat) => cs.setIfInBounds (i * esz + p.2) p.1) arr)).toList := by
        have e : v.cells.zipIdx.foldl (fun (cs : Array Value) (p : Value × Nat) => cs.setIfInBounds (i * esz + p.2) p.1) arr = (v.cells.toList.zipIdx).foldl (fun (cs : Array Value) (p : Value × Nat) => cs.setIfInBounds (i * esz + p.2) p.1) arr := by
          rw [← Array.foldl_toList, Array.toList_zipIdx]
        rw [e, hset, flatten_set els i esz a.cells hl hi hla]
        unfold splice
        have hl2 : v.cells.toList.length = a.cells.length := hcv.length
        rw [← hl2]
        simp only [Nat.add_zero]
        exact repL_append (repL_append (repL_take _ hr) hcv) (repL_drop _ hr)
      obtain ⟨arr', h1, h2, h3, h4⟩ := ih (els := els.set i a.cells) (fun cs hcs => by
        rcases List.mem_or_eq_of_mem_set hcs with hm | rfl
        · exact hl cs hm
        · exact hla) hr2 hf
      refine ⟨arr', ?_, h2, h3, by simpa using h4⟩
      simp only [Instr.fill]
      rw [if_neg (by simp [hvl]; omega)]
      exact h1
    · cases hf

theorem made_rep {zc : List AV} {zv : Array Value} (hz : RepL C E zc zv.toList) (n : Nat) : RepL C E (List.replicate n zc).flatten (madeCells zv (n * zv.size)).toList := by
  have hl : zc.length = zv.size := by have := hz.length; simp at this; omega
  have hlen : ∀ cs ∈ List.replicate n zc, cs.length = zv.size := fun cs hc => by rw [(List.mem_replicate.1 hc).2, hl]
  refine RepL.of_get (by rw [flatten_len hlen]; simp [madeCells]) (fun q a v ha hv => ?_)
  obtain ⟨i, j, cs, h1, h2, h3, h4⟩ := flatten_get hlen q a ha
  obtain rfl : cs = zc := by
    rw [List.getElem?_replicate] at h2
    split at h2
    · cases h2; rfl
    · cases h2
  obtain ⟨u, hu, hr⟩ := hz.get j a h3
  have hmod : q % zv.size = j := by rw [h1, Nat.mul_comm, Nat.mul_add_mod, Nat.mod_eq_of_lt h4]
  have : v = u := by
    simp only [madeCells, Array.toList_map, Array.toList_range, List.getElem?_map] at hv
    cases hq : (List.range (n * zv.size))[q]? with
    | none => simp [hq] at hv
    | some q' =>
      have hq' : q' = q := by
        have := List.getElem?_eq_some_iff.1 hq
        obtain ⟨_, e⟩ := this
        simpa using e.symm
      subst hq'
      simp only [hq, Option.map_some, Option.some.injEq] at hv
      rw [← hv, hmod]
      simp only [Array.getElem?_toList] at hu
      rw [getElem!_def, hu]
  rw [this]
  exact hr

theorem elemOfSlice_eq {t e : TypeId} (h : elemOfSlice P t = some e) : P.underlying t = some (.slice e) := by
  unfold elemOfSlice at h
  split at h
  · rename_i e' he; cases h; exact he
  · cases h

theorem buildSlice_ok (hw : WRel C w0 E H w) (hfree : H.blk H.next = none) {t : TypeId} {len : Nat} {parts : List (Nat × AV)} {pv : Array (Nat × Value)} {r : AV} {H' : Heap} (hp : RepP C E parts pv.toList) (h : evBuildSlice P H t len parts = some (r, H')) :
    ∃ z E' w', (Instr.buildSlice t len pv).run P w = .ok z w' ∧ E.le E' ∧ WRel C w0 E' H' w' ∧ Rep C E' r z := by
  unfold evBuildSlice at h
  cases he : elemOfSlice P t with
  | none => simp [he] at h
  | some e =>
    have ht := elemOfSlice_eq he
    simp only [he, Option.bind_some] at h
    split at h
    · rename_i s z hs hz
      split at h
      · rename_i hc
        obtain ⟨hc1, hc2, hc3⟩ := hc
        cases hf : fillE s (List.replicate len z.cells) parts with
        | none => simp [hf] at h
        | some els =>
          simp only [hf, Option.map_some, Option.some.injEq, Prod.mk.injEq] at h
          obtain ⟨rfl, rfl⟩ := h
          obtain ⟨it, zv, hi, hzv, hrep⟩ := zero_rep (C := C) (E := E) hz
          have hzc := rep_cells hrep hc2
          have hzs : zv.cells.size = s := by have := hzc.length; simp at this; omega
          have hmade := made_rep hzc len
          rw [hzs] at hmade
          obtain ⟨arr', g1, g2, g3, g4⟩ := fillE_ok hp (els := List.replicate len z.cells) (arr := madeCells zv.cells (len * s)) (fun cs hcs => by rw [(List.mem_replicate.1 hcs).2, hc3]) hmade hf
          have hlen : els.length = len := by simpa using g4
          have hal : arr'.size = len * s := by have := g2.length; rw [flatten_len g3, hlen] at this; simpa using this
          obtain ⟨E', e1, e2, e3⟩ := newRow_ok (ty := e) hw hfree (Chg.refl w _) rfl (els := els) (vals := arr'.toList) (zs := #[]) (rc := len) g2 g3 (by omega) (by simp [hal]) (k := len) (cap := len) (ex := true) (Nat.le_refl _) (by omega) (fun _ => rfl)
          refine ⟨_, E', _, ?_, e1, e2, e3⟩
          have hsz : it.size = s := by unfold szOf at hs; simp [hi] at hs; exact hs
          have hle : ¬ (16777216 < len * s) := by omega
          by_cases h0 : len * s = 0
          · have hm : (madeCells zv.cells (len * s)) = #[] := by rw [h0]; simp [madeCells]
            rw [hm] at g1
            simp [Instr.buildSlice, run_underlying ht, sizeOf, typeInfo, hi, hsz, hle, h0, g1, newRow, Array.range_zero']
          · simp only [madeCells] at g1
            simp [Instr.buildSlice, run_underlying ht, sizeOf, typeInfo, zeroValue, hi, hzv, hsz, hle, h0, g1, newRow]
      · cases h
    · cases h

theorem makeSlice_ok (hw : WRel C w0 E H w) (hfree : H.blk H.next = none) {t : TypeId} {l c r : AV} {lv cv : Value} {H' : Heap} (hl : Rep C E l lv) (hc : Rep C E c cv) (h : evMakeSlice P H t l c = some (r, H')) :
    ∃ z E' w', (Instr.makeSlice t lv cv).run P w = .ok z w' ∧ E.le E' ∧ WRel C w0 E' H' w' ∧ Rep C E' r z := by
  unfold evMakeSlice at h
  cases he : elemOfSlice P t with
  | none => simp [he] at h
  | some e =>
    have ht := elemOfSlice_eq he
    simp only [he, Option.bind_some] at h
    split at h
    · rename_i it z k l k' c hi hz
      obtain rfl := rep_int hl
      obtain rfl := rep_int hc
      split at h
      · rename_i hcond
        obtain ⟨c1, c2, c3, c4, c5, c6⟩ := hcond
        cases h
        obtain ⟨it', zv, hi', hzv, hrep⟩ := zero_rep (C := C) (E := E) hz
        rw [hi] at hi'; cases hi'
        have hzc := rep_cells hrep c5
        have hzs : zv.cells.size = it.size := by have := hzc.length; simp at this; omega
        have hmade := made_rep hzc c.toNat
        rw [hzs] at hmade
        have hrun := run_make (P := P) w t e it zv ht hi hzv k k' l c c1 c2 (by omega) c3
        have hll : ∀ cs ∈ List.replicate c.toNat z.cells, cs.length = it.size := fun cs hcs => by rw [(List.mem_replicate.1 hcs).2, c6]
        obtain ⟨E', e1, e2, e3⟩ := newRow_ok (ty := e) hw hfree (Chg.refl w _) rfl (els := List.replicate c.toNat z.cells) (vals := (madeCells zv.cells (c.toNat * it.size)).toList) (zs := #[]) (rc := c.toNat) hmade hll (by simp) (by
          have := hmade.length; rw [flatten_len hll] at this; simpa using this) (k := l.toNat) (cap := c.toNat) (ex := true) (by omega) (by simp) (fun _ => rfl)
        refine ⟨_, E', _, hrun, e1, ?_, e3⟩
        simpa using e2
      · cases h
    · cases h

end
end Go.Ev
end
section
set_option linter.unusedVariables false
set_option linter.unusedSimpArgs false
namespace Go.Ev
section
variable {P : Program} {C : Mem} {w0 : World} {E : Emb} {H : Heap} {w : World}

theorem strOf_extract (s : ByteArray) (l h : Nat) : strOf (s.extract l h) = ((strOf s).drop l).take (h - l) := by
  unfold strOf
  rw [← List.map_drop, ← List.map_take]
  congr 1
  have : (s.extract l h).data = s.data.extract l h := by simp
  rw [this]
  simp [List.take_drop]

theorem bnd (ρ : Operand → AV) {ev : Operand → Value} (hρ : ∀ x, Rep C E (ρ x) (ev x)) {o : Option Operand} {n : Option Int} (h : optInt ρ o = some n) (d : Int) : (o.map ev = none ∧ n.getD d = d ∧ n = none) ∨ ∃ k, o.map ev = some (.int k (n.getD d)) ∧ n = some (n.getD d) := by
  rcases optInt_rep hρ h with ⟨rfl, rfl⟩ | ⟨k, m, rfl, hm⟩
  · exact .inl ⟨rfl, rfl, rfl⟩
  · exact .inr ⟨k, by simpa using hm, rfl⟩

theorem bnd' (ρ : Operand → AV) {ev : Operand → Value} (hρ : ∀ x, Rep C E (ρ x) (ev x)) {o : Option Operand} {n : Option Int} (h : optInt ρ o = some n) (d : Int) : (o.map ev = none ∧ n.getD d = d) ∨ ∃ k, o.map ev = some (.int k (n.getD d)) := by
  rcases bnd ρ hρ h d with ⟨h1, h2, _⟩ | ⟨k, h1, _⟩
  · exact .inl ⟨h1, h2⟩
  · exact .inr ⟨k, h1⟩

theorem sliceAt_eq {t : TypeId} {d : TypeDesc} (ht : P.underlying t = some d) (hd : ∀ n e, d ≠ .array n e) (x : Value) (lo hi mx : Option Value) : (Instr.sliceAt t x lo hi mx).run P w = (Instr.slice t x lo hi mx).run P w := by
  cases d <;> first | (exact absurd rfl (hd _ _)) | simp [Instr.sliceAt, run_underlying ht]

set_option maxHeartbeats 1000000 in
theorem slice_ok (hw : WRel C w0 E H w) {ρ : Operand → AV} {ev : Operand → Value} (hρ : ∀ x, Rep C E (ρ x) (ev x)) {t : TypeId} {a r : AV} {u : Value} {lo hi mx : Option Operand} {l h m : Option Int}
    (hl : optInt ρ lo = some l) (hh : optInt ρ hi = some h) (hm : optInt ρ mx = some m) (hs : evSlice P H t a l h m = some r) (hu : Rep C E a u) :
    ∃ z, (Instr.sliceAt t u (lo.map ev) (hi.map ev) (mx.map ev)).run P w = .ok z w ∧ Rep C E r z := by
  have L0 := bnd' ρ hρ hl 0
  have mnone : m = none → mx.map ev = none := fun e => by
    rcases optInt_rep hρ hm with ⟨rfl, _⟩ | ⟨k, q, e2, _⟩
    · rfl
    · rw [e] at e2; cases e2
  have msome : ∀ q, m = some q → ∃ k, mx.map ev = some (.int k q) := fun q e => by
    rcases optInt_rep hρ hm with ⟨rfl, e2⟩ | ⟨k, q', e2, e3⟩
    · rw [e] at e2; cases e2
    · rw [e] at e2; cases e2; exact ⟨k, e3⟩
  have hsome : ∀ q, h = some q → ∃ k, hi.map ev = some (.int k q) := fun q e => by
    rcases optInt_rep hρ hh with ⟨rfl, e2⟩ | ⟨k, q', e2, e3⟩
    · rw [e] at e2; cases e2
    · rw [e] at e2; cases e2; exact ⟨k, e3⟩
  simp only [evSlice] at hs
  split at hs
  · -- string
    rename_i s ht
    split at hs
    · rename_i hb
      cases hs
      obtain ⟨s', rfl, rfl⟩ := rep_str hu
      have hb' := boundsOk_iff hb
      rw [strOf_length] at hb'
      have H0 := bnd' ρ hρ hh (strOf s').length
      rw [strOf_length] at H0
      refine ⟨.string (s'.extract (l.getD 0).toNat (h.getD s'.size).toNat), ?_, .str _ _ ?_⟩
      · rw [sliceAt_eq ht (by simp)]
        simp [Instr.slice, run_underlying ht, mnone rfl, run_sliceBounds (P := P) w (isS := false) (len := s'.size) (cap := s'.size) L0 H0 hb']
      · rw [strOf_extract, strOf_length]
        congr 1
        omega
    · cases hs
  · -- nil
    rename_i e ht
    split at hs
    · rename_i hb
      cases hs
      cases hu
      simp only [Bool.and_eq_true] at hb
      obtain ⟨hb, hz⟩ := hb
      obtain ⟨n, hn⟩ := Option.isSome_iff_exists.1 hz
      have H0 := bnd' ρ hρ hh 0
      have hb' := boundsOk_iff hb
      refine ⟨.slice none 0 0, ?_, .nilslice⟩
      rw [sliceAt_eq ht (by simp)]
      simp [Instr.slice, run_underlying ht, mnone rfl, run_sliceBounds (P := P) w (isS := true) (len := 0) (cap := 0) L0 H0 hb', run_sizeOf' w hn]
      omega
    · cases hs
  · -- nil, max
    rename_i e q ht
    split at hs
    · rename_i h'
      split at hs
      · rename_i hb
        cases hs
        cases hu
        simp only [Bool.and_eq_true, decide_eq_true_eq] at hb
        obtain ⟨⟨hb, hq⟩, hz⟩ := hb
        obtain ⟨n, hn⟩ := Option.isSome_iff_exists.1 hz
        have hb' := boundsOk_iff hb
        obtain ⟨km, hmx⟩ := msome q rfl
        obtain ⟨kh, hhx⟩ := hsome h' rfl
        refine ⟨.slice none 0 0, ?_, .nilslice⟩
        rw [sliceAt_eq ht (by simp), hmx, hhx]
        simp [Instr.slice, run_underlying ht, run_sliceBounds3 (P := P) w (isS := true) (len := 0) (cap := 0) L0 ⟨hb'.1, hb'.2.1, hb'.2.2, by simpa using hq⟩, run_sizeOf' w hn]
        omega
      · cases hs
    · cases hs
  · -- the empty one
    rename_i e ht
    split at hs
    · rename_i hb
      cases hs
      cases hu with
      | eslice ad =>
        simp only [Bool.and_eq_true] at hb
        obtain ⟨hb, hz⟩ := hb
        obtain ⟨n, hn⟩ := Option.isSome_iff_exists.1 hz
        have H0 := bnd' ρ hρ hh 0
        have hb' := boundsOk_iff hb
        refine ⟨.slice (some ad) 0 0, ?_, .eslice ad⟩
        rw [sliceAt_eq ht (by simp)]
        have e0 : (l.getD 0).toNat = 0 := by omega
        have e1 : (h.getD 0).toNat = 0 := by omega
        simp [Instr.slice, run_underlying ht, mnone rfl, run_sliceBounds (P := P) w (isS := true) (len := 0) (cap := 0) L0 H0 hb', run_sizeOf' w hn, e0, e1]
    · cases hs
  · -- list
    rename_i e sz es ht
    split at hs
    · rename_i hb
      cases hs
      simp only [Bool.and_eq_true, decide_eq_true_eq] at hb
      obtain ⟨hb, hn⟩ := hb
      have hb' := boundsOk_iff hb
      cases hu with
      | lst _ _ blk co len rc ad hE h1 h2 h6 =>
        subst h1
        have H0 := bnd' ρ hρ hh es.length
        have hb2 : 0 ≤ l.getD 0 ∧ l.getD 0 ≤ h.getD es.length ∧ h.getD es.length ≤ (rc : Int) := ⟨hb'.1, hb'.2.1, by omega⟩
        generalize hl0 : l.getD 0 = l0 at *
        generalize hh0 : h.getD (es.length : Int) = h0 at *
        have hrepE : ∀ {blk co sz : Nat} {es : List (List AV)} (k : Nat), RepE C E blk co sz es → RepE C E blk (co + min k es.length * sz) sz (es.drop k) := by
          intro blk co sz es k
          induction k generalizing co es with
          | zero => intro hx; simpa using hx
          | succ k ih =>
            intro hx
            cases hx with
            | nil => simpa using RepE.nil _ _ _
            | cons _ _ _ cs es' q1 q2 q3 =>
              have := ih q3
              simp only [List.drop_succ_cons, List.length_cons]
              rw [show min (k + 1) (es'.length + 1) = min k es'.length + 1 by omega, Nat.add_mul]
              rw [show co + (min k es'.length * sz + 1 * sz) = co + sz + min k es'.length * sz by omega]
              exact this
        have htake : ∀ {blk co sz : Nat} {es : List (List AV)} (k : Nat), RepE C E blk co sz es → RepE C E blk co sz (es.take k) := by
          intro blk co sz es k
          induction k generalizing co es with
          | zero => intro _; simpa using RepE.nil _ _ _
          | succ k ih =>
            intro hx
            cases hx with
            | nil => simpa using RepE.nil _ _ _
            | cons _ _ _ cs es' q1 q2 q3 => simpa using RepE.cons _ _ _ _ _ q1 q2 (ih q3)
        have hmin : min l0.toNat es.length = l0.toNat := by omega
        have hsub := htake (h0 - l0).toNat (hrepE l0.toNat hE)
        rw [hmin] at hsub
        refine ⟨.slice (some (if rc = l0.toNat then ad else ad.add (l0.toNat * sz))) (h0.toNat - l0.toNat) (rc - l0.toNat), ?_, ?_⟩
        · rw [sliceAt_eq ht (by simp)]
          simp [Instr.slice, run_underlying ht, mnone rfl, run_sliceBounds (P := P) w (isS := true) (len := es.length) (cap := rc) L0 H0 hb2, run_sizeOf' w hn]
          split <;> rfl
        · refine .lst sz _ blk (co + l0.toNat * sz) _ _ _ hsub (by simp; omega) (by omega) (fun hpos => ?_)
          rw [if_neg (by omega), h6 (by omega), Addr.add_lit]
    · cases hs
  · -- list, max
    rename_i e sz es q ht
    split at hs
    · rename_i h'
      split at hs
      · rename_i hb
        cases hs
        simp only [Bool.and_eq_true, decide_eq_true_eq] at hb
        obtain ⟨⟨⟨hb, hq⟩, hlq⟩, hn⟩ := hb
        have hb' := boundsOk_iff hb
        obtain ⟨km, hmx⟩ := msome q rfl
        obtain ⟨kh, hhx⟩ := hsome h' rfl
        cases hu with
        | lst _ _ blk co len rc ad hE h1 h2 h6 =>
          subst h1
          have e1 : h' = q := by omega
          subst e1
          refine ⟨.slice (some ad) 0 0, ?_, .eslice ad⟩
          rw [sliceAt_eq ht (by simp), hmx, hhx]
          simp [Instr.slice, run_underlying ht, run_sliceBounds3 (P := P) w (isS := true) (len := es.length) (cap := rc) L0 ⟨hb'.1, hb'.2.1, hb'.2.2, by omega⟩, run_sizeOf' w hn, hlq]
      · cases hs
    · cases hs
  · -- row
    rename_i e b off len cap ex g ht
    split at hs
    · rename_i hb
      cases hs
      simp only [Bool.and_eq_true, decide_eq_true_eq] at hb
      obtain ⟨hb, hz, hez⟩ := hb
      obtain ⟨n, hn⟩ := Option.isSome_iff_exists.1 hz
      have hb' := boundsOk_iff hb
      cases hu with
      | slice _ _ _ _ _ _ L ad rc hL h1 h2 h3 h4 h5 h6 h7 =>
        have hesz := (hw.esz (by rw [← hez, hn]) hL).sz
        have H0 := bnd' ρ hρ hh len
        have hb2 : 0 ≤ l.getD 0 ∧ l.getD 0 ≤ h.getD len ∧ h.getD len ≤ (rc : Int) := ⟨hb'.1, hb'.2.1, by omega⟩
        generalize hl0 : l.getD 0 = l0 at *
        generalize hh0 : h.getD (len : Int) = h0 at *
        refine ⟨.slice (some (if rc = l0.toNat then ad else ad.add (l0.toNat * n))) (h0.toNat - l0.toNat) (rc - l0.toNat), ?_, ?_⟩
        · rw [sliceAt_eq ht (by simp)]
          simp [Instr.slice, run_underlying ht, mnone rfl, run_sliceBounds (P := P) w (isS := true) (len := len) (cap := rc) L0 H0 hb2, run_sizeOf' w hn]
          split <;> rfl
        · have e : (h0 - l0).toNat = h0.toNat - l0.toNat := by omega
          rw [e]
          refine .slice b _ _ _ ex g L _ _ hL (by omega) (by omega) (by omega) (by omega) (fun hx => by have := h5 hx; omega) (fun hpos => ?_) ?_
          · rw [if_neg (by omega), h6 (by omega), Addr.add_lit, hesz, show off + l0.toNat - L.lo = (off - L.lo) + l0.toNat by omega, Nat.add_mul]
            congr 1
            omega
          · rw [show off + l0.toNat - L.lo + (rc - l0.toNat) = off - L.lo + rc by omega]
            exact h7
    · cases hs
  · -- row, max
    rename_i e b off len cap ex g q ht
    split at hs
    · rename_i h'
      split at hs
      · rename_i hb
        simp only [Bool.and_eq_true, decide_eq_true_eq] at hb
        obtain ⟨⟨hb, hq⟩, hz, hez⟩ := hb
        obtain ⟨n, hn⟩ := Option.isSome_iff_exists.1 hz
        have hb' := boundsOk_iff hb
        obtain ⟨km, hmx⟩ := msome q rfl
        obtain ⟨kh, hhx⟩ := hsome h' rfl
        cases hu with
        | slice _ _ _ _ _ _ L ad rc hL h1 h2 h3 h4 h5 h6 h7 =>
          have hesz := (hw.esz (by rw [← hez, hn]) hL).sz
          generalize hl0 : l.getD 0 = l0 at *
          have hrun : (Instr.sliceAt t (.slice (some ad) len rc) (lo.map ev) (hi.map ev) (mx.map ev)).run P w = .ok (.slice (some (if q.toNat = l0.toNat then ad else ad.add (l0.toNat * n))) (h'.toNat - l0.toNat) (q.toNat - l0.toNat)) w := by
            rw [sliceAt_eq ht (by simp), hmx, hhx]
            simp [Instr.slice, run_underlying ht, run_sliceBounds3 (P := P) w (isS := true) (len := len) (cap := rc) L0 ⟨hb'.1, hb'.2.1, hb'.2.2, by omega⟩, run_sizeOf' w hn]
            split <;> rfl
          split at hs
          · rename_i hlq
            cases hs
            have e1 : h' = q := by omega
            refine ⟨_, hrun, ?_⟩
            rw [e1, hlq, Nat.sub_self]
            exact .eslice _
          · rename_i hlq
            cases hs
            refine ⟨_, hrun, ?_⟩
            rw [show (h' - l0).toNat = h'.toNat - l0.toNat by omega, show (q - l0).toNat = q.toNat - l0.toNat by omega]
            refine .slice b _ _ _ true g L _ _ hL (by omega) (by omega) (by omega) (by omega) (fun _ => rfl) (fun hpos => ?_) ?_
            · rw [if_neg (by omega), h6 (by omega), Addr.add_lit, hesz, show off + l0.toNat - L.lo = (off - L.lo) + l0.toNat by omega, Nat.add_mul]
              congr 1
              omega
            · have : L.co + (off - L.lo + rc) * L.esz ≤ L.size := h7
              have h8 : (off + l0.toNat - L.lo + (q.toNat - l0.toNat)) * L.esz ≤ (off - L.lo + rc) * L.esz := Nat.mul_le_mul_right _ (by omega)
              omega
      · cases hs
    · cases hs
  · cases hs

theorem field_eq {s : TypeId} {f : Nat} {fd : Field} (h : fieldOf P s f = some fd) : ∃ fs, P.underlying s = some (.struct fs) ∧ fs[f]? = some fd := by
  unfold fieldOf at h
  split at h
  · rename_i fs hfs; exact ⟨fs, hfs, h⟩
  · cases h

theorem fieldAt_ok {s : TypeId} {f n : Nat} {fd : Field} (h : fieldOf P s f = some fd) (hn : szOf P fd.type = some n) (h0 : n ≠ 0) (b o : Nat) :
    (Instr.fieldAt s (.pointer (some ⟨b, o, none⟩)) f).run P w = .ok (.pointer (some ⟨b, o + fd.offset, none⟩)) w := by
  obtain ⟨fs, h1, h2⟩ := field_eq h
  simp [Instr.fieldAt, run_underlying h1, h2, Instr.sureAddr, fieldPlace, run_sizeOf' w hn, h0, Addr.add_lit]

theorem field_ok {s : TypeId} {f : Nat} {fd : Field} (h : fieldOf P s f = some fd) {cs : List AV} {vs : List Value} {r : AV} (hr : RepL C E cs vs) (hp : partOf P fd.type cs fd.offset = some r) :
    ∃ z, (Instr.field s (.agg vs.toArray) f).run P w = .ok z w ∧ Rep C E r z := by
  obtain ⟨fs, h1, h2⟩ := field_eq h
  obtain ⟨z, hz, hrep⟩ := run_part' w hr hp
  exact ⟨z, by simp [Instr.field, run_underlying h1, h2, asAgg, hz], hrep⟩

end
end Go.Ev
end
