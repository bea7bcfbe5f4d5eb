import Derived.Below
set_option linter.unusedSimpArgs false
set_option linter.unusedVariables false
namespace Go.Ev

/-- An abstract value. -/
inductive AV where
  | undef
  | bool (b : Bool)
  | int (k : IntKind) (n : Int)
  | str (s : List Nat)
  | nilptr
  | ptr (b i o g : Nat)
  | iptr (cs : List AV) (o : Nat)
  | nilslice
  | eslice
  | slice (b off len cap : Nat) (ex : Bool) (g : Nat)
  | lst (sz : Nat) (es : List (List AV))
  | agg (cs : List AV)
  | tuple (vs : List AV)
  | nilIface
  | iface (t : TypeId) (v : AV)
  | nilFunc
  | func (f : Fn) (first captured : List AV)
  | nilMap
  | map (b : Nat)
  deriving Inhabited

def AV.cells : AV → List AV
  | .agg cs => cs
  | v => [v]

/-- A value of one cell. -/
def AV.isCell : AV → Bool
  | .undef | .agg _ | .tuple _ => false
  | _ => true

/-- Where a row (block b, generation g) lies: its elements lo to ext - 1 from cell co on of block blk, esz cells each; the block has size cells. -/
structure Loc where
  blk : Nat
  co : Nat
  lo : Nat
  ext : Nat
  esz : Nat
  size : Nat

structure Emb where
  loc : Nat → Nat → Option Loc
  mloc : Nat → Option Nat

def Emb.le (E E' : Emb) : Prop := (∀ b g L, E.loc b g = some L → E'.loc b g = some L) ∧ (∀ b m, E.mloc b = some m → E'.mloc b = some m)

theorem Emb.le_refl (E : Emb) : E.le E := ⟨fun _ _ _ h => h, fun _ _ h => h⟩
theorem Emb.le_trans {E E' E'' : Emb} (h : E.le E') (h' : E'.le E'') : E.le E'' :=
  ⟨fun b g L x => h'.1 b g L (h.1 b g L x), fun b m x => h'.2 b m (h.2 b m x)⟩

/-- Memory that stays as it is. -/
abbrev Mem := Nat → Nat → Option Value

def strOf (s : ByteArray) : List Nat := s.data.toList.map UInt8.toNat

mutual
inductive Rep (C : Mem) (E : Emb) : AV → Value → Prop
  | undef (v : Value) : Rep C E .undef v
  | bool (b : Bool) : Rep C E (.bool b) (.bool b)
  | int (k : IntKind) (n : Int) : Rep C E (.int k n) (.int k n)
  | str (s : ByteArray) (l : List Nat) (h : strOf s = l) : Rep C E (.str l) (.string s)
  | nilptr : Rep C E .nilptr (.pointer none)
  | ptr (b i o g : Nat) (L : Loc) (off : Nat) (hL : E.loc b g = some L) (h1 : L.lo ≤ i) (h2 : i < L.ext) (h3 : off = L.co + (i - L.lo) * L.esz + o) :
      Rep C E (.ptr b i o g) (.pointer (some ⟨L.blk, off, none⟩))
  | iptr (cs : List AV) (o blk co off : Nat) (h : RepM C E blk co cs) (h3 : off = co + o) : Rep C E (.iptr cs o) (.pointer (some ⟨blk, off, none⟩))
  | nilslice : Rep C E .nilslice (.slice none 0 0)
  | eslice (a : Addr) : Rep C E .eslice (.slice (some a) 0 0)
  | slice (b off len cap : Nat) (ex : Bool) (g : Nat) (L : Loc) (a : Addr) (rc : Nat) (hL : E.loc b g = some L) (h1 : L.lo ≤ off) (h2 : off + cap ≤ L.ext)
      (h3 : len ≤ cap) (h4 : cap ≤ rc) (h5 : ex = true → rc = cap) (h6 : 0 < rc → a = ⟨L.blk, L.co + (off - L.lo) * L.esz, none⟩)
      (h7 : L.co + (off - L.lo + rc) * L.esz ≤ L.size) :
      Rep C E (.slice b off len cap ex g) (.slice (some a) len rc)
  | lst (sz : Nat) (es : List (List AV)) (blk co len rc : Nat) (a : Addr) (h : RepE C E blk co sz es) (h1 : len = es.length) (h2 : len ≤ rc) (h6 : 0 < rc → a = ⟨blk, co, none⟩) :
      Rep C E (.lst sz es) (.slice (some a) len rc)
  | agg (cs : List AV) (vs : List Value) (h : RepL C E cs vs) : Rep C E (.agg cs) (.agg vs.toArray)
  | tuple (cs : List AV) (vs : List Value) (h : RepL C E cs vs) : Rep C E (.tuple cs) (.tuple vs.toArray)
  | nilIface : Rep C E .nilIface .nilIface
  | iface (t : TypeId) (a : AV) (v : Value) (h : Rep C E a v) : Rep C E (.iface t a) (.iface t v)
  | nilFunc : Rep C E .nilFunc .nilFunc
  | func (f : Fn) (xs ys : List AV) (vs us : List Value) (h : RepL C E xs vs) (h' : RepL C E ys us) : Rep C E (.func f xs ys) (.func f vs.toArray us.toArray)
  | nilMap : Rep C E .nilMap (.map none)
  | map (b m : Nat) (h : E.mloc b = some m) : Rep C E (.map b) (.map (some m))
inductive RepL (C : Mem) (E : Emb) : List AV → List Value → Prop
  | nil : RepL C E [] []
  | cons (a : AV) (v : Value) (as : List AV) (vs : List Value) (h : Rep C E a v) (h' : RepL C E as vs) : RepL C E (a :: as) (v :: vs)
/-- In the memory that stays: these values from a cell on. -/
inductive RepM (C : Mem) (E : Emb) : Nat → Nat → List AV → Prop
  | nil (blk co : Nat) : RepM C E blk co []
  | cons (blk co : Nat) (a : AV) (as : List AV) (v : Value) (hv : C blk co = some v) (h : Rep C E a v) (h' : RepM C E blk (co + 1) as) : RepM C E blk co (a :: as)
/-- In the memory that stays: these elements from a cell on. -/
inductive RepE (C : Mem) (E : Emb) : Nat → Nat → Nat → List (List AV) → Prop
  | nil (blk co sz : Nat) : RepE C E blk co sz []
  | cons (blk co sz : Nat) (cs : List AV) (es : List (List AV)) (hl : cs.length = sz) (h : RepM C E blk co cs) (h' : RepE C E blk (co + sz) sz es) : RepE C E blk co sz (cs :: es)
end

def Mem.le (C C' : Mem) : Prop := ∀ b o v, C b o = some v → C' b o = some v
theorem Mem.le_refl (C : Mem) : C.le C := fun _ _ _ h => h

section mono
variable {C C' : Mem} {E E' : Emb}
mutual
theorem Rep.mono (hC : C.le C') (hE : E.le E') : ∀ {a : AV} {v : Value}, Rep C E a v → Rep C' E' a v
  | _, _, .undef v => .undef v
  | _, _, .bool b => .bool b
  | _, _, .int k n => .int k n
  | _, _, .str s l h => .str s l h
  | _, _, .nilptr => .nilptr
  | _, _, .ptr b i o g L off hL h1 h2 h3 => .ptr b i o g L off (hE.1 _ _ _ hL) h1 h2 h3
  | _, _, .iptr cs o blk co off h h3 => .iptr cs o blk co off (RepM.mono hC hE h) h3
  | _, _, .nilslice => .nilslice
  | _, _, .eslice a => .eslice a
  | _, _, .slice b off len cap ex g L a rc hL h1 h2 h3 h4 h5 h6 h7 => .slice b off len cap ex g L a rc (hE.1 _ _ _ hL) h1 h2 h3 h4 h5 h6 h7
  | _, _, .lst sz es blk co len rc a h h1 h2 h6 => .lst sz es blk co len rc a (RepE.mono hC hE h) h1 h2 h6
  | _, _, .agg cs vs h => .agg cs vs (RepL.mono hC hE h)
  | _, _, .tuple cs vs h => .tuple cs vs (RepL.mono hC hE h)
  | _, _, .nilIface => .nilIface
  | _, _, .iface t a v h => .iface t a v (Rep.mono hC hE h)
  | _, _, .nilFunc => .nilFunc
  | _, _, .func f xs ys vs us h h' => .func f xs ys vs us (RepL.mono hC hE h) (RepL.mono hC hE h')
  | _, _, .nilMap => .nilMap
  | _, _, .map b m h => .map b m (hE.2 _ _ h)
theorem RepL.mono (hC : C.le C') (hE : E.le E') : ∀ {as : List AV} {vs : List Value}, RepL C E as vs → RepL C' E' as vs
  | _, _, .nil => .nil
  | _, _, .cons a v as vs h h' => .cons a v as vs (Rep.mono hC hE h) (RepL.mono hC hE h')
theorem RepM.mono (hC : C.le C') (hE : E.le E') : ∀ {blk co : Nat} {as : List AV}, RepM C E blk co as → RepM C' E' blk co as
  | _, _, _, .nil blk co => .nil blk co
  | _, _, _, .cons blk co a as v hv h h' => .cons blk co a as v (hC _ _ _ hv) (Rep.mono hC hE h) (RepM.mono hC hE h')
theorem RepE.mono (hC : C.le C') (hE : E.le E') : ∀ {blk co sz : Nat} {es : List (List AV)}, RepE C E blk co sz es → RepE C' E' blk co sz es
  | _, _, _, _, .nil blk co sz => .nil blk co sz
  | _, _, _, _, .cons blk co sz cs es hl h h' => .cons blk co sz cs es hl (RepM.mono hC hE h) (RepE.mono hC hE h')
end
end mono

/-- A block of the abstract heap. -/
inductive Blk where
  | row (ty : TypeId) (esz : Nat) (els : List (List AV)) (gen wgen : Nat)
  | map (es : List (AV × AV × Nat)) (clock : Nat)

structure Heap where
  blk : Nat → Option Blk
  next : Nat

def Heap.set (H : Heap) (b : Nat) (x : Blk) : Heap := ⟨fun i => if i = b then some x else H.blk i, H.next⟩
def Heap.push (H : Heap) (x : Blk) : Heap := ⟨fun i => if i = H.next then some x else H.blk i, H.next + 1⟩

end Go.Ev
