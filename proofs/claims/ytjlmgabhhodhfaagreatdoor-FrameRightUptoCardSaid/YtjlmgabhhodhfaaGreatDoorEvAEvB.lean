import Derived.Below
import Derived.Laws.IdiomCopy
set_option linter.unusedSimpArgs false
set_option linter.unusedVariables false
namespace Go.Ev

inductive AV where
 | undef
 | bool (b : Bool)
 | int (k : IntKind) (n : Int)
 | str (s : List Nat)
 | nilptr
 | ptr (b i o g : Nat)
 | iptr (cs : List AV) (o : Nat)
 | nilslice
 | eslice
 | slice (b off len cap : Nat) (ex : Bool) (g : Nat)
 | lst (sz : Nat) (es : List (List AV))
 | agg (cs : List AV)
 | tuple (vs : List AV)
 | nilIface
 | iface (t : TypeId) (v : AV)
 | nilFunc
 | func (f : Fn) (first captured : List AV)
 | nilMap
 | map (b : Nat)
 deriving Inhabited

def AV.cells : AV → List AV
 | .agg cs=>cs
 | v=>[v]

def AV.isCell : AV → Bool
 | .undef | .agg _ | .tuple _=>false
 | _=>true

structure Loc where
 blk : Nat
 co : Nat
 lo : Nat
 ext : Nat
 esz : Nat
 size : Nat

structure Emb where
 loc : Nat → Nat → Option Loc
 mloc : Nat → Option Nat

def Emb.le (E E' : Emb) : Prop:=(∀ b g L,E.loc b g = some L → E'.loc b g = some L) ∧ (∀ b m,E.mloc b = some m → E'.mloc b = some m)

theorem Emb.le_refl (E : Emb) : E.le E:=⟨fun _ _ _ h=>h,fun _ _ h=>h⟩
theorem Emb.le_trans {E E' E'' : Emb} (h : E.le E') (h' : E'.le E'') : E.le E'':=
 ⟨fun b g L x=>h'.1 b g L (h.1 b g L x),fun b m x=>h'.2 b m (h.2 b m x)⟩

abbrev Mem:=Nat → Nat → Option Value

def strOf (s : ByteArray) : List Nat:=s.data.toList.map UInt8.toNat

mutual
inductive Rep (C : Mem) (E : Emb) : AV → Value → Prop
 | undef (v : Value) : Rep C E .undef v
 | bool (b : Bool) : Rep C E (.bool b) (.bool b)
 | int (k : IntKind) (n : Int) : Rep C E (.int k n) (.int k n)
 | str (s : ByteArray) (l : List Nat) (h : strOf s = l) : Rep C E (.str l) (.string s)
 | nilptr : Rep C E .nilptr (.pointer none)
 | ptr (b i o g : Nat) (L : Loc) (off : Nat) (hL : E.loc b g = some L) (h1 : L.lo ≤ i) (h2 : i < L.ext) (h3 : off = L.co + (i - L.lo) * L.esz + o) :
   Rep C E (.ptr b i o g) (.pointer (some ⟨L.blk,off,none⟩))
 | iptr (cs : List AV) (o blk co off : Nat) (h : RepM C E blk co cs) (h3 : off = co + o) : Rep C E (.iptr cs o) (.pointer (some ⟨blk,off,none⟩))
 | nilslice : Rep C E .nilslice (.slice none 0 0)
 | eslice (a : Addr) : Rep C E .eslice (.slice (some a) 0 0)
 | slice (b off len cap : Nat) (ex : Bool) (g : Nat) (L : Loc) (a : Addr) (rc : Nat) (hL : E.loc b g = some L) (h1 : L.lo ≤ off) (h2 : off + cap ≤ L.ext)
   (h3 : len ≤ cap) (h4 : cap ≤ rc) (h5 : ex = true → rc = cap) (h6 : 0 < rc → a = ⟨L.blk,L.co + (off - L.lo) * L.esz,none⟩)
   (h7 : L.co + (off - L.lo + rc) * L.esz ≤ L.size) :
   Rep C E (.slice b off len cap ex g) (.slice (some a) len rc)
 | lst (sz : Nat) (es : List (List AV)) (blk co len rc : Nat) (a : Addr) (h : RepE C E blk co sz es) (h1 : len = es.length) (h2 : len ≤ rc) (h6 : 0 < rc → a = ⟨blk,co,none⟩) :
   Rep C E (.lst sz es) (.slice (some a) len rc)
 | agg (cs : List AV) (vs : List Value) (h : RepL C E cs vs) : Rep C E (.agg cs) (.agg vs.toArray)
 | tuple (cs : List AV) (vs : List Value) (h : RepL C E cs vs) : Rep C E (.tuple cs) (.tuple vs.toArray)
 | nilIface : Rep C E .nilIface .nilIface
 | iface (t : TypeId) (a : AV) (v : Value) (h : Rep C E a v) : Rep C E (.iface t a) (.iface t v)
 | nilFunc : Rep C E .nilFunc .nilFunc
 | func (f : Fn) (xs ys : List AV) (vs us : List Value) (h : RepL C E xs vs) (h' : RepL C E ys us) : Rep C E (.func f xs ys) (.func f vs.toArray us.toArray)
 | nilMap : Rep C E .nilMap (.map none)
 | map (b m : Nat) (h : E.mloc b = some m) : Rep C E (.map b) (.map (some m))
inductive RepL (C : Mem) (E : Emb) : List AV → List Value → Prop
 | nil : RepL C E [] []
 | cons (a : AV) (v : Value) (as : List AV) (vs : List Value) (h : Rep C E a v) (h' : RepL C E as vs) : RepL C E (a :: as) (v :: vs)
inductive RepM (C : Mem) (E : Emb) : Nat → Nat → List AV → Prop
 | nil (blk co : Nat) : RepM C E blk co []
 | cons (blk co : Nat) (a : AV) (as : List AV) (v : Value) (hv : C blk co = some v) (h : Rep C E a v) (h' : RepM C E blk (co + 1) as) : RepM C E blk co (a :: as)
inductive RepE (C : Mem) (E : Emb) : Nat → Nat → Nat → List (List AV) → Prop
 | nil (blk co sz : Nat) : RepE C E blk co sz []
 | cons (blk co sz : Nat) (cs : List AV) (es : List (List AV)) (hl : cs.length = sz) (h : RepM C E blk co cs) (h' : RepE C E blk (co + sz) sz es) : RepE C E blk co sz (cs :: es)
end

def Mem.le (C C' : Mem) : Prop:=∀ b o v,C b o = some v → C' b o = some v
theorem Mem.le_refl (C : Mem) : C.le C:=fun _ _ _ h=>h

section mono
variable {C C' : Mem} {E E' : Emb}
mutual
theorem Rep.mono (hC : C.le C') (hE : E.le E') : ∀ {a : AV} {v : Value},Rep C E a v → Rep C' E' a v
 | _,_,.undef v=>.undef v
 | _,_,.bool b=>.bool b
 | _,_,.int k n=>.int k n
 | _,_,.str s l h=>.str s l h
 | _,_,.nilptr=>.nilptr
 | _,_,.ptr b i o g L off hL h1 h2 h3=>.ptr b i o g L off (hE.1 _ _ _ hL) h1 h2 h3
 | _,_,.iptr cs o blk co off h h3=>.iptr cs o blk co off (RepM.mono hC hE h) h3
 | _,_,.nilslice=>.nilslice
 | _,_,.eslice a=>.eslice a
 | _,_,.slice b off len cap ex g L a rc hL h1 h2 h3 h4 h5 h6 h7=>.slice b off len cap ex g L a rc (hE.1 _ _ _ hL) h1 h2 h3 h4 h5 h6 h7
 | _,_,.lst sz es blk co len rc a h h1 h2 h6=>.lst sz es blk co len rc a (RepE.mono hC hE h) h1 h2 h6
 | _,_,.agg cs vs h=>.agg cs vs (RepL.mono hC hE h)
 | _,_,.tuple cs vs h=>.tuple cs vs (RepL.mono hC hE h)
 | _,_,.nilIface=>.nilIface
 | _,_,.iface t a v h=>.iface t a v (Rep.mono hC hE h)
 | _,_,.nilFunc=>.nilFunc
 | _,_,.func f xs ys vs us h h'=>.func f xs ys vs us (RepL.mono hC hE h) (RepL.mono hC hE h')
 | _,_,.nilMap=>.nilMap
 | _,_,.map b m h=>.map b m (hE.2 _ _ h)
theorem RepL.mono (hC : C.le C') (hE : E.le E') : ∀ {as : List AV} {vs : List Value},RepL C E as vs → RepL C' E' as vs
 | _,_,.nil=>.nil
 | _,_,.cons a v as vs h h'=>.cons a v as vs (Rep.mono hC hE h) (RepL.mono hC hE h')
theorem RepM.mono (hC : C.le C') (hE : E.le E') : ∀ {blk co : Nat} {as : List AV},RepM C E blk co as → RepM C' E' blk co as
 | _,_,_,.nil blk co=>.nil blk co
 | _,_,_,.cons blk co a as v hv h h'=>.cons blk co a as v (hC _ _ _ hv) (Rep.mono hC hE h) (RepM.mono hC hE h')
theorem RepE.mono (hC : C.le C') (hE : E.le E') : ∀ {blk co sz : Nat} {es : List (List AV)},RepE C E blk co sz es → RepE C' E' blk co sz es
 | _,_,_,_,.nil blk co sz=>.nil blk co sz
 | _,_,_,_,.cons blk co sz cs es hl h h'=>.cons blk co sz cs es hl (RepM.mono hC hE h) (RepE.mono hC hE h')
end
end mono

inductive Blk where
 | row (ty : TypeId) (esz : Nat) (els : List (List AV)) (gen wgen : Nat)
 | map (es : List (AV × AV × Nat)) (clock : Nat)

structure Heap where
 blk : Nat → Option Blk
 next : Nat

def Heap.set (H : Heap) (b : Nat) (x : Blk) : Heap:=⟨fun i=>if i = b then some x else H.blk i,H.next⟩
def Heap.push (H : Heap) (x : Blk) : Heap:=⟨fun i=>if i = H.next then some x else H.blk i,H.next + 1⟩

end Go.Ev
namespace Go.Ev
open Go.RowKit

structure Chg (w w' : World) (S : Nat → Nat → Prop) : Prop where
 os : w'.os = w.os
 tape : w'.tape = w.tape
 output : w'.output = w.output
 size : w.heap.size ≤ w'.heap.size
 cell : ∀ b o,b < w.heap.size → ¬ S b o → w'.cell? ⟨b,o,none⟩ = w.cell? ⟨b,o,none⟩
 some : ∀ b o,b < w.heap.size → (w.cell? ⟨b,o,none⟩).isSome = true → (w'.cell? ⟨b,o,none⟩).isSome = true
 frozen : ∀ b o,b < w.heap.size → w'.frozen? ⟨b,o,none⟩ = w.frozen? ⟨b,o,none⟩
 block : ∀ k,k < w.heap.size → (∀ o,¬ S k o) → w'.heap[k]? = w.heap[k]?

theorem Chg.refl (w : World) (S : Nat → Nat → Prop) : Chg w w S:=
 ⟨rfl,rfl,rfl,Nat.le_refl _,fun _ _ _ _=>rfl,fun _ _ _ h=>h,fun _ _ _=>rfl,fun _ _ _=>rfl⟩

theorem Chg.drew (w : World) (S : Nat → Nat → Prop) : Chg w w.drew S:=
 ⟨rfl,rfl,rfl,Nat.le_refl _,fun _ _ _ _=>rfl,fun _ _ _ h=>h,fun _ _ _=>rfl,fun _ _ _=>rfl⟩

theorem Chg.alloc (w : World) (o : Obj) (S : Nat → Nat → Prop) : Chg w (w.alloc o) S where
 os:=rfl
 tape:=rfl
 output:=rfl
 size:=by simp
 cell:=fun b o' hb _=>World.cell?_alloc_lt w o ⟨b,o',none⟩ hb
 some:=fun b o' hb h=>by rw [World.cell?_alloc_lt w o ⟨b,o',none⟩ hb];exact h
 frozen:=fun b o' hb=>World.frozen?_alloc_old w o ⟨b,o',none⟩ (Nat.ne_of_lt hb)
 block:=fun k hk _=>Below.heap_alloc w o k hk

theorem heap_setCells (b : Nat) : ∀ (vs : List Value) (o : Nat) (w : World) (k : Nat),k ≠ b → (w.setCells b o vs).heap[k]? = w.heap[k]?
 | [],_,_,_,_=>rfl
 | v :: r,o,w,k,h=>by rw [World.setCells,heap_setCells b r (o + 1) _ k h];exact Below.heap_setCell _ _ _ _ h

theorem size_setCells (b : Nat) : ∀ (vs : List Value) (o : Nat) (w : World),(w.setCells b o vs).heap.size = w.heap.size
 | [],_,_=>rfl
 | v :: r,o,w=>by rw [World.setCells,size_setCells b r];simp

theorem rest_setCells (b : Nat) : ∀ (vs : List Value) (o : Nat) (w : World),(w.setCells b o vs).os = w.os ∧ (w.setCells b o vs).tape = w.tape ∧ (w.setCells b o vs).output = w.output
 | [],_,_=>⟨rfl,rfl,rfl⟩
 | v :: r,o,w=>by
  obtain ⟨h1,h2,h3⟩:=rest_setCells b r (o + 1) (w.setCell ⟨b,o,none⟩ v)
  exact ⟨h1,h2,h3⟩

theorem some_setCells (b : Nat) (vs : List Value) (o : Nat) (w : World) (hc : ∀ j,j < vs.length → (w.cell? ⟨b,o + j,none⟩).isSome = true) (x y : Nat) (h : (w.cell? ⟨x,y,none⟩).isSome = true) :
  ((w.setCells b o vs).cell? ⟨x,y,none⟩).isSome = true:=by
 by_cases hx : x = b ∧ o ≤ y ∧ y < o + vs.length
 ·obtain ⟨rfl,h1,h2⟩:=hx
  have:=World.cell?_setCells_in x vs o w hc (y - o) (by omega)
  rw [show o + (y - o) = y by omega] at this
  rw [this];rfl
 ·rw [World.cell?_setCells_out b vs o w ⟨x,y,none⟩ (fun h1 _=>by simp only at h1 ⊢;omega)]
  exact h

theorem Chg.setCells (w : World) (b o : Nat) (vs : List Value) (hc : ∀ j,j < vs.length → (w.cell? ⟨b,o + j,none⟩).isSome = true) :
  Chg w (w.setCells b o vs) (fun x y=>x = b ∧ o ≤ y ∧ y < o + vs.length) where
 os:=(rest_setCells b vs o w).1
 tape:=(rest_setCells b vs o w).2.1
 output:=(rest_setCells b vs o w).2.2
 size:=by rw [size_setCells];exact Nat.le_refl _
 cell:=fun x y _ h=>World.cell?_setCells_out b vs o w ⟨x,y,none⟩ (fun h1 _=>by simp only at h1 ⊢;omega)
 some:=fun x y _ h=>some_setCells b vs o w hc x y h
 frozen:=fun x y _=>World.frozen?_setCells b vs o w _
 block:=fun k _ h=>by
  by_cases hk : k = b
  ·subst hk
   cases vs with
   | nil=>rfl
   | cons v r=>exact absurd ⟨rfl,Nat.le_refl _,by simp⟩ (h o)
  ·exact heap_setCells b vs o w k hk

theorem Chg.mono {w w' : World} {S S' : Nat → Nat → Prop} (h : Chg w w' S) (hS : ∀ b o,S b o → S' b o) : Chg w w' S':=
 ⟨h.os,h.tape,h.output,h.size,fun b o hb hn=>h.cell b o hb (fun hs=>hn (hS _ _ hs)),h.some,h.frozen,fun k hk hn=>h.block k hk (fun o hs=>hn o (hS _ _ hs))⟩

theorem Chg.trans {w w' w'' : World} {S : Nat → Nat → Prop} (h : Chg w w' S) (h' : Chg w' w'' S) : Chg w w'' S where
 os:=h'.os.trans h.os
 tape:=h'.tape.trans h.tape
 output:=h'.output.trans h.output
 size:=Nat.le_trans h.size h'.size
 cell:=fun b o hb hn=>(h'.cell b o (Nat.lt_of_lt_of_le hb h.size) hn).trans (h.cell b o hb hn)
 some:=fun b o hb hs=>h'.some b o (Nat.lt_of_lt_of_le hb h.size) (h.some b o hb hs)
 frozen:=fun b o hb=>(h'.frozen b o (Nat.lt_of_lt_of_le hb h.size)).trans (h.frozen b o hb)
 block:=fun k hk hn=>(h'.block k (Nat.lt_of_lt_of_le hk h.size) hn).trans (h.block k hk hn)

structure LocOk (C : Mem) (E : Emb) (w : World) (base : Nat) (L : Loc) (esz : Nat) (els : List (List AV)) : Prop where
 sz : L.esz = esz
 lo : L.lo ≤ L.ext
 ext : L.ext ≤ els.length
 base : base ≤ L.blk
 lt : L.blk < w.heap.size
 room : L.co + (L.ext - L.lo) * esz ≤ L.size
 shape : ∀ o,o < L.size → (w.cell? ⟨L.blk,o,none⟩).isSome = true ∧ w.frozen? ⟨L.blk,o,none⟩ = false
 cell : ∀ i j cs c,L.lo ≤ i → i < L.ext → els[i]? = some cs → cs[j]? = some c → ∃ v,w.cell? ⟨L.blk,L.co + (i - L.lo) * esz + j,none⟩ = some v ∧ Rep C E c v

structure RowOk (C : Mem) (E : Emb) (w : World) (base b esz : Nat) (els : List (List AV)) (gen wgen : Nat) : Prop where
 len : ∀ cs ∈ els,cs.length = esz
 le : wgen ≤ gen
 loc : ∀ g,wgen ≤ g → g ≤ gen → ∃ L,E.loc b g = some L ∧ LocOk C E w base L esz els
 last : ∀ L,E.loc b gen = some L → L.ext = els.length
 ends : ∀ g L G,wgen ≤ g → g ≤ gen → E.loc b g = some L → E.loc b gen = some G → L.blk = G.blk → L.co + (L.ext - L.lo) * esz ≤ G.co + (G.ext - G.lo) * esz

inductive RepK (C : Mem) (E : Emb) : List (AV × AV × Nat) → List MapEntry → Prop
 | nil : RepK C E [] []
 | cons (k x : AV) (n : Nat) (e : MapEntry) (as : List (AV × AV × Nat)) (es : List MapEntry) (hk : Rep C E k e.key) (hx : Rep C E x e.val) (hn : e.born = n) (h : RepK C E as es) :
   RepK C E ((k,x,n) :: as) (e :: es)

theorem RepK.mono {C C' : Mem} {E E' : Emb} (hC : C.le C') (hE : E.le E') {as : List (AV × AV × Nat)} {es : List MapEntry} (h : RepK C E as es) : RepK C' E' as es:=by
 induction h with
 | nil=>exact .nil
 | cons k x n e as es hk hx hn _ ih=>exact .cons k x n e as es (hk.mono hC hE) (hx.mono hC hE) hn ih

structure WRel (C : Mem) (w0 : World) (E : Emb) (H : Heap) (w : World) : Prop where
 below : Below w0.heap.size w0 w
 mem : ∀ b o v,C b o = some v → b < w.heap.size ∧ w.cell? ⟨b,o,none⟩ = some v
 dom : ∀ b g L,E.loc b g = some L → H.blk b ≠ none ∧ L.blk < w.heap.size ∧ ∀ ty esz els gen wgen,H.blk b = some (.row ty esz els gen wgen) → g ≤ gen
 mdom : ∀ b m,E.mloc b = some m → H.blk b ≠ none ∧ m < w.heap.size
 row : ∀ b ty esz els gen wgen,H.blk b = some (.row ty esz els gen wgen) → RowOk C E w w0.heap.size b esz els gen wgen
 map : ∀ b es cl,H.blk b = some (.map es cl) → ∃ m es',E.mloc b = some m ∧ w0.heap.size ≤ m ∧ w.heap[m]? = some (.map es' cl) ∧ RepK C E es es'.toList
 sep : ∀ b g L b' g' L',E.loc b g = some L → E.loc b' g' = some L' → L.blk = L'.blk → b = b'
 msep : ∀ b m b',E.mloc b = some m → E.mloc b' = some m → b = b'
 memsep : ∀ b g L o v,E.loc b g = some L → C L.blk o = some v → False

theorem LocOk.chg {C : Mem} {E E' : Emb} {w w' : World} {base : Nat} {L : Loc} {esz : Nat} {els : List (List AV)} {S : Nat → Nat → Prop} (h : LocOk C E w base L esz els) (hc : Chg w w' S)
  (hE : E.le E') (hS : ∀ o,L.co ≤ o → o < L.co + (L.ext - L.lo) * esz → ¬ S L.blk o) (hl : ∀ cs ∈ els,cs.length = esz) : LocOk C E' w' base L esz els where
 sz:=h.sz
 lo:=h.lo
 ext:=h.ext
 base:=h.base
 lt:=Nat.lt_of_lt_of_le h.lt hc.size
 room:=h.room
 shape:=fun o ho=>⟨hc.some _ _ h.lt (h.shape o ho).1,by rw [hc.frozen _ _ h.lt];exact (h.shape o ho).2⟩
 cell:=fun i j cs c h1 h2 h3 h4=>by
  obtain ⟨v,hv,hr⟩:=h.cell i j cs c h1 h2 h3 h4
  refine ⟨v,?_,hr.mono (Mem.le_refl _) hE⟩
  rw [hc.cell _ _ h.lt (hS _ (by omega) ?_)]
  ·exact hv
  ·have hj : j < esz:=by
    have:=hl cs (List.mem_of_getElem? h3)
    have:=(List.getElem?_eq_some_iff.1 h4).1
    omega
   have : (i - L.lo + 1) * esz ≤ (L.ext - L.lo) * esz:=Nat.mul_le_mul_right _ (by omega)
   rw [Nat.add_mul] at this
   omega

theorem RowOk.chg {C : Mem} {E E' : Emb} {w w' : World} {base b esz : Nat} {els : List (List AV)} {gen wgen : Nat} {S : Nat → Nat → Prop} (h : RowOk C E w base b esz els gen wgen) (hc : Chg w w' S)
  (hE : E.le E') (hS : ∀ g L,wgen ≤ g → g ≤ gen → E.loc b g = some L → ∀ o,L.co ≤ o → o < L.co + (L.ext - L.lo) * esz → ¬ S L.blk o) : RowOk C E' w' base b esz els gen wgen:=by
 have back : ∀ g L,wgen ≤ g → g ≤ gen → E'.loc b g = some L → E.loc b g = some L:=fun g L h1 h2 hL=>by
  obtain ⟨L',hL',_⟩:=h.loc g h1 h2
  have:=hE.1 _ _ _ hL'
  rw [hL] at this
  cases this
  exact hL'
 refine ⟨h.len,h.le,fun g h1 h2=>?_,fun L hL=>h.last L (back _ _ h.le (Nat.le_refl _) hL),fun g L G h1 h2 hL hG=>h.ends g L G h1 h2 (back _ _ h1 h2 hL) (back _ _ h.le (Nat.le_refl _) hG)⟩
 obtain ⟨L,hL,hl⟩:=h.loc g h1 h2
 exact ⟨L,hE.1 _ _ _ hL,hl.chg hc hE (hS g L h1 h2 hL) h.len⟩

theorem WRel.chg {C : Mem} {w0 : World} {E : Emb} {H : Heap} {w w' : World} {S : Nat → Nat → Prop} (h : WRel C w0 E H w) (hc : Chg w w' S) (hS : ∀ b o,¬ S b o) : WRel C w0 E H w' where
 below:=h.below.trans ⟨hc.os,hc.tape,hc.output,hc.size,fun k hk=>hc.block k (Nat.lt_of_lt_of_le hk h.below.size) (fun o=>hS k o)⟩
 mem:=fun b o v hv=>⟨Nat.lt_of_lt_of_le (h.mem b o v hv).1 hc.size,by rw [hc.cell _ _ (h.mem b o v hv).1 (hS _ _)];exact (h.mem b o v hv).2⟩
 dom:=fun b g L hL=>⟨(h.dom b g L hL).1,Nat.lt_of_lt_of_le (h.dom b g L hL).2.1 hc.size,(h.dom b g L hL).2.2⟩
 mdom:=fun b m hm=>⟨(h.mdom b m hm).1,Nat.lt_of_lt_of_le (h.mdom b m hm).2 hc.size⟩
 row:=fun b ty esz els gen wgen hb=>(h.row b ty esz els gen wgen hb).chg hc (Emb.le_refl _) (fun _ _ _ _ _ _ _ _=>hS _ _)
 map:=fun b es cl hb=>by
  obtain ⟨m,es',h1,h2,h3,h4⟩:=h.map b es cl hb
  exact ⟨m,es',h1,h2,by rw [hc.block m (h.mdom b m h1).2 (fun o=>hS m o)];exact h3,h4⟩
 sep:=h.sep
 msep:=h.msep
 memsep:=h.memsep

def Emb.set (E : Emb) (b g : Nat) (L : Loc) : Emb:=⟨fun b' g'=>if b' = b ∧ g' = g then some L else E.loc b' g',E.mloc⟩

theorem Emb.le_set {E : Emb} {b g : Nat} {L : Loc} (h : E.loc b g = none) : E.le (E.set b g L):=by
 refine ⟨fun b' g' L' h'=>?_,fun _ _ h=>h⟩
 simp only [Emb.set]
 split
 ·rename_i hh;obtain ⟨rfl,rfl⟩:=hh;rw [h] at h';cases h'
 ·exact h'

theorem Emb.set_same (E : Emb) (b g : Nat) (L : Loc) : (E.set b g L).loc b g = some L:=by simp [Emb.set]

theorem below_chg {w0 w w' : World} {S : Nat → Nat → Prop} (h : Below w0.heap.size w0 w) (hc : Chg w w' S) (hS : ∀ b o,S b o → w0.heap.size ≤ b) : Below w0.heap.size w0 w':=
 h.trans ⟨hc.os,hc.tape,hc.output,hc.size,fun k hk=>hc.block k (Nat.lt_of_lt_of_le hk h.size) (fun o hs=>by have:=hS k o hs;omega)⟩

theorem WRel.newRow {C : Mem} {w0 : World} {E : Emb} {H : Heap} {w w' : World} (h : WRel C w0 E H w) (hfree : H.blk H.next = none) (hc : Chg w w' (fun _ _=>False)) (ty esz : Nat) (els : List (List AV)) (L : Loc)
  (hL : L.blk = w.heap.size) (hlt : w.heap.size < w'.heap.size) (hlo : L.lo = 0) (hext : L.ext = els.length) (hesz : L.esz = esz) (hlen : ∀ cs ∈ els,cs.length = esz)
  (hroom : L.co + (L.ext - L.lo) * esz ≤ L.size)
  (hshape : ∀ o,o < L.size → (w'.cell? ⟨L.blk,o,none⟩).isSome = true ∧ w'.frozen? ⟨L.blk,o,none⟩ = false)
  (hcell : ∀ i j cs c,i < els.length → els[i]? = some cs → cs[j]? = some c → ∃ v,w'.cell? ⟨L.blk,L.co + i * esz + j,none⟩ = some v ∧ Rep C E c v) :
  E.le (E.set H.next 0 L) ∧ WRel C w0 (E.set H.next 0 L) (H.push (.row ty esz els 0 0)) w':=by
 have hnone : E.loc H.next 0 = none:=by
  cases hx : E.loc H.next 0 with
  | none=>rfl
  | some L'=>exact absurd hfree (h.dom _ _ _ hx).1
 have hle:=Emb.le_set (L:=L) hnone
 refine ⟨hle,?_⟩
 have h0:=h.chg hc (fun _ _ hf=>hf)
 have hset : ∀ b g L',(E.set H.next 0 L).loc b g = some L' → (b = H.next ∧ g = 0 ∧ L' = L) ∨ E.loc b g = some L':=fun b g L' hx=>by
  simp only [Emb.set] at hx
  split at hx
  ·rename_i hh;cases hx;exact .inl ⟨hh.1,hh.2,rfl⟩
  ·exact .inr hx
 constructor
 ·exact h0.below
 ·exact h0.mem
 ·intro b g L' hx
  rcases hset b g L' hx with ⟨rfl,rfl,rfl⟩ | hx
  ·refine ⟨by simp [Heap.push],by omega,fun ty esz els gen wgen hb=>?_⟩
   exact Nat.zero_le _
  ·obtain ⟨h1,h2,h3⟩:=h0.dom b g L' hx
   have hbn : b ≠ H.next:=fun e=>h1 (e ▸ hfree)
   refine ⟨by simp only [Heap.push];rw [if_neg hbn];exact h1,h2,fun ty esz els gen wgen hb=>?_⟩
   simp only [Heap.push] at hb
   rw [if_neg hbn] at hb
   exact h3 _ _ _ _ _ hb
 ·intro b m hm
  have hbn : b ≠ H.next:=fun e=>(h0.mdom b m hm).1 (e ▸ hfree)
  exact ⟨by simp only [Heap.push];rw [if_neg hbn];exact (h0.mdom b m hm).1,(h0.mdom b m hm).2⟩
 ·intro b ty' esz' els' gen wgen hb
  simp only [Heap.push] at hb
  split at hb
  ·rename_i hb'
   subst hb'
   cases hb
   refine ⟨hlen,Nat.le_refl _,fun g h1 h2=>?_,fun L' hL'=>?_,fun g L' G h1 h2 hx hG _=>?_⟩
   ·obtain rfl : g = 0:=by omega
    refine ⟨L,Emb.set_same _ _ _ _,hesz,by omega,by omega,?_,by omega,hroom,hshape,fun i j cs c h1 h2 h3 h4=>?_⟩
    ·rw [hL];exact h.below.size
    ·obtain ⟨v,hv,hr⟩:=hcell i j cs c (by omega) h3 h4
     rw [hlo,Nat.sub_zero]
     exact ⟨v,hv,hr.mono (Mem.le_refl _) hle⟩
   ·rw [Emb.set_same] at hL';cases hL';exact hext
   ·obtain rfl : g = 0:=by omega
    rw [hx] at hG;cases hG;exact Nat.le_refl _
  ·exact (h0.row b _ _ _ _ _ hb).chg (Chg.refl w' (fun _ _=>False)) hle (fun _ _ _ _ _ _ _ _ hf=>hf)
 ·intro b es cl hb
  simp only [Heap.push] at hb
  split at hb
  ·cases hb
  ·obtain ⟨m,es',h1,h2,h3,h4⟩:=h0.map b es cl hb
   exact ⟨m,es',h1,h2,h3,h4.mono (Mem.le_refl _) hle⟩
 ·intro b g L1 b' g' L2 hx hy hxy
  rcases hset b g L1 hx with ⟨rfl,rfl,rfl⟩ | hx' <;> rcases hset b' g' L2 hy with ⟨rfl,rfl,rfl⟩ | hy'
  ·rfl
  ·have:=(h.dom _ _ _ hy').2.1;omega
  ·have:=(h.dom _ _ _ hx').2.1;omega
  ·exact h.sep _ _ _ _ _ _ hx' hy' hxy
 ·exact h.msep
 ·intro b g L' o v hx hv
  rcases hset b g L' hx with ⟨rfl,rfl,rfl⟩ | hx
  ·have:=(h.mem _ _ _ hv).1;omega
  ·exact h.memsep _ _ _ _ _ hx hv

end Go.Ev
