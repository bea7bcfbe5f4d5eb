import Derived.Test.YtjlmgabhhodhfaaGreatDoorEvJEvL
import Derived.MapKept
import Derived.WideKeyMaps
import Derived.DeepKeys3
import Derived.Laws.IdiomStrings
set_option linter.unusedVariables false
set_option linter.unusedSimpArgs false
namespace Go.Ev
open Go.MapKept
section
variable {P : Program} {C : Mem} {w0 : World} {E : Emb} {H : Heap} {w : World}


theorem chg_setMap {m : Nat} {mes : Array MapEntry} {cl : Nat} (hh : w.heap[m]? = some (.map mes cl)) (mes' : Array MapEntry) (cl' : Nat) :
  Chg w { w with heap:=w.heap.setIfInBounds m (.map mes' cl') } (fun b _=>b = m):=by
 obtain ⟨h1,h2⟩:=heap_set (o':=.map mes' cl') hh
 refine ⟨rfl,rfl,rfl,by simp,fun b o _ hn=>?_,fun b o _ hs=>?_,fun b o _=>?_,fun k _ hn=>h2 k (hn 0)⟩
 ·simp only [World.cell?];rw [h2 b hn]
 ·by_cases hb : b = m
  ·subst hb
   simp [World.cell?,hh] at hs
  ·simp only [World.cell?] at hs ⊢;rw [h2 b hb];exact hs
 ·by_cases hb : b = m
  ·subst hb
   simp only [World.frozen?,h1,hh]
  ·simp only [World.frozen?];rw [h2 b hb]

theorem WRel.setMap (h : WRel C w0 E H w) {b m : Nat} {es es' : List (AV × AV × Nat)} {cl cl' : Nat} {mes mes' : Array MapEntry} (hb : H.blk b = some (.map es cl)) (hm : E.mloc b = some m) (hbase : w0.heap.size ≤ m)
  (hh : w.heap[m]? = some (.map mes cl)) (hr : RepK C E es' mes'.toList) : WRel C w0 E (H.set b (.map es' cl')) { w with heap:=w.heap.setIfInBounds m (.map mes' cl') }:=by
 have hc:=chg_setMap hh mes' cl'
 obtain ⟨h1,h2⟩:=heap_set (o':=.map mes' cl') hh
 constructor
 ·exact below_chg h.below hc (fun c o e=>by rw [e];exact hbase)
 ·intro c o v hv
  obtain ⟨q1,q2⟩:=h.mem c o v hv
  have hne : c ≠ m:=fun e=>by subst e;rw [map_not_cells hh] at q2;cases q2
  exact ⟨Nat.lt_of_lt_of_le q1 hc.size,by rw [hc.cell c o q1 hne];exact q2⟩
 ·intro c g L hL
  obtain ⟨d1,d2,d3⟩:=h.dom c g L hL
  refine ⟨Heap.set_ne d1,Nat.lt_of_lt_of_le d2 hc.size,fun ty esz els gen wgen hb'=>?_⟩
  by_cases hcb : c = b
  ·subst hcb;rw [Heap.set_same] at hb';cases hb'
  ·rw [Heap.set_other _ _ _ hcb] at hb';exact d3 _ _ _ _ _ hb'
 ·exact fun c k hk=>⟨Heap.set_ne (h.mdom c k hk).1,Nat.lt_of_lt_of_le (h.mdom c k hk).2 hc.size⟩
 ·intro c ty esz els gen wgen hb'
  by_cases hcb : c = b
  ·subst hcb;rw [Heap.set_same] at hb';cases hb'
  ·rw [Heap.set_other _ _ _ hcb] at hb'
   have hrow:=h.row _ _ _ _ _ _ hb'
   refine hrow.chg hc (Emb.le_refl _) (fun g L g1 g2 hL o o1 o2 hs=>?_)
   obtain ⟨L',hL',hl⟩:=hrow.loc g g1 g2
   rw [hL] at hL';cases hL'
   have:=(hl.shape o (by have:=hl.room;omega)).1
   rw [hs,map_not_cells hh] at this
   cases this
 ·intro c es2 cl2 hb'
  by_cases hcb : c = b
  ·subst hcb
   rw [Heap.set_same] at hb';cases hb'
   exact ⟨m,mes',hm,hbase,h1,hr⟩
  ·rw [Heap.set_other _ _ _ hcb] at hb'
   obtain ⟨m2,es3,q1,q2,q3,q4⟩:=h.map c es2 cl2 hb'
   have hne : m2 ≠ m:=fun e=>hcb (h.msep _ _ _ (e ▸ q1) hm)
   exact ⟨m2,es3,q1,q2,by rw [h2 m2 hne];exact q3,q4⟩
 ·exact h.sep
 ·exact h.msep
 ·exact h.memsep

def Emb.setM (E : Emb) (b m : Nat) : Emb:=⟨E.loc,fun b'=>if b' = b then some m else E.mloc b'⟩

theorem WRel.newMap (h : WRel C w0 E H w) (hfree : H.blk H.next = none) :
  E.le (E.setM H.next w.heap.size) ∧ WRel C w0 (E.setM H.next w.heap.size) (H.push (.map [] 0)) (w.alloc (.map #[] 0)):=by
 have hc : Chg w (w.alloc (.map #[] 0)) (fun _ _=>False):=Chg.alloc w _ _
 have hnone : E.mloc H.next = none:=by
  cases hx : E.mloc H.next with
  | none=>rfl
  | some m=>exact absurd hfree (h.mdom _ _ hx).1
 have hle : E.le (E.setM H.next w.heap.size):=⟨fun _ _ _ q=>q,fun b m q=>by
  simp only [Emb.setM]
  split
  ·rename_i e;subst e;rw [hnone] at q;cases q
  ·exact q⟩
 refine ⟨hle,?_⟩
 have h0:=h.chg hc (fun _ _ hf=>hf)
 have hset : ∀ b m,(E.setM H.next w.heap.size).mloc b = some m → (b = H.next ∧ m = w.heap.size) ∨ E.mloc b = some m:=fun b m q=>by
  simp only [Emb.setM] at q
  split at q
  ·rename_i e;cases q;exact .inl ⟨e,rfl⟩
  ·exact .inr q
 constructor
 ·exact h0.below
 ·exact h0.mem
 ·intro b g L hL
  obtain ⟨d1,d2,d3⟩:=h0.dom b g L hL
  have hbn : b ≠ H.next:=fun e=>d1 (e ▸ hfree)
  refine ⟨by simp only [Heap.push];rw [if_neg hbn];exact d1,d2,fun ty esz els gen wgen hb=>?_⟩
  simp only [Heap.push] at hb
  rw [if_neg hbn] at hb
  exact d3 _ _ _ _ _ hb
 ·intro b m hm
  rcases hset b m hm with ⟨rfl,rfl⟩ | hm
  ·exact ⟨by simp [Heap.push],by simp⟩
  ·have hbn : b ≠ H.next:=fun e=>(h0.mdom b m hm).1 (e ▸ hfree)
   exact ⟨by simp only [Heap.push];rw [if_neg hbn];exact (h0.mdom b m hm).1,(h0.mdom b m hm).2⟩
 ·intro b ty esz els gen wgen hb
  simp only [Heap.push] at hb
  split at hb
  ·cases hb
  ·exact (h0.row b _ _ _ _ _ hb).chg (Chg.refl _ (fun _ _=>False)) hle (fun _ _ _ _ _ _ _ _ hf=>hf)
 ·intro b es cl hb
  simp only [Heap.push] at hb
  split at hb
  ·rename_i e
   subst e
   cases hb
   exact ⟨w.heap.size,#[],by simp [Emb.setM],h.below.size,(heap_alloc w _).1,.nil⟩
  ·obtain ⟨m,es',q1,q2,q3,q4⟩:=h0.map b es cl hb
   exact ⟨m,es',hle.2 _ _ q1,q2,q3,q4.mono (Mem.le_refl _) hle⟩
 ·exact h0.sep
 ·intro b m b' hx hy
  rcases hset b m hx with ⟨rfl,rfl⟩ | hx' <;> rcases hset b' _ hy with ⟨rfl,e⟩ | hy'
  ·rfl
  ·have:=(h.mdom _ _ hy').2;omega
  ·have:=(h.mdom _ _ hx').2;omega
  ·exact h.msep _ _ _ hx' hy'
 ·exact h0.memsep


theorem RepK.get {es : List (AV × AV × Nat)} {mes : List MapEntry} (h : RepK C E es mes) : ∀ (i : Nat) k x n,es[i]? = some (k,x,n) → ∃ e,mes[i]? = some e ∧ Rep C E k e.key ∧ Rep C E x e.val ∧ e.born = n:=by
 induction h with
 | nil=>intro i k x n h;simp at h
 | cons k x n e as es hk hx hn _ ih=>
  intro i k' x' n' h
  cases i with
  | zero=>simp at h;obtain ⟨rfl,rfl,rfl⟩:=h;exact ⟨e,rfl,hk,hx,hn⟩
  | succ i=>simpa using ih i k' x' n' (by simpa using h)

theorem RepK.set {es : List (AV × AV × Nat)} {mes : List MapEntry} (h : RepK C E es mes) {k x : AV} {n : Nat} {e : MapEntry} (hk : Rep C E k e.key) (hx : Rep C E x e.val) (hn : e.born = n) : ∀ (i : Nat),RepK C E (es.set i (k,x,n)) (mes.set i e):=by
 induction h with
 | nil=>intro i;exact .nil
 | cons k' x' n' e' as es hk' hx' hn' h' ih=>
  intro i
  cases i with
  | zero=>exact .cons _ _ _ _ _ _ hk hx hn h'
  | succ i=>exact .cons _ _ _ _ _ _ hk' hx' hn' (ih i)

theorem RepK.erase {es : List (AV × AV × Nat)} {mes : List MapEntry} (h : RepK C E es mes) : ∀ (i : Nat),RepK C E (es.eraseIdx i) (mes.eraseIdx i):=by
 induction h with
 | nil=>intro i;exact .nil
 | cons k' x' n' e' as es hk' hx' hn' h' ih=>
  intro i
  cases i with
  | zero=>exact h'
  | succ i=>exact .cons _ _ _ _ _ _ hk' hx' hn' (ih i)

theorem RepK.snoc {es : List (AV × AV × Nat)} {mes : List MapEntry} (h : RepK C E es mes) {k x : AV} {n : Nat} {e : MapEntry} (hk : Rep C E k e.key) (hx : Rep C E x e.val) (hn : e.born = n) : RepK C E (es ++ [(k,x,n)]) (mes ++ [e]):=by
 induction h with
 | nil=>exact .cons _ _ _ _ _ _ hk hx hn .nil
 | cons k' x' n' e' as es hk' hx' hn' h' ih=>exact .cons _ _ _ _ _ _ hk' hx' hn' ih

theorem sameNow_str {l k : List Nat} {s s' : ByteArray} (h : strOf s = l) (h' : strOf s' = k) : Instr.sameNow .string (.string s) (.string s') = some (decide (l = k)):=by
 simp only [Instr.sameNow,Option.some.injEq]
 by_cases e : l = k
 ·have : s = s':=strOf_inj (by rw [h,h',e])
  rw [decide_eq_true e];exact (bytes_beq s s').2 this
 ·rw [decide_eq_false e]
  cases hb : (s == s') with
  | false=>rfl
  | true=>exact absurd (by rw [← h,← h',(bytes_beq s s').1 hb]) e

theorem findK_ok {l : List Nat} {s : ByteArray} (hs : strOf s = l) {es : List (AV × AV × Nat)} {mes : List MapEntry} (h : RepK C E es mes) : ∀ (i : Nat) (r : Option (Nat × AV × Nat)),findK l es i = some r →
  (r = none ∧ Instr.findNow .string (.string s) mes i = some none) ∨
  ∃ k x n e,r = some (i + k,x,n) ∧ mes[k]? = some e ∧ e.key = .string s ∧ Rep C E x e.val ∧ e.born = n ∧ Instr.findNow .string (.string s) mes i = some (some (i + k,e.val)):=by
 induction h with
 | nil=>intro i r h;simp only [findK,Option.some.injEq] at h;exact .inl ⟨h.symm,rfl⟩
 | cons k x n e as es hk hx hn h' ih=>
  intro i r h
  match k,hk,h with
  | .str kk,hk,h=>
   obtain ⟨s',hs1,hs2⟩:=rep_str hk
   simp only [findK] at h
   have hsn:=sameNow_str hs hs2
   split at h
   ·rename_i heq
    cases h
    refine .inr ⟨0,x,n,e,rfl,rfl,?_,hx,hn,?_⟩
    ·rw [hs1];congr 1;exact (strOf_inj (by rw [hs,hs2,heq])).symm
    ·simp only [Instr.findNow,hs1,hsn,decide_eq_true heq];rfl
   ·rename_i hne
    rcases ih (i + 1) r h with ⟨h1,h2⟩ | ⟨k2,x2,n2,e2,h1,h2,h3,h4,h5,h6⟩
    ·exact .inl ⟨h1,by simp only [Instr.findNow,hs1,hsn,decide_eq_false hne];exact h2⟩
    ·refine .inr ⟨k2 + 1,x2,n2,e2,by rw [h1,show i + 1 + k2 = i + (k2 + 1) by omega],by simpa using h2,h3,h4,h5,?_⟩
     simp only [Instr.findNow,hs1,hsn,decide_eq_false hne]
     rw [h6,show i + 1 + k2 = i + (k2 + 1) by omega]
  | .undef,_,h | .bool _,_,h | .int _ _,_,h | .nilptr,_,h | .ptr ..,_,h | .iptr ..,_,h | .nilslice,_,h | .eslice,_,h | .slice ..,_,h | .lst ..,_,h | .agg _,_,h | .tuple _,_,h | .nilIface,_,h | .iface ..,_,h | .nilFunc,_,h
  | .func ..,_,h | .nilMap,_,h | .map _,_,h=>simp [findK] at h

theorem isStrT_eq {t : TypeId} (h : isStrT P t = true) : P.underlying t = some .string:=by
 unfold isStrT at h
 split at h
 ·assumption
 ·cases h

theorem rep_map {b : Nat} {v : Value} (h : Rep C E (.map b) v) : ∃ m,v = .map (some m) ∧ E.mloc b = some m:=by
 cases h;exact ⟨_,rfl,by assumption⟩
theorem rep_nilMap {v : Value} (h : Rep C E .nilMap v) : v = .map none:=by cases h;rfl

theorem map_same {b m m' : Nat} {es : List (AV × AV × Nat)} {cl : Nat} (hw : WRel C w0 E H w) (hb : H.blk b = some (.map es cl)) (hm : E.mloc b = some m) :
  ∃ mes,w0.heap.size ≤ m ∧ w.heap[m]? = some (.map mes cl) ∧ RepK C E es mes.toList:=by
 obtain ⟨m2,mes,q1,q2,q3,q4⟩:=hw.map b es cl hb
 rw [hm] at q1;cases q1
 exact ⟨mes,q2,q3,q4⟩

theorem lookup_ok (hw : WRel C w0 E H w) {t : TypeId} {m k r : AV} {ok : Bool} {mv kv : Value} (hm : Rep C E m mv) (hk : Rep C E k kv) (h : evLookup P H t m k ok = some r) :
  ∃ z,(Instr.lookup t mv kv ok).run P w = .ok z w ∧ Rep C E r z:=by
 unfold evLookup at h
 split at h
 ·rename_i kt et l ht
  split at h
  ·rename_i hst
   have hkt:=isStrT_eq hst
   obtain ⟨s,rfl,hs⟩:=rep_str hk
   have miss : ∀ {z : AV},zeroOf P et = some z → ∀ (zs : Array MapEntry),Instr.findNow .string (.string s) zs.toList 0 = some none → (hget : ∀ q : mv = .map none,zs = #[]) →
     (∀ mm,mv = .map (some mm) → ∃ cl,w.heap[mm]? = some (.map zs cl)) → (mv = .map none ∨ ∃ mm,mv = .map (some mm)) →
     ∃ v,(Instr.lookup t mv (.string s) ok).run P w = .ok v w ∧ Rep C E (if ok = true then .tuple [z,.bool false] else z) v:=by
    intro z hz zs hf hnil hmap hcase
    obtain ⟨zv,hzr,hrep⟩:=run_zeroValue' (C:=C) (E:=E) w hz
    refine ⟨if ok = true then .tuple #[zv,.bool false] else zv,?_,?_⟩
    ·rcases hcase with rfl | ⟨mm,rfl⟩
     ·obtain rfl:=hnil rfl
      simp [Instr.lookup,run_underlying ht,run_checkKey hkt (show IsKey .string (.string s) from trivial),run_findKey hkt hf,hzr,Result.andThen]
     ·obtain ⟨cl,hh⟩:=hmap mm rfl
      simp [Instr.lookup,run_underlying ht,Go.MapKept.run_getObj_map hh,run_checkKey hkt (show IsKey .string (.string s) from trivial),run_findKey hkt hf,hzr,Result.andThen]
    ·cases ok
     ·exact hrep
     ·exact .tuple _ _ (.cons _ _ _ _ hrep (.cons _ _ _ _ (.bool _) .nil))
   split at h
   ·obtain rfl:=rep_nilMap hm
    cases hz : zeroOf P et with
    | none=>simp [hz] at h
    | some z=>
     simp only [hz,Option.map_some,Option.some.injEq] at h
     subst h
     exact miss hz #[] rfl (fun _=>rfl) (fun mm e=>by cases e) (.inl rfl)
   ·rename_i b
    obtain ⟨mm,rfl,hml⟩:=rep_map hm
    split at h
    ·rename_i es cl hb
     obtain ⟨mes,q2,q3,q4⟩:=map_same (m':=0) hw hb hml
     split at h
     ·rename_i i v n hf
      cases h
      rcases findK_ok hs q4 0 _ hf with ⟨e,_⟩ | ⟨k2,x2,n2,e2,h1,h2,h3,h4,h5,h6⟩
      ·cases e
      ·cases h1
       refine ⟨if ok = true then .tuple #[e2.val,.bool true] else e2.val,?_,?_⟩
       ·simp [Instr.lookup,run_underlying ht,Go.MapKept.run_getObj_map q3,run_checkKey hkt (show IsKey .string (.string s) from trivial),run_findKey hkt h6,Result.andThen]
       ·cases ok
        ·exact h4
        ·exact .tuple _ _ (.cons _ _ _ _ h4 (.cons _ _ _ _ (.bool _) .nil))
     ·rename_i hf
      rcases findK_ok hs q4 0 _ hf with ⟨_,hfn⟩ | ⟨k2,x2,n2,e2,h1,_⟩
      ·cases hz : zeroOf P et with
       | none=>simp [hz] at h
       | some z=>
        simp only [hz,Option.map_some,Option.some.injEq] at h
        subst h
        exact miss hz mes hfn (fun q=>by cases q) (fun mm2 e=>by cases e;exact ⟨cl,q3⟩) (.inr ⟨_,rfl⟩)
      ·cases h1
     ·cases h
    ·cases h
   ·cases h
  ·cases h
 ·cases h

theorem keeps_key {s : ByteArray} : (Instr.keyThatStays (.string s) (.string s)).run P w = .ok (.string s) w:=run_keyThatStays (d:=.string) trivial

theorem modify_toList {es : Array MapEntry} {i : Nat} {e : MapEntry} (f : MapEntry → MapEntry) (h : es.toList[i]? = some e) : (es.modify i f).toList = es.toList.set i (f e):=by
 rw [Array.toList_modify]
 apply List.ext_getElem?
 intro j
 rw [List.getElem?_modify,List.getElem?_set]
 by_cases hj : i = j
 ·subst hj
  rw [if_pos rfl,if_pos (List.getElem?_eq_some_iff.1 h).1,h]
  simp
 ·rw [if_neg hj]
  simp [hj]

theorem mapUpdate_ok (hw : WRel C w0 E H w) {t : TypeId} {m k x : AV} {mv kv xv : Value} {H' : Heap} (hm : Rep C E m mv) (hk : Rep C E k kv) (hx : Rep C E x xv) (h : evMapUpdate P H t m k x = some H') :
  ∃ w',(Instr.mapUpdate t mv kv xv).run P w = .ok () w' ∧ WRel C w0 E H' w':=by
 unfold evMapUpdate at h
 split at h
 ·rename_i kt et l b ht
  split at h
  ·rename_i hst
   have hkt:=isStrT_eq hst
   obtain ⟨s,rfl,hs⟩:=rep_str hk
   obtain ⟨mm,rfl,hml⟩:=rep_map hm
   split at h
   ·rename_i es cl hb
    obtain ⟨mes,q2,q3,q4⟩:=map_same (m':=0) hw hb hml
    split at h
    ·rename_i i v n hf
     cases h
     rcases findK_ok hs q4 0 _ hf with ⟨e,_⟩ | ⟨k2,x2,n2,e2,h1,h2,h3,h4,h5,h6⟩
     ·cases e
     ·cases h1
      have hm2 : mes[0 + k2]? = some e2:=by simpa using h2
      refine ⟨{ w with heap:=w.heap.setIfInBounds mm (.map (mes.modify (0 + k2) fun e=>{ e with key:=.string s,val:=xv }) cl) },?_,?_⟩
      ·simp [Instr.mapUpdate,run_underlying ht,Go.MapKept.run_getObj_map q3,run_checkKey hkt (show IsKey .string (.string s) from trivial),run_findKey hkt h6,Result.andThen]
       rw [Nat.zero_add] at hm2
       simp [hm2,h3,keeps_key,Go.MapKept.run_setObj_map _ q3]
      ·refine hw.setMap hb hml q2 q3 ?_
       rw [modify_toList _ (by simpa using h2)]
       exact q4.set (e:={ e2 with key:=.string s,val:=xv }) (.str _ _ hs) hx h5 _
    ·rename_i hf
     cases h
     rcases findK_ok hs q4 0 _ hf with ⟨_,hfn⟩ | ⟨k2,x2,n2,e2,h1,_⟩
     ·refine ⟨{ w with heap:=w.heap.setIfInBounds mm (.map (mes.push { key:=.string s,val:=xv,born:=cl }) (cl + 1)) },?_,?_⟩
      ·simp [Instr.mapUpdate,run_underlying ht,Go.MapKept.run_getObj_map q3,run_checkKey hkt (show IsKey .string (.string s) from trivial),run_findKey hkt hfn,Go.MapKept.run_setObj_map _ q3,Result.andThen]
      ·refine hw.setMap hb hml q2 q3 ?_
       rw [Array.toList_push]
       exact q4.snoc (e:={ key:=.string s,val:=xv,born:=cl }) (.str _ _ hs) hx rfl
     ·cases h1
    ·cases h
   ·cases h
  ·cases h
 ·cases h

theorem delete_ok (hw : WRel C w0 E H w) {ts : Array TypeId} {ty : TypeId} {m k r : AV} {mv kv : Value} {H' : Heap} (hm : Rep C E m mv) (hk : Rep C E k kv) (h : evDelete P H ts m k = some (r,H')) :
  ∃ z E' w',(Builtin.delete_ ts ty #[mv,kv]).run P w = .ok z w' ∧ E.le E' ∧ WRel C w0 E' H' w' ∧ Rep C E' r z:=by
 unfold evDelete at h
 split at h
 ·rename_i kt et l b ht
  split at h
  ·rename_i hst
   have hkt:=isStrT_eq hst
   obtain ⟨s,rfl,hs⟩:=rep_str hk
   obtain ⟨mm,rfl,hml⟩:=rep_map hm
   obtain ⟨t,ht0,ht1⟩:=Option.bind_eq_some_iff.1 ht
   split at h
   ·rename_i es cl hb
    obtain ⟨mes,q2,q3,q4⟩:=map_same (m':=0) hw hb hml
    split at h
    ·rename_i i v n hf
     cases h
     rcases findK_ok hs q4 0 _ hf with ⟨e,_⟩ | ⟨k2,x2,n2,e2,h1,h2,h3,h4,h5,h6⟩
     ·cases e
     ·cases h1
      refine ⟨.tuple #[],E,{ w with heap:=w.heap.setIfInBounds mm (.map (mes.eraseIdxIfInBounds (0 + k2)) cl) },?_,Emb.le_refl _,?_,.tuple _ _ .nil⟩
      ·simp [Builtin.delete_,ht0,run_underlying ht1,Go.MapKept.run_getObj_map q3,run_checkKey hkt (show IsKey .string (.string s) from trivial),run_findKey hkt h6,Go.MapKept.run_setObj_map _ q3,Result.andThen]
      ·refine hw.setMap hb hml q2 q3 ?_
       rw [Array.toList_eraseIdxIfInBounds]
       exact q4.erase _
    ·rename_i hf
     cases h
     rcases findK_ok hs q4 0 _ hf with ⟨_,hfn⟩ | ⟨k2,x2,n2,e2,h1,_⟩
     ·refine ⟨.tuple #[],E,{ w with heap:=w.heap.setIfInBounds mm (.map mes cl) },?_,Emb.le_refl _,hw.setMap hb hml q2 q3 q4,.tuple _ _ .nil⟩
      simp [Builtin.delete_,ht0,run_underlying ht1,Go.MapKept.run_getObj_map q3,run_checkKey hkt (show IsKey .string (.string s) from trivial),run_findKey hkt hfn,Go.MapKept.run_setObj_map _ q3,Result.andThen]
     ·cases h1
    ·cases h
   ·cases h
  ·cases h
 ·cases h

theorem makeMap_ok (hw : WRel C w0 E H w) (hfree : H.blk H.next = none) {t : TypeId} :
  ∃ z E' w',(Instr.makeMap t none).run P w = .ok z w' ∧ E.le E' ∧ WRel C w0 E' (H.push (.map [] 0)) w' ∧ Rep C E' (.map H.next) z:=by
 obtain ⟨h1,h2⟩:=hw.newMap hfree
 exact ⟨.map (some w.heap.size),_,w.alloc (.map #[] 0),by simp [Instr.makeMap,newObj,Sem.run],h1,h2,.map _ _ (by simp [Emb.setM])⟩

theorem zero_made (z : Array Value) (n : Nat) : Builtin.zeroCells z n = madeCells z (n * z.size):=rfl

theorem clear_ok (hw : WRel C w0 E H w) {ts : Array TypeId} {ty : TypeId} {x r : AV} {xv : Value} {H' : Heap} (hx : Rep C E x xv) (h : evClear P H ts x = some (r,H')) :
  ∃ z E' w',(Builtin.clear_ ts ty #[xv]).run P w = .ok z w' ∧ E.le E' ∧ WRel C w0 E' H' w' ∧ Rep C E' r z:=by
 unfold evClear at h
 split at h
 ·rename_i kt et b ht
  obtain ⟨t,ht0,ht1⟩:=Option.bind_eq_some_iff.1 ht
  obtain ⟨mm,rfl,hml⟩:=rep_map hx
  split at h
  ·rename_i es cl hb
   cases h
   obtain ⟨mes,q2,q3,q4⟩:=map_same (m':=0) hw hb hml
   refine ⟨.tuple #[],E,{ w with heap:=w.heap.setIfInBounds mm (.map #[] cl) },?_,Emb.le_refl _,hw.setMap hb hml q2 q3 .nil,.tuple _ _ .nil⟩
   simp [Builtin.clear_,ht0,run_underlying ht1,Go.MapKept.run_getObj_map q3,Go.MapKept.run_setObj_map _ q3,Result.andThen]
  ·cases h
 ·rename_i e ht
  obtain ⟨t,ht0,ht1⟩:=Option.bind_eq_some_iff.1 ht
  cases h
  cases hx
  exact ⟨.tuple #[],E,w,by simp [Builtin.clear_,ht0,run_underlying ht1,Result.andThen],Emb.le_refl _,hw,.tuple _ _ .nil⟩
 ·rename_i e ht
  obtain ⟨t,ht0,ht1⟩:=Option.bind_eq_some_iff.1 ht
  cases h
  cases hx
  exact ⟨.tuple #[],E,w,by simp [Builtin.clear_,ht0,run_underlying ht1,Result.andThen],Emb.le_refl _,hw,.tuple _ _ .nil⟩
 ·rename_i e b off len cap ex g ht
  obtain ⟨t,ht0,ht1⟩:=Option.bind_eq_some_iff.1 ht
  cases hx with
  | slice _ _ _ _ _ _ L a rc hL h1 h2 h3 h4 h5 h6 h7=>
   split at h
   ·rename_i h0
    cases h
    subst h0
    exact ⟨.tuple #[],E,w,by simp [Builtin.clear_,ht0,run_underlying ht1,Result.andThen],Emb.le_refl _,hw,.tuple _ _ .nil⟩
   ·rename_i h0
    split at h
    ·rename_i s z ty' sz els gen wgen hs hz hb
     split at h
     ·rename_i hc
      obtain ⟨rfl,rfl,hun,hzl,hcell,hlen⟩:=hc
      cases h
      obtain ⟨zv,hzr,hrep⟩:=run_zeroValue' (C:=C) (E:=E) w hz
      have hcs:=rep_cells hrep hun
      have hsz : zv.cells.size = sz:=by have:=hcs.length;simp at this;omega
      have hmade:=made_rep hcs len
      have ha:=h6 (by omega)
      have hLsz : L.esz = sz:=by
       obtain ⟨G',hG',hlok,_⟩:=hw.newest hb
       rw [hL] at hG';cases hG'
       exact hlok.sz
      obtain ⟨q1,q2⟩:=setAll_ok (P:=P) hw hb hL (new:=List.replicate len z.cells) (k:=off) h1 (by simpa using hlen) hmade (fun cs hc=>by rw [(List.mem_replicate.1 hc).2];exact hzl) (by simp [List.all_replicate,hcell])
      refine ⟨.tuple #[],E,_,?_,Emb.le_refl _,q2,.tuple _ _ .nil⟩
      rw [ha,hLsz]
      obtain ⟨n,rfl⟩ : ∃ n,len = n + 1:=⟨len - 1,by omega⟩
      simp [Builtin.clear_,ht0,run_underlying ht1,Result.andThen,hzr,zero_made,q1]
     ·cases h
    ·cases h
 ·cases h

theorem strOf_push (s : ByteArray) (n : Int) (h : 0 ≤ n ∧ n < 256) : strOf (s.push (UInt8.ofNat n.toNat)) = strOf s ++ [n.toNat]:=by
 simp only [strOf,ByteArray.push,Array.toList_push,List.map_append,List.map_cons,List.map_nil]
 congr 2
 simp
 omega

def stepByte (c : Value) (r : ByteArray) : Sem (ForInStep ByteArray):=
 match c with
 | .int .u8 n=>pure (.yield (r.push (UInt8.ofNat n.toNat)))
 | _=>do
  stuck "bytesToString: byte expected"
  pure (.yield r)

theorem run_bytes : ∀ (cells : List (List AV)) (bs : List Nat) (vs : List Value) (s : ByteArray),bytesOfCells cells = some bs → RepL C E cells.flatten vs →
  ∃ s',(forIn vs s stepByte).run P w = .ok s' w ∧ strOf s' = strOf s ++ bs
 | [],bs,vs,s,h,hr=>by
  simp only [bytesOfCells,Option.some.injEq] at h
  subst h
  cases hr
  exact ⟨s,by simp,by simp⟩
 | c :: cells,bs,vs,s,h,hr=>by
  match c,h with
  | [.int .u8 n],h=>
   simp only [bytesOfCells] at h
   split at h
   ·rename_i hn
    obtain ⟨bs',hb,e⟩:=map_some_eq' h
    subst e
    simp only [List.flatten_cons,List.cons_append,List.nil_append] at hr
    cases hr with
    | cons _ v _ vs' h1 h2=>
     obtain rfl:=rep_int h1
     obtain ⟨s',q1,q2⟩:=run_bytes cells bs' vs' (s.push (UInt8.ofNat n.toNat)) hb h2
     refine ⟨s',?_,by rw [q2,strOf_push s n hn];simp⟩
     simp only [List.forIn_cons,stepByte,Sem.run_bind,Sem.run_pure,Result.andThen_ok]
     exact q1
   ·cases h
where
 map_some_eq' {α β : Type} {o : Option α} {f : α → β} {r : β} (h : o.map f = some r) : ∃ a,o = some a ∧ f a = r:=by
  cases o with
  | none=>cases h
  | some a=>exact ⟨a,rfl,by simpa using h⟩

theorem bytes_ok (hw : WRel C w0 E H w) {s d : TypeId} {x r : AV} {xv : Value} (hx : Rep C E x xv) (h : evBytes P H s d x = some r) : ∃ z,(convert s d xv).run P w = .ok z w ∧ Rep C E r z:=by
 unfold evBytes at h
 split at h
 ·rename_i e hs hd
  split at h
  ·rename_i b off len cap ex g he
   cases hel : H.elems 1 len (.slice b off len cap ex g) with
   | none=>simp [hel] at h
   | some cells=>
    simp only [hel,Option.bind_some] at h
    cases hb : bytesOfCells cells with
    | none=>simp [hb] at h
    | some bs=>
     simp only [hb,Option.map_some,Option.some.injEq] at h
     subst h
     obtain ⟨vs,h1,h2,h3,h4⟩:=elems_ok (P:=P) hw hel hx
     have h5:=h4 w (fun _=>rfl)
     cases hx with
     | slice _ _ _ _ _ _ L a rc hL g1 g2 g3 g4 g5 g6 g7=>
      simp only [Builtin.firstCells,Nat.mul_one] at h5
      obtain ⟨s',q1,q2⟩:=run_bytes (P:=P) (w:=w) cells bs vs ByteArray.empty hb h1
      refine ⟨.string s',?_,.str _ _ (by rw [q2];simp [strOf])⟩
      simp only [convert,Sem.run_bind,run_underlying hs,run_underlying hd,run_underlying he,Result.andThen_ok,Conv.bytesToString,h5,← Array.forIn_toList]
      have q3 : (forIn vs ByteArray.empty stepByte : Sem ByteArray) = (forIn vs ByteArray.empty fun c r=>
        match c with
        | .int .u8 n=>pure (.yield (r.push (UInt8.ofNat n.toNat)))
        | _=>do
         stuck "bytesToString: byte expected"
         pure (.yield r)):=rfl
      rw [q3] at q1
      exact (congrArg (fun x=>Result.andThen x fun a w'=>Sem.run P (pure (Value.string a)) w') q1).trans (by simp)
  ·cases h
 ·cases h

end
end Go.Ev
set_option linter.unusedVariables false
set_option linter.unusedSimpArgs false
namespace Go.Ev
open Go.MapKept Go.WideShapes


theorem valCell_ok {C : Mem} {E : Emb} {a : AV} {v u : Value} (h : Rep C E a v) (ha : valCell a = some u) : v = u:=by
 cases h <;> simp [valCell] at ha <;> exact ha
theorem valCells_ok {C : Mem} {E : Emb} {as : List AV} {vs us : List Value} (h : RepL C E as vs) (ha : valCells as = some us) : vs = us:=by
 induction as generalizing vs us with
 | nil=>cases h;simp [valCells] at ha;exact ha.symm
 | cons a l ih=>
  cases h with
  | cons _ v _ vs' h1 h2=>
   simp only [valCells] at ha
   split at ha
   ·rename_i x xs q1 q2
    cases ha
    rw [valCell_ok h1 q1,ih h2 q2]
   ·cases ha
theorem valOf_ok {C : Mem} {E : Emb} {a : AV} {v u : Value} (h : Rep C E a v) (ha : valOf a = some u) : v = u:=by
 cases a <;> simp [valOf] at ha
 ·subst ha;cases h;rfl
 ·obtain ⟨vs,h1,rfl⟩:=ha
  cases h with
  | agg cs ws hw=>rw [valCells_ok hw h1]
theorem eqCell_iff {a b : AV} {u v : Value} (ha : valCell a = some u) (hb : valCell b = some v) : eqCell a b = true ↔ u = v:=by
 cases a <;> simp [valCell] at ha <;> cases b <;> simp [valCell] at hb <;> subst ha <;> subst hb <;> simp [eqCell]
theorem eqCells_iff : ∀ {as bs : List AV} {us vs : List Value},valCells as = some us → valCells bs = some vs → (eqCells as bs = true ↔ us = vs)
 | [],[],us,vs,h,h'=>by simp [valCells] at h h';subst h;subst h';simp [eqCells]
 | [],b :: m,us,vs,h,h'=>by
  simp only [valCells] at h h'
  split at h' <;> cases h';cases h;simp [eqCells]
 | a :: l,[],us,vs,h,h'=>by
  simp only [valCells] at h h'
  split at h <;> cases h;cases h';simp [eqCells]
 | a :: l,b :: m,us,vs,h,h'=>by
  simp only [valCells] at h h'
  split at h
  ·rename_i x xs q1 q2
   cases h
   split at h'
   ·rename_i y ys q3 q4
    cases h'
    simp only [eqCells,Bool.and_eq_true,eqCell_iff q1 q3,eqCells_iff q2 q4,List.cons.injEq]
   ·cases h'
  ·cases h
theorem eqKey_iff {a b : AV} {u v : Value} (ha : valOf a = some u) (hb : valOf b = some v) : eqKey a b = true ↔ u = v:=by
 cases a <;> simp [valOf] at ha
 ·cases b <;> simp [valOf] at hb
  ·subst ha;subst hb;simp [eqKey]
  ·obtain ⟨vs,h2,rfl⟩:=hb;subst ha;simp [eqKey]
 ·cases b <;> simp [valOf] at hb
  ·obtain ⟨us,h1,rfl⟩:=ha;subst hb;simp [eqKey]
  ·obtain ⟨us,h1,rfl⟩:=ha
   obtain ⟨vs,h2,rfl⟩:=hb
   simp only [eqKey,eqCells_iff h1 h2]
   constructor
   ·rintro rfl;rfl
   ·intro h
    have:=congrArg (fun v=>match v with | Value.agg cs=>cs.toList | _=>[]) h
    simpa using this

section
variable {P : Program} {C : Mem} {w0 : World} {E : Emb} {H : Heap} {w : World}

theorem keyOk_spec {kt : TypeId} {a : AV} (h : (keyOk P kt a).isSome) : ∃ v,valOf a = some v ∧ keyGood P kt v = true:=by
 unfold keyOk at h
 split at h
 ·rename_i v hv
  split at h
  ·rename_i hk
   exact ⟨v,hv,hk⟩
  ·cases h
 ·cases h

structure KLaw (P : Program) (kt : TypeId) : Prop where
 check : ∀ (w : World) (em : Bool) {v : Value},keyGood P kt v = true → (Instr.checkKey em 10000 kt v).run P w = .ok () w
 find : ∀ (w : World) {x : Value},keyGood P kt x = true → ∀ es : List MapEntry,(∀ e ∈ es,keyGood P kt e.key = true) →
  ((Instr.findKey kt x es).run P w = .ok none w ∧ ∀ e ∈ es,e.key ≠ x) ∨ ∃ j e,(Instr.findKey kt x es).run P w = .ok (some (j,e.val)) w ∧ es[j]? = some e ∧ e.key = x
 stays : ∀ (w : World) {v : Value},keyGood P kt v = true → (Instr.keyThatStays v v).run P w = .ok v w

theorem int_law {kt : TypeId} {k : IntKind} (hk : P.underlying kt = some (.int k)) : KLaw P kt:=by
 have good : ∀ {v : Value},keyGood P kt v = true → ∃ n,v = .int k n:=fun {v} h=>by
  simp only [keyGood,hk] at h
  cases v <;> simp at h
  rename_i k' n
  subst h
  exact ⟨n,rfl⟩
 refine ⟨fun w em v h=>?_,fun w x hx es hes=>?_,fun w v h=>?_⟩
 ·obtain ⟨n,rfl⟩:=good h
  exact run_checkKey hk (d:=.int k) (k:=.int k n) (by simp [IsKey]) em 9999
 ·obtain ⟨n,rfl⟩:=good hx
  have hks : ∀ x ∈ es,IsKey (.int k) x.key:=fun x hxm=>by
   obtain ⟨m,e⟩:=good (hes x hxm)
   rw [e];simp [IsKey]
  rcases findNow_spec (d:=.int k) (k:=.int k n) (by simp [IsKey]) es 0 hks with ⟨h1,h2⟩ | ⟨j,e0,h1,h2,h3⟩
  ·exact Or.inl ⟨run_findKey hk h1,h2⟩
  ·exact Or.inr ⟨j,e0,by simpa using run_findKey hk h1,h2,h3⟩
 ·obtain ⟨n,rfl⟩:=good h
  exact run_keyThatStays (d:=.int k) (k:=.int k n) (by simp [IsKey])

theorem wide_law {kt : TypeId} (h1 : P.keyTypeAt 100 kt = true) (h2 : P.tiled 100 kt = true) (h3 : (match P.underlying kt with | some (.array _ _) | some (.struct _)=>true | _=>false) = true) : KLaw P kt:=by
 have K:=deep_law (m:=100) (by omega) h1 h2 h3
 have good : ∀ {v : Value},keyGood P kt v = true → ∃ l,keyOf P kt v = some l:=fun {v} h=>by
  unfold keyGood at h
  split at h
  ·rename_i hu;rw [hu] at h3;simp at h3
  ·exact Option.isSome_iff_exists.1 h
 exact ⟨fun w em v h=>by obtain ⟨l,hl⟩:=good h;exact K.check w em hl,fun w x hx es hes=>by obtain ⟨l,hl⟩:=good hx;exact K.find w hl es (fun e he=>good (hes e he)),fun w v h=>by obtain ⟨l,hl⟩:=good h;exact K.stays w hl⟩

theorem wideK_law {kt : TypeId} (h : wideK P kt = true) : KLaw P kt:=by
 unfold wideK at h
 split at h
 ·rename_i k hk;exact int_law hk
 ·rename_i hk
  simp only [Bool.and_eq_true] at h
  exact wide_law h.1 h.2 (by rw [hk])
 ·rename_i hk
  simp only [Bool.and_eq_true] at h
  exact wide_law h.1 h.2 (by rw [hk])
 ·cases h

theorem repK_none {key : AV} {kv : Value} (hkv : valOf key = some kv) {es : List (AV × AV × Nat)} {mes : List MapEntry} (h : RepK C E es mes) (hall : ∀ e ∈ es,∃ v,valOf e.1 = some v) (hn : es.all (fun e=>!eqKey e.1 key) = true) :
  ∀ e ∈ mes,e.key ≠ kv:=by
 induction h with
 | nil=>simp
 | cons k x n e as es hk hx hb h' ih=>
  obtain ⟨v,hv⟩:=hall _ List.mem_cons_self
  have hek:=valOf_ok hk hv
  simp only [List.all_cons,Bool.and_eq_true] at hn
  intro e' he'
  rcases List.mem_cons.1 he' with rfl | he'
  ·intro q
   have:=(eqKey_iff hv hkv).2 (by rw [← hek];exact q)
   simp [this] at hn
  ·exact ih (fun e' he'=>hall e' (List.mem_cons_of_mem _ he')) hn.2 e' he'

theorem findW_ok {key : AV} {kv : Value} (hkv : valOf key = some kv) {es : List (AV × AV × Nat)} {mes : List MapEntry} (h : RepK C E es mes) (hall : ∀ e ∈ es,∃ v,valOf e.1 = some v) : ∀ (i : Nat),oneW key es = true →
  (findW key es i = none ∧ ∀ e ∈ mes,e.key ≠ kv) ∨ ∃ j x n e,findW key es i = some (i + j,x,n) ∧ mes[j]? = some e ∧ e.key = kv ∧ Rep C E x e.val ∧ e.born = n ∧ ∀ j' e',mes[j']? = some e' → e'.key = kv → j' = j:=by
 induction h with
 | nil=>intro i _;exact .inl ⟨rfl,by simp⟩
 | cons k x n e as es hk hx hn h' ih=>
  intro i hone
  obtain ⟨v,hv⟩:=hall _ List.mem_cons_self
  have hek:=valOf_ok hk hv
  have hall' : ∀ e ∈ as,∃ v,valOf e.1 = some v:=fun e' he'=>hall e' (List.mem_cons_of_mem _ he')
  simp only [findW]
  simp only [oneW] at hone
  by_cases he : eqKey k key = true
  ·rw [if_pos he]
   rw [if_pos he] at hone
   have hno:=repK_none hkv h' hall' hone
   refine .inr ⟨0,x,n,e,rfl,rfl,by rw [hek];exact (eqKey_iff hv hkv).1 he,hx,hn,fun j' e' hj hk'=>?_⟩
   cases j' with
   | zero=>rfl
   | succ j'=>exact absurd hk' (hno e' (List.mem_of_getElem? (by simpa using hj)))
  ·rw [if_neg he]
   rw [if_neg he] at hone
   have hne : e.key ≠ kv:=fun q=>he ((eqKey_iff hv hkv).2 (by rw [← hek];exact q))
   rcases ih hall' (i + 1) hone with ⟨h1,h2⟩ | ⟨j,y,m,e2,h1,h2,h3,h4,h5,h6⟩
   ·exact .inl ⟨h1,fun e' he'=>by
     rcases List.mem_cons.1 he' with rfl | he'
     ·exact hne
     ·exact h2 e' he'⟩
   ·refine .inr ⟨j + 1,y,m,e2,by rw [h1,show i + 1 + j = i + (j + 1) by omega],by simpa using h2,h3,h4,h5,fun j' e' hj hk'=>?_⟩
    cases j' with
    | zero=>simp at hj;subst hj;exact absurd hk' hne
    | succ j'=>rw [h6 j' e' (by simpa using hj) hk']

theorem keys_of {kt : TypeId} {es : List (AV × AV × Nat)} {mes : List MapEntry} (h : RepK C E es mes) (hall : es.all (fun e=>(keyOk P kt e.1).isSome) = true) : (∀ e ∈ es,∃ v,valOf e.1 = some v) ∧ ∀ e ∈ mes,keyGood P kt e.key = true:=by
 induction h with
 | nil=>exact ⟨by simp,by simp⟩
 | cons k x n e as es hk hx hb h' ih=>
  simp only [List.all_cons,Bool.and_eq_true] at hall
  obtain ⟨v,h1,h2⟩:=keyOk_spec hall.1
  obtain ⟨i1,i2⟩:=ih hall.2
  refine ⟨fun e' he'=>?_,fun e' he'=>?_⟩
  ·rcases List.mem_cons.1 he' with rfl | he'
   ·exact ⟨v,h1⟩
   ·exact i1 e' he'
  ·rcases List.mem_cons.1 he' with rfl | he'
   ·rw [valOf_ok hk h1];exact h2
   ·exact i2 e' he'

theorem lookupW_ok (hw : WRel C w0 E H w) {t : TypeId} {m k r : AV} {ok : Bool} {mv kv : Value} (hm : Rep C E m mv) (hk : Rep C E k kv) (h : evLookupW P H t m k ok = some r) :
  ∃ z,(Instr.lookup t mv kv ok).run P w = .ok z w ∧ Rep C E r z:=by
 unfold evLookupW at h
 split at h
 ·rename_i kt et ht
  split at h
  ·rename_i hc
   have K:=wideK_law hc.1
   obtain ⟨v,hv,hl⟩:=keyOk_spec hc.2
   obtain rfl:=valOf_ok hk hv
   have miss : ∀ {z : AV},zeroOf P et = some z → ∀ (zs : Array MapEntry),(Instr.findKey kt kv zs.toList).run P w = .ok none w → (mv = .map none → zs = #[]) →
     (∀ mm,mv = .map (some mm) → ∃ cl,w.heap[mm]? = some (.map zs cl)) → (mv = .map none ∨ ∃ mm,mv = .map (some mm)) →
     ∃ v,(Instr.lookup t mv kv ok).run P w = .ok v w ∧ Rep C E (if ok = true then .tuple [z,.bool false] else z) v:=by
    intro z hz zs hf hnil hmap hcase
    obtain ⟨zv,hzr,hrep⟩:=run_zeroValue' (C:=C) (E:=E) w hz
    refine ⟨if ok = true then .tuple #[zv,.bool false] else zv,?_,?_⟩
    ·rcases hcase with rfl | ⟨mm,rfl⟩
     ·obtain rfl:=hnil rfl
      simp at hf
      simp [Instr.lookup,run_underlying ht,K.check w _ hl,hf,hzr,Result.andThen]
     ·obtain ⟨cl,hh⟩:=hmap mm rfl
      simp [Instr.lookup,run_underlying ht,Go.MapKept.run_getObj_map hh,K.check w _ hl,hf,hzr,Result.andThen]
    ·cases ok
     ·exact hrep
     ·exact .tuple _ _ (.cons _ _ _ _ hrep (.cons _ _ _ _ (.bool _) .nil))
   split at h
   ·obtain rfl:=rep_nilMap hm
    cases hz : zeroOf P et with
    | none=>simp [hz] at h
    | some z=>
     simp only [hz,Option.map_some,Option.some.injEq] at h
     subst h
     rcases K.find w hl [] (by simp) with ⟨h1,_⟩ | ⟨j,e,_,h2,_⟩
     ·exact miss hz #[] h1 (fun _=>rfl) (fun mm e=>by cases e) (.inl rfl)
     ·simp at h2
   ·rename_i b
    obtain ⟨mm,rfl,hml⟩:=rep_map hm
    split at h
    ·rename_i es cl hb
     obtain ⟨mes,q2,q3,q4⟩:=map_same (m':=0) hw hb hml
     split at h
     ·rename_i hall
      obtain ⟨k1,k2⟩:=keys_of q4 hall.1
      have hfd:=findW_ok hv q4 k1 0 hall.2
      split at h
      ·rename_i i v n hf
       cases h
       rcases hfd with ⟨e,_⟩ | ⟨j,x2,n2,e2,h1,h2,h3,h4,h5,h6⟩
       ·rw [hf] at e;cases e
       ·rw [hf] at h1;cases h1
        rcases K.find w hl mes.toList k2 with ⟨_,g2⟩ | ⟨j',e',g1,g2,g3⟩
        ·exact absurd h3 (g2 e2 (List.mem_of_getElem? h2))
        ·obtain rfl:=h6 j' e' g2 g3
         have hee : e' = e2:=by rw [g2] at h2;exact Option.some.inj h2
         rw [hee] at g1
         refine ⟨if ok = true then .tuple #[e2.val,.bool true] else e2.val,?_,?_⟩
         ·simp [Instr.lookup,run_underlying ht,Go.MapKept.run_getObj_map q3,K.check w _ hl,g1,Result.andThen]
         ·cases ok
          ·exact h4
          ·exact .tuple _ _ (.cons _ _ _ _ h4 (.cons _ _ _ _ (.bool _) .nil))
      ·rename_i hf
       rcases hfd with ⟨_,hno⟩ | ⟨j,x2,n2,e2,h1,_⟩
       ·cases hz : zeroOf P et with
        | none=>simp [hz] at h
        | some z=>
         simp only [hz,Option.map_some,Option.some.injEq] at h
         subst h
         rcases K.find w hl mes.toList k2 with ⟨g1,_⟩ | ⟨j',e',_,g2,g3⟩
         ·exact miss hz mes g1 (fun q=>by cases q) (fun mm2 e=>by cases e;exact ⟨cl,q3⟩) (.inr ⟨_,rfl⟩)
         ·exact absurd g3 (hno e' (List.mem_of_getElem? g2))
       ·rw [hf] at h1;cases h1
     ·cases h
    ·cases h
   ·cases h
  ·cases h
 ·cases h

theorem mapUpdateW_ok (hw : WRel C w0 E H w) {t : TypeId} {m k x : AV} {mv kv xv : Value} {H' : Heap} (hm : Rep C E m mv) (hk : Rep C E k kv) (hx : Rep C E x xv) (h : evMapUpdateW P H t m k x = some H') :
  ∃ w',(Instr.mapUpdate t mv kv xv).run P w = .ok () w' ∧ WRel C w0 E H' w':=by
 unfold evMapUpdateW at h
 split at h
 ·rename_i kt et b ht
  split at h
  ·rename_i hc
   have K:=wideK_law hc.1
   obtain ⟨v,hv,hl⟩:=keyOk_spec hc.2
   obtain rfl:=valOf_ok hk hv
   obtain ⟨mm,rfl,hml⟩:=rep_map hm
   split at h
   ·rename_i es cl hb
    obtain ⟨mes,q2,q3,q4⟩:=map_same (m':=0) hw hb hml
    split at h
    ·rename_i hall
     obtain ⟨k1,k2⟩:=keys_of q4 hall.1
     have hfd:=findW_ok hv q4 k1 0 hall.2
     split at h
     ·rename_i i v n hf
      cases h
      rcases hfd with ⟨e,_⟩ | ⟨j,x2,n2,e2,h1,h2,h3,h4,h5,h6⟩
      ·rw [hf] at e;cases e
      ·rw [hf] at h1;cases h1
       rcases K.find w hl mes.toList k2 with ⟨_,g2⟩ | ⟨j',e',g1,g2,g3⟩
       ·exact absurd h3 (g2 e2 (List.mem_of_getElem? h2))
       ·obtain rfl:=h6 j' e' g2 g3
        have hee : e' = e2:=by rw [g2] at h2;exact Option.some.inj h2
        rw [hee] at g1
        have hm2 : mes[j']? = some e2:=by simpa using h2
        refine ⟨{ w with heap:=w.heap.setIfInBounds mm (.map (mes.modify j' fun e=>{ e with key:=kv,val:=xv }) cl) },?_,?_⟩
        ·simp [Instr.mapUpdate,run_underlying ht,Go.MapKept.run_getObj_map q3,K.check w _ hl,g1,Result.andThen]
         simp [hm2,h3,K.stays w hl,Go.MapKept.run_setObj_map _ q3]
        ·refine hw.setMap hb hml q2 q3 ?_
         rw [modify_toList _ (by simpa using h2),Nat.zero_add]
         exact q4.set (e:={ e2 with key:=kv,val:=xv }) hk hx h5 _
     ·rename_i hf
      cases h
      rcases hfd with ⟨_,hno⟩ | ⟨j,x2,n2,e2,h1,_⟩
      ·rcases K.find w hl mes.toList k2 with ⟨g1,_⟩ | ⟨j',e',_,g2,g3⟩
       ·refine ⟨{ w with heap:=w.heap.setIfInBounds mm (.map (mes.push { key:=kv,val:=xv,born:=cl }) (cl + 1)) },?_,?_⟩
        ·simp [Instr.mapUpdate,run_underlying ht,Go.MapKept.run_getObj_map q3,K.check w _ hl,g1,Go.MapKept.run_setObj_map _ q3,Result.andThen]
        ·refine hw.setMap hb hml q2 q3 ?_
         rw [Array.toList_push]
         exact q4.snoc (e:={ key:=kv,val:=xv,born:=cl }) hk hx rfl
       ·exact absurd g3 (hno e' (List.mem_of_getElem? g2))
      ·rw [hf] at h1;cases h1
    ·cases h
   ·cases h
  ·cases h
 ·cases h

theorem look_ok (hw : WRel C w0 E H w) {t : TypeId} {m k r : AV} {ok : Bool} {mv kv : Value} (hm : Rep C E m mv) (hk : Rep C E k kv) (h : evLook P H t m k ok = some r) :
  ∃ z,(Instr.lookup t mv kv ok).run P w = .ok z w ∧ Rep C E r z:=by
 unfold evLook at h
 split at h
 ·exact lookupW_ok hw hm hk h
 ·exact lookupW_ok hw hm hk h
 ·exact lookup_ok hw hm hk h

theorem mapUpd_ok (hw : WRel C w0 E H w) {t : TypeId} {m k x : AV} {mv kv xv : Value} {H' : Heap} (hm : Rep C E m mv) (hk : Rep C E k kv) (hx : Rep C E x xv) (h : evMapUpd P H t m k x = some H') :
  ∃ w',(Instr.mapUpdate t mv kv xv).run P w = .ok () w' ∧ WRel C w0 E H' w':=by
 unfold evMapUpd at h
 split at h
 ·exact mapUpdateW_ok hw hm hk hx h
 ·exact mapUpdateW_ok hw hm hk hx h
 ·exact mapUpdate_ok hw hm hk hx h
end
end Go.Ev
set_option linter.unusedVariables false
set_option linter.unusedSimpArgs false
namespace Go.Ev
section
variable {P : Program} {C : Mem} {w0 : World} {E : Emb} {H : Heap} {w : World}

theorem heap_alloc_last (w1 : World) (o : Obj) : (w1.alloc o).heap[w1.heap.size]? = some o:=by
 show (w1.heap.push o)[w1.heap.size]? = _
 simp

theorem frozen_alloc_past {w1 : World} {C1 : Array Value} {ty n o : Nat} (h : o < n) : (w1.alloc (.cells C1 ty (n,n + 1))).frozen? ⟨w1.heap.size,o,none⟩ = false:=by
 have : (w1.alloc (.cells C1 ty (n,n + 1))).heap[w1.heap.size]? = some (.cells C1 ty (n,n + 1)):=heap_alloc_last _ _
 simp only [World.frozen?,this]
 rw [decide_eq_false (show ¬ n ≤ o by omega)]
 rfl

theorem cell_alloc_frozen {w1 : World} {C1 : Array Value} {ty o : Nat} {fr : Nat × Nat} : (w1.alloc (.cells C1 ty fr)).cell? ⟨w1.heap.size,o,none⟩ = C1[o]?:=by
 have : (w1.alloc (.cells C1 ty fr)).heap[w1.heap.size]? = some (.cells C1 ty fr):=heap_alloc_last _ _
 simp only [World.cell?,this]
 rfl

theorem text_ok (hw : WRel C w0 E H w) (hfree : H.blk H.next = none) {s d e : TypeId} (hs : P.underlying s = some .string) (hd : P.underlying d = some (.slice e)) (he : P.underlying e = some (.int .u8)) {l : List Nat} {xv : Value} (hx : Rep C E (.str l) xv) :
  ∃ y E' w',(convert s d xv).run P w = .ok y w' ∧ E.le E' ∧ WRel C w0 E' (H.push (.row e 1 (l.map fun (c : Nat)=>[AV.int .u8 (c : Int)]) 0 0)) w' ∧ Rep C E' (.slice H.next 0 l.length l.length false 0) y:=by
 obtain ⟨t,rfl,hl⟩:=rep_str hx
 have hrun:=run_bytes_of_string (P:=P) w s d e t hs hd he
 generalize hcap : grownCap w t.size 0 e = cap at hrun
 have hge : t.size ≤ cap:=hcap ▸ grownCap_ge w t.size 0 e
 have hsz : t.size = l.length:=by rw [← hl];simp only [strOf,List.length_map,Array.length_toList];rfl
 have hrow : (bytesRow t cap).size = cap:=by simp [bytesRow];have : t.data.size = t.size:=rfl;omega
 rw [hrow] at hrun
 let els:=l.map fun (c : Nat)=>[AV.int .u8 (c : Int)]
 let L : Loc:=⟨w.heap.size,0,0,els.length,1,cap⟩
 have hel : els.length = l.length:=by simp [els]
 have hll : ∀ cs ∈ els,cs.length = 1:=fun cs hc=>by simp [els] at hc;obtain ⟨c,_,rfl⟩:=hc;rfl
 have hnew:=hw.newRow hfree (w':=w.drew.alloc (.cells (bytesRow t cap) e (cap,cap + 1))) ((Chg.drew w _).trans (Chg.alloc w.drew _ _)) e 1 els L rfl (by simp) rfl rfl rfl hll (by simp [L];omega)
  (fun o ho=>by
   simp only [L] at ho ⊢
   refine ⟨?_,frozen_alloc_past ho⟩
   rw [show w.heap.size = w.drew.heap.size from rfl,cell_alloc_frozen,Array.getElem?_eq_getElem (by rw [hrow];exact ho)];rfl)
  (fun i j cs c hi h3 h4=>by
   have hi' : i < l.length:=by have:=(List.getElem?_eq_some_iff.1 h3).1;omega
   obtain ⟨n,hn⟩ : ∃ n,l[i]? = some n:=⟨_,List.getElem?_eq_getElem hi'⟩
   have hcs : cs = [AV.int .u8 (n : Int)]:=by simp [els,hn] at h3;exact h3.symm
   subst hcs
   have hj : j = 0:=by have:=(List.getElem?_eq_some_iff.1 h4).1;simp at this;exact this
   subst hj
   simp at h4
   subst h4
   refine ⟨.int .u8 n,?_,.int _ _⟩
   simp only [L,Nat.zero_add,Nat.mul_one,Nat.sub_zero,Nat.add_zero]
   rw [show w.heap.size = w.drew.heap.size from rfl,cell_alloc_frozen]
   have hti : i < t.data.size:=by have : t.data.size = t.size:=rfl;omega
   rw [bytesRow,Array.getElem?_append_left (by simpa using hti),Array.getElem?_map,Array.getElem?_eq_getElem hti]
   simp only [Option.map_some,Option.some.injEq,Value.int.injEq,true_and]
   rw [← hl] at hn
   simp [strOf,Array.getElem?_eq_getElem hti] at hn
   rw [← hn])
 refine ⟨_,_,_,hrun,hnew.1,hnew.2,?_⟩
 rw [hsz]
 exact .slice _ 0 l.length l.length false 0 L _ cap (Emb.set_same _ _ _ _) (by simp [L]) (by simp [L,hel]) (Nat.le_refl _) (by omega) (by simp) (fun _=>by simp [L]) (by simp [L])

theorem textOp_ok (hw : WRel C w0 E H w) {s d : TypeId} {x r : AV} {xv : Value} {H' : Heap} (hfree : H.blk H.next = none ∨ H'.next = H.next) (ht : isTextT P s d = true) (h : evText P H d x = some (r,H')) (hx : Rep C E x xv) :
  ∃ y E' w',(convert s d xv).run P w = .ok y w' ∧ E.le E' ∧ WRel C w0 E' H' w' ∧ Rep C E' r y:=by
 unfold isTextT at ht
 split at ht
 ·rename_i e hs hd
  unfold evText at h
  split at h
  ·rename_i e2 l hd2
   split at h
   ·rename_i he
    cases h
    exact text_ok hw (hfree.resolve_right (by simp [Heap.push])) hs hd2 he hx
   ·cases h
  ·cases h
 ·cases ht
end
end Go.Ev
