import Derived.Test.YtjlmgabhhodhfaaGreatDoorEvNEvP
import Derived.Test.YtjlmgabhhodhfaaGreatDoorEvAEvB
import Derived.Calls
import Derived.Recover
import Derived.Scope
set_option linter.unusedVariables false
set_option linter.unusedSimpArgs false
namespace Go.Ev
section
variable {P : Program} {C : Mem} {w0 : World} {E : Emb} {H : Heap} {w : World}

def OpOk (P : Program) (C : Mem) (w0 : World) (E : Emb) (w : World) (s : Sem Next) (r : AV) (H' : Heap) : Prop:=
 ∃ nx E' w',s.run P w = .ok nx w' ∧ E.le E' ∧ WRel C w0 E' H' w' ∧ ((∃ v,nx = .value v ∧ Rep C E' r v) ∨ (nx = .skip ∧ r = .undef))

theorem OpOk.pure_val (hw : WRel C w0 E H w) {s : Sem Value} {r : AV} {z : Value} (h : s.run P w = .ok z w) (hr : Rep C E r z) : OpOk P C w0 E w (do pure (.value (← s))) r H:=
 ⟨.value z,E,w,by simp [h],Emb.le_refl _,hw,.inl ⟨z,rfl,hr⟩⟩

theorem OpOk.val {s : Sem Value} {r : AV} {H' : Heap} (h : ∃ z E' w',s.run P w = .ok z w' ∧ E.le E' ∧ WRel C w0 E' H' w' ∧ Rep C E' r z) : OpOk P C w0 E w (do pure (.value (← s))) r H':=by
 obtain ⟨z,E',w',h1,h2,h3,h4⟩:=h
 exact ⟨.value z,E',w',by simp [h1],h2,h3,.inl ⟨z,rfl,h4⟩⟩

theorem repL_map {ρ : Operand → AV} {ev : Operand → Value} (hρ : ∀ x,Rep C E (ρ x) (ev x)) : ∀ l : List Operand,RepL C E (l.map ρ) (l.map ev)
 | []=>.nil
 | x :: l=>.cons _ _ _ _ (hρ x) (repL_map hρ l)

theorem RepK.length {as : List (AV × AV × Nat)} {es : List MapEntry} (h : RepK C E as es) : es.length = as.length:=by
 induction h with
 | nil=>rfl
 | cons _ _ _ _ _ _ _ _ _ _ ih=>simp [ih]

theorem len_builtin (hw : WRel C w0 E H w) {ts : Array TypeId} {ty : TypeId} {a r : AV} {u : Value} {H' : Heap} (h : evBuiltin P H .len ts [a] = some (r,H')) (hu : Rep C E a u) :
  H' = H ∧ ∃ z,(Builtin.len_ ts ty #[u]).run P w = .ok z w ∧ Rep C E r z:=by
 simp only [evBuiltin] at h
 cases ht : ts[0]? with
 | none=>simp [ht] at h
 | some t=>
  simp only [ht,Option.bind_some] at h
  split at h
  ·rename_i s hs
   obtain ⟨s',rfl,rfl⟩:=rep_str hu
   cases h
   exact ⟨rfl,.int .i64 s'.size,by simp [Builtin.len_,ht,run_underlying hs,goInt],by rw [strOf_length];exact .int _ _⟩
  ·rename_i e hs
   cases hu;cases h
   exact ⟨rfl,_,by simp [Builtin.len_,ht,run_underlying hs,goInt],.int _ _⟩
  ·rename_i e hs
   cases hu;cases h
   exact ⟨rfl,_,by simp [Builtin.len_,ht,run_underlying hs,goInt],.int _ _⟩
  ·rename_i e b off n cap ex g hs
   cases hu;cases h
   exact ⟨rfl,_,by simp [Builtin.len_,ht,run_underlying hs,goInt],.int _ _⟩
  ·rename_i e sz es hs
   cases h
   cases hu with
   | lst _ _ blk co len rc ad hE h1 h2 h6=>
    subst h1
    exact ⟨rfl,_,by simp [Builtin.len_,ht,run_underlying hs,goInt],.int _ _⟩
  ·rename_i k e hs
   cases hu;cases h
   exact ⟨rfl,_,by simp [Builtin.len_,ht,run_underlying hs,goInt],.int _ _⟩
  ·rename_i k e b hs
   split at h
   ·rename_i es cl hb
    cases h
    obtain ⟨m,es',h1,h2,h3,h4⟩:=hw.map _ _ _ hb
    cases hu with
    | map _ m' hm=>
     rw [h1] at hm;cases hm
     have hl:=h4.length
     refine ⟨rfl,.int .i64 es'.size,?_,?_⟩
     ·simp [Builtin.len_,ht,run_underlying hs,goInt,getObj,Sem.run,h3]
     ·have : es'.size = es.length:=by simpa using hl
      rw [this];exact .int _ _
   ·cases h
  ·cases h

theorem append_builtin (hw : WRel C w0 E H w) {ts : Array TypeId} {ty : TypeId} {s x r : AV} {sv xv : Value} {H' : Heap} (hfree : H.blk H.next = none ∨ H'.next = H.next) (h : evBuiltin P H .append ts [s,x] = some (r,H')) (hs : Rep C E s sv) (hx : Rep C E x xv) :
  ∃ y E' w',(Builtin.append_ ts ty #[sv,xv]).run P w = .ok y w' ∧ E.le E' ∧ WRel C w0 E' H' w' ∧ Rep C E' r y:=by
 simp only [evBuiltin] at h
 split at h
 ·rename_i t u ht
  have hts' : ts = #[t,u]:=by apply Array.ext';simpa using ht
  subst hts'
  split at h
  ·rename_i e d he hd
   have hte:=elemOfSlice_eq he
   split at h
   ·cases h
   ·rename_i i hi hnd
    split at h
    ·rename_i z n hz hn
     split at h
     ·rename_i hzs
      cases hel : H.elems i.size n x with
      | none=>simp [hel] at h
      | some new=>
       simp only [hel,Option.bind_some] at h
       exact append1_ok (P:=P) hw hte hd (fun k hk=>by subst hk;exact hnd _ rfl) hi hz hzs.1 hfree hn hel h hs hx
     ·cases h
    ·cases h
   ·cases h
  ·cases h
 ·cases h

theorem builtin_ok (hw : WRel C w0 E H w) {b : Builtin} {ts : Array TypeId} {ty : TypeId} {consts : Array Bool} {as : List AV} {vs : List Value} {r : AV} {H' : Heap} (hr : RepL C E as vs) (hfree : H.blk H.next = none ∨ H'.next = H.next) (h : evBuiltin P H b ts as = some (r,H')) :
  OpOk P C w0 E w (builtin b ts ty consts vs.toArray) r H':=by
 unfold evBuiltin at h
 split at h
 ·cases hr with
  | cons _ u _ _ h1 h2=>
   cases h2
   obtain ⟨rfl,z,hz,hrep⟩:=len_builtin (P:=P) (ty:=ty) hw h h1
   exact OpOk.pure_val hw hz hrep
 ·cases hr with
  | cons _ u _ _ h1 h2=>
   cases h2 with
   | cons _ v _ _ h3 h4=>
    cases h4
    exact OpOk.val (append_builtin (P:=P) (ty:=ty) hw hfree h h1 h3)
 ·cases hr with
  | cons _ u _ _ h1 h2=>
   cases h2 with
   | cons _ v _ _ h3 h4=>
    cases h4
    obtain rfl:=rep_int h1
    obtain rfl:=rep_int h3
    split at h
    ·rename_i hk
     subst hk
     cases h
     exact OpOk.pure_val hw (by simp [Builtin.max_,Builtin.max2]) (.int _ _)
    ·cases h
 ·cases hr with
  | cons _ u _ _ h1 h2=>
   cases h2 with
   | cons _ v _ _ h3 h4=>
    cases h4
    obtain rfl:=rep_int h1
    obtain rfl:=rep_int h3
    split at h
    ·rename_i hk
     subst hk
     cases h
     exact OpOk.pure_val hw (by simp [Builtin.min_,Builtin.min2]) (.int _ _)
    ·cases h
 ·cases hr with
  | cons _ u _ _ h1 h2=>
   cases h2 with
   | cons _ v _ _ h3 h4=>
    cases h4
    exact OpOk.val (delete_ok (P:=P) (ty:=ty) hw h1 h3 h)
 ·cases hr with
  | cons _ u _ _ h1 h2=>
   cases h2
   exact OpOk.val (clear_ok (P:=P) (ty:=ty) hw h1 h)
 ·cases h

theorem rep_ptr {b i o g : Nat} {v : Value} (h : Rep C E (.ptr b i o g) v) : ∃ L off,v = .pointer (some ⟨L.blk,off,none⟩) ∧ E.loc b g = some L ∧ L.lo ≤ i ∧ i < L.ext ∧ off = L.co + (i - L.lo) * L.esz + o:=by
 cases h;exact ⟨_,_,rfl,by assumption,by assumption,by assumption,by assumption⟩
theorem rep_iptr {cs : List AV} {o : Nat} {v : Value} (h : Rep C E (.iptr cs o) v) : ∃ blk co off,v = .pointer (some ⟨blk,off,none⟩) ∧ RepM C E blk co cs ∧ off = co + o:=by
 cases h;exact ⟨_,_,_,rfl,by assumption,by assumption⟩

theorem buildSlice_next {t : TypeId} {len : Nat} {parts : List (Nat × AV)} {r : AV} {H' : Heap} (h : evBuildSlice P H t len parts = some (r,H')) : H'.next = H.next + 1:=by
 unfold evBuildSlice at h
 cases he : elemOfSlice P t with
 | none=>simp [he] at h
 | some e=>
  simp only [he,Option.bind_some] at h
  split at h
  ·split at h
   ·rename_i s z _ _ _
    cases hf : fillE s (List.replicate len z.cells) parts with
    | none=>simp [hf] at h
    | some els=>simp only [hf,Option.map_some,Option.some.injEq,Prod.mk.injEq] at h;rw [← h.2];rfl
   ·cases h
  ·cases h

theorem makeSlice_next {t : TypeId} {l c r : AV} {H' : Heap} (h : evMakeSlice P H t l c = some (r,H')) : H'.next = H.next + 1:=by
 unfold evMakeSlice at h
 cases he : elemOfSlice P t with
 | none=>simp [he] at h
 | some e=>
  simp only [he,Option.bind_some] at h
  split at h
  ·split at h
   ·cases h;rfl
   ·cases h
  ·cases h

theorem buildSlice_ok' (hw : WRel C w0 E H w) {t : TypeId} {len : Nat} {parts : List (Nat × AV)} {r : AV} {H' : Heap} (hfree : H.blk H.next = none ∨ H'.next = H.next) {pv : Array (Nat × Value)} (hp : RepP C E parts pv.toList) (h : evBuildSlice P H t len parts = some (r,H')) :
  ∃ z E' w',(Instr.buildSlice t len pv).run P w = .ok z w' ∧ E.le E' ∧ WRel C w0 E' H' w' ∧ Rep C E' r z:=
 buildSlice_ok hw (hfree.resolve_right (by rw [buildSlice_next h];omega)) hp h

theorem makeSlice_ok' (hw : WRel C w0 E H w) {t : TypeId} {l c r : AV} {H' : Heap} (hfree : H.blk H.next = none ∨ H'.next = H.next) {lv cv : Value} (hl : Rep C E l lv) (hc : Rep C E c cv) (h : evMakeSlice P H t l c = some (r,H')) :
  ∃ z E' w',(Instr.makeSlice t lv cv).run P w = .ok z w' ∧ E.le E' ∧ WRel C w0 E' H' w' ∧ Rep C E' r z:=
 makeSlice_ok hw (hfree.resolve_right (by rw [makeSlice_next h];omega)) hl hc h

theorem map_some_eq {α β : Type} {o : Option α} {f : α → β} {r : β} (h : o.map f = some r) : ∃ a,o = some a ∧ f a = r:=by
 cases o with
 | none=>cases h
 | some a=>exact ⟨a,rfl,by simpa using h⟩

set_option maxHeartbeats 4000000 in
theorem op_sound (hw : WRel C w0 E H w) {ρ : Operand → AV} {ev : Operand → Value} (hρ : ∀ x,Rep C E (ρ x) (ev x)) {o : Oper} {r : AV} {H' : Heap} (hfree : H.blk H.next = none ∨ H'.next = H.next) (h : evOp P ρ o H = some (r,H')) :
  OpOk P C w0 E w (execOp ev o) r H':=by
 obtain ⟨dst,op,type,pos,after,guard⟩:=o
 cases op <;> simp only [evOp] at h
 case move x=>cases h;exact ⟨.value (ev x),E,w,rfl,Emb.le_refl _,hw,.inl ⟨_,rfl,hρ x⟩⟩
 case assign x=>cases h;exact ⟨.value (ev x),E,w,rfl,Emb.le_refl _,hw,.inl ⟨_,rfl,hρ x⟩⟩
 case pick c a b=>
  split at h
  ·rename_i t ht
   cases h
   have hc:=hρ c
   rw [ht] at hc
   have hc':=rep_bool hc
   refine ⟨.value (if t then ev a else ev b),E,w,?_,Emb.le_refl _,hw,.inl ⟨_,rfl,?_⟩⟩
   ·simp [execOp,hc',asBool]
   ·cases t <;> simp [hρ]
  ·cases h
 case alloc t=>
  split at h
  ·rename_i z hz
   split at h
   ·cases h
   ·rename_i hun
    cases h
    have hfree : H.blk H.next = none:=hfree.resolve_right (by simp [Heap.push])
    obtain ⟨zv,hzr,hrep⟩:=run_zeroValue' (C:=C) (E:=E) w hz
    obtain ⟨E',ad,w',h1,h2,h3,h4⟩:=newVar_ok (P:=P) hw hfree (t:=t) (by simpa using hun) hrep
    exact OpOk.val ⟨_,E',w',by simp [Instr.alloc,hzr,h1],h2,h3,h4⟩
  ·cases h
 case box t x=>
  split at h
  ·cases h
  ·rename_i hun
   cases h
   have hfree : H.blk H.next = none:=hfree.resolve_right (by simp [Heap.push])
   obtain ⟨E',ad,w',h1,h2,h3,h4⟩:=newVar_ok (P:=P) hw hfree (t:=t) (by simpa using hun) (hρ x)
   exact OpOk.val ⟨_,E',w',by simp [Instr.box,h1],h2,h3,h4⟩
 case build t parts=>
  obtain ⟨a,ha,e⟩:=map_some_eq h
  cases e
  have hp:=repP_map hρ parts.toList
  obtain ⟨z,hz,hrep⟩:=build_ok (P:=P) (w:=w) (pv:=parts.map fun p=>(p.1,ev p.2)) (by simpa using hp) ha
  exact OpOk.pure_val hw hz hrep
 case buildSlice t len parts=>
  have hp:=repP_map hρ parts.toList
  exact OpOk.val (buildSlice_ok' (P:=P) hw hfree (pv:=parts.map fun p=>(p.1,ev p.2)) (by simpa using hp) h)
 case load t a=>
  split at h
  ·rename_i n hag hs
   obtain ⟨cs,hc,e⟩:=map_some_eq h
   cases e
   obtain ⟨z,hz,hrep⟩:=load_agg (P:=P) hw hag hs hc (hρ a)
   exact OpOk.pure_val hw hz hrep
  ·rename_i hag
   split at h
   ·rename_i v hv
    cases h
    obtain ⟨z,hz,hrep⟩:=load_one (P:=P) hw hag hv (hρ a)
    exact OpOk.pure_val hw hz hrep
   ·cases h
  ·cases h
 case store t a x=>
  split at h
  ·rename_i hc
   obtain ⟨h1,h2⟩:=hc
   obtain ⟨H2,hst,e⟩:=map_some_eq h
   cases e
   obtain ⟨w',g1,g2⟩:=store_ok (P:=P) hw h2 h1 hst (hρ a) (hρ x)
   exact ⟨.skip,E,w',by simp [execOp,g1],Emb.le_refl _,g2,.inr ⟨rfl,rfl⟩⟩
  ·cases h
 case binOp op t x y yt=>
  obtain ⟨a,ha,e⟩:=map_some_eq h
  cases e
  obtain ⟨z,g1,g2,g3⟩:=evBin_sound (P:=P) w ha (hρ x) (hρ y)
  exact OpOk.pure_val (s:=do eqGuard op t x y (ev x) (ev y);binOp op t (ev x) (ev y)) hw (by rw [Sem.run_bind,g1];exact g2) g3
 case unOp op t x=>
  obtain ⟨a,ha,e⟩:=map_some_eq h
  cases e
  obtain ⟨z,g1,g2⟩:=evUn_sound (P:=P) w ha (hρ x)
  exact OpOk.pure_val hw g1 g2
 case convert s d x=>
  split at h
  ·rename_i ht
   exact OpOk.val (textOp_ok (P:=P) hw hfree ht h (hρ x))
  ·split at h
   ·rename_i a ha
    cases h
    obtain ⟨z,g1,g2⟩:=evConvert_sound (P:=P) w ha (hρ x)
    exact OpOk.pure_val hw g1 g2
   ·obtain ⟨a,ha,e⟩:=map_some_eq h
    cases e
    obtain ⟨z,g1,g2⟩:=bytes_ok (P:=P) hw (hρ x) ha
    exact OpOk.pure_val hw g1 g2
 case makeMap t r=>
  cases r with
  | some x=>cases h
  | none=>
   cases h
   exact OpOk.val (makeMap_ok (P:=P) hw (hfree.resolve_right (by simp [Heap.push])))
 case lookup t x k ok=>
  obtain ⟨a,ha,e⟩:=map_some_eq h
  cases e
  obtain ⟨z,g1,g2⟩:=look_ok (P:=P) hw (hρ x) (hρ k) ha
  exact OpOk.pure_val hw g1 g2
 case mapUpdate t m k x=>
  obtain ⟨H2,ha,e⟩:=map_some_eq h
  cases e
  obtain ⟨w',g1,g2⟩:=mapUpd_ok (P:=P) hw (hρ m) (hρ k) (hρ x) ha
  exact ⟨.skip,E,w',by simp [execOp,g1],Emb.le_refl _,g2,.inr ⟨rfl,rfl⟩⟩
 case makeInterface t x=>
  split at h
  ·rename_i d hd
   split at h
   ·cases h
   ·rename_i hi
    cases h
    refine OpOk.pure_val (z:=.iface t (ev x)) hw ?_ (.iface t _ _ (hρ x))
    cases d <;> simp_all [Instr.makeInterface,run_underlying hd,isIfaceD]
  ·cases h
 case makeFunc fn first cap=>
  cases h
  refine OpOk.pure_val (z:=.func fn (first.map ev) (cap.map ev)) hw (by simp [Instr.makeFunc]) ?_
  have:=Rep.func (C:=C) (E:=E) fn _ _ _ _ (repL_map hρ first.toList) (repL_map hρ cap.toList)
  have he : ∀ l : Array Operand,(l.toList.map ev).toArray = l.map ev:=fun l=>by apply Array.ext';simp
  rw [he,he] at this
  exact this
 case makeSlice t l c=>exact OpOk.val (makeSlice_ok' (P:=P) hw hfree (hρ l) (hρ c) h)
 case slice t x lo hi mx=>
  split at h
  ·rename_i l hh m h1 h2 h3
   obtain ⟨a,ha,e⟩:=map_some_eq h
   cases e
   obtain ⟨z,g1,g2⟩:=slice_ok (P:=P) hw hρ h1 h2 h3 ha (hρ x)
   exact OpOk.pure_val hw g1 g2
  ·cases h
 case fieldAddr s x f=>
  split at h
  ·rename_i fd hfd
   have hx:=hρ x
   split at h
   ·rename_i n b i o g hn hxe
    rw [hxe] at hx
    split at h
    ·cases h
    ·rename_i h0
     cases h
     obtain ⟨L,off,he,hL,h1,h2,h3⟩:=rep_ptr hx
     exact OpOk.pure_val (z:=.pointer (some ⟨L.blk,off + fd.offset,none⟩)) hw (by rw [he];exact fieldAt_ok (P:=P) hfd hn h0 _ _) (.ptr _ _ _ _ L _ hL h1 h2 (by omega))
   ·rename_i n cs o hn hxe
    rw [hxe] at hx
    split at h
    ·cases h
    ·rename_i h0
     cases h
     obtain ⟨blk,co,off,he,hm,h3⟩:=rep_iptr hx
     exact OpOk.pure_val (z:=.pointer (some ⟨blk,off + fd.offset,none⟩)) hw (by rw [he];exact fieldAt_ok (P:=P) hfd hn h0 _ _) (.iptr _ _ _ co _ hm (by omega))
   ·cases h
  ·cases h
 case field s x f=>
  split at h
  ·rename_i fd cs hfd hxe
   obtain ⟨a,ha,e⟩:=map_some_eq h
   cases e
   have hx:=hρ x
   rw [hxe] at hx
   obtain ⟨vs,he,hvs⟩:=rep_agg hx
   obtain ⟨z,g1,g2⟩:=field_ok (P:=P) (w:=w) hfd hvs ha
   exact OpOk.pure_val hw (by rw [he];exact g1) g2
  ·cases h
 case indexAddr t x i=>
  obtain ⟨a,ha,e⟩:=map_some_eq h
  cases e
  obtain ⟨z,g1,g2⟩:=evIndexAddr_sound (P:=P) w hw ha (hρ x) (hρ i)
  exact OpOk.pure_val hw g1 g2
 case index t x i=>
  obtain ⟨a,ha,e⟩:=map_some_eq h
  cases e
  obtain ⟨z,g1,g2⟩:=evIndex_sound (P:=P) w ha (hρ x) (hρ i)
  exact OpOk.pure_val hw g1 g2
 case extract t i=>
  split at h
  ·rename_i vs hx
   obtain ⟨a,ha,e⟩:=map_some_eq h
   cases e
   have ht:=hρ t
   rw [hx] at ht
   obtain ⟨us,he,hus⟩:=rep_tuple ht
   obtain ⟨z,hz,hrep⟩:=hus.get i _ ha
   exact OpOk.pure_val hw (by simp [he,Instr.extract,hz]) hrep
  ·cases h
 case nilCheck x=>
  have hx:=hρ x
  split at h
  ·rename_i b i o g hxe
   rw [hxe] at hx
   cases h
   obtain ⟨a,ha⟩ : ∃ a,ev x = .pointer (some a):=by generalize ev x = u at hx;cases hx;exact ⟨_,rfl⟩
   exact ⟨.value (ev x),E,w,by simp [execOp,ha],Emb.le_refl _,hw,.inl ⟨_,rfl,hx⟩⟩
  ·rename_i cs o hxe
   rw [hxe] at hx
   cases h
   obtain ⟨a,ha⟩ : ∃ a,ev x = .pointer (some a):=by generalize ev x = u at hx;cases hx;exact ⟨_,rfl⟩
   exact ⟨.value (ev x),E,w,by simp [execOp,ha],Emb.le_refl _,hw,.inl ⟨_,rfl,hx⟩⟩
  ·cases h
 case call c=>
  obtain ⟨callee,args,argTypes⟩:=c
  cases callee with
  | builtin b=>
   simp only at h
   show OpOk P C w0 E w (builtin b argTypes type _ (args.map ev)) r H'
   exact builtin_ok (P:=P) (ty:=type) hw (vs:=(args.map ev).toList) (by simpa using repL_map hρ args.toList) hfree h
  | value f=>cases h
  | invoke r m=>cases h
 all_goals cases h
end
end Go.Ev
namespace Go.Ev
def spaceCells : List AV:=(List.range 256).map fun i=>AV.int .u8 (if i = 9 ∨ i = 10 ∨ i = 11 ∨ i = 12 ∨ i = 13 ∨ i = 32 then 1 else 0)
def globAV (g : Nat) : AV:=if g = 1 then .iptr spaceCells 0 else .undef
def GlOk (C : Mem) : Prop:=∀ (E : Emb) (g : Nat),Rep C E (globAV g) (.pointer (some ⟨g,0,none⟩))
end Go.Ev
set_option linter.unusedVariables false
set_option linter.unusedSimpArgs false
namespace Go.Ev

abbrev Env:=Nat → AV

def Env.put (env : Env) (d : Option Tmp) (v : AV) : Env:=
 match d with
 | some d=>fun t=>if t = d then v else env t
 | none=>env

def Env.at (env : Env) : Operand → AV
 | .tmp t=>env t
 | .const v=>avOf v
 | .global g=>globAV g
 | .func f=>.func (.func f) [] []

def Env.ofArgs (args : List AV) : Env:=fun t=>args.getD t .undef

inductive Ex where
 | normal
 | exit (id : Nat)
 | ret
 deriving DecidableEq

def Ex.out : Ex → Exit
 | .normal=>.normal
 | .exit id=>.exit id
 | .ret=>.ret

def wantedA (ops : Array Oper) (env : Env) (o : Oper) : Option Bool:=
 match o.guard with
 | none=>some true
 | some (j,want)=>
  match (ops[j]?).bind (·.dst) with
  | some d=>(match env d with | .bool b=>some (b == want) | .tuple []=>some false | _=>none)
  | none=>none

def dstOk (n : Nat) : Option Tmp → Bool
 | some d=>decide (d < n)
 | none=>true

def evResult (P : Program) (env : Env) (H : Heap) : ResultVar → Option AV
 | .tmp t=>some (env t)
 | .cell a t=>
  match aggOf P t,szOf P t with
  | some true,some n=>(H.load (env a) n).map .agg
  | some false,_=>(match H.load (env a) 1 with | some [v]=>some v | _=>none)
  | _,_=>none

def evResultsL (P : Program) (env : Env) (H : Heap) : List ResultVar → Option (List AV)
 | []=>some []
 | r :: rs=>match evResult P env H r,evResultsL P env H rs with
  | some v,some vs=>some (v :: vs)
  | _,_=>none

def evResults (P : Program) (rs : List ResultVar) (env : Env) (H : Heap) : Option AV:=
 match evResultsL P env H rs with
 | some [v]=>some v
 | some vs=>some (.tuple vs)
 | none=>none

noncomputable def flat : Code → List Code:=@Code.rec (fun _=>List Code) [.skip] (fun id ops d=>[.region id ops d]) (fun _ _ x y=>x ++ y) (fun c x y _ _=>[.cond c x y]) (fun id c _=>[.block id c]) (fun c _=>[.loop c]) (fun f ps a b _ _=>[.rangeFunc f ps a b]) (fun id=>[.exit id]) (fun c _=>[.scope c]) (fun l=>[.label l]) (fun l=>[.goto l]) [.ret] (fun w=>[.refuse w])

structure IsDefer (ops : Array Oper) (d : Tmp) (g : FuncId) (first cap : Array Operand) : Prop where
 two : ops.size = 2
 o1 : ∃ o,ops[0]? = some o ∧ o.guard = none ∧ o.dst = some d ∧ o.op = .makeFunc (.func g) first cap
 o2 : ∃ o ts,ops[1]? = some o ∧ o.guard = none ∧ o.dst = none ∧ o.op = .defer { callee:=.value (.tmp d),args:=#[],argTypes:=ts }
structure IsRecover (ops : Array Oper) (d e : Tmp) : Prop where
 two : ops.size = 2
 o1 : ∃ o ts,ops[0]? = some o ∧ o.guard = none ∧ o.dst = some d ∧ o.op = .call { callee:=.builtin .recover,args:=#[],argTypes:=ts }
 o2 : ∃ o,ops[1]? = some o ∧ o.guard = none ∧ o.dst = some e ∧ o.op = .assign (.tmp d)

mutual
inductive EvF (P : Program) : FuncId → List AV → Heap → AV → Heap → Prop
 | mk (f : FuncId) (fn : Func) (c : Code) (args : List AV) (H : Heap) (ex : Ex) (env : Env) (H' : Heap) (r : AV) (hf : P.funcs[f]? = some fn) (hn : (fn.name == "runtime.NumGoroutine") = false) (hb : fn.body = some c)
   (ha : args.length ≤ fn.ntmps) (h : EvC P fn.ntmps c (Env.ofArgs args) H ex env H') (he : ex = .normal ∨ ex = .ret) (hr : evResults P fn.results.toList env H' = some r) : EvF P f args H r H'
 | mkD (f : FuncId) (fn : Func) (c : Code) (l1 l2 : List Code) (id : Nat) (ops : Array Oper) (d : Tmp) (g : FuncId) (first cap : Array Operand) (args : List AV) (H : Heap) (env1 : Env) (H1 : Heap) (ex : Ex) (env2 : Env) (H2 H3 : Heap) (r : AV)
   (hf : P.funcs[f]? = some fn) (hn : (fn.name == "runtime.NumGoroutine") = false) (hb : fn.body = some c) (ha : args.length ≤ fn.ntmps) (hl : flat c = l1 ++ .region id ops false :: l2) (hd : IsDefer ops d g first cap) (hdn : dstOk fn.ntmps (some d) = true)
   (h1 : EvP P fn.ntmps l1 (Env.ofArgs args) H .normal env1 H1) (h2 : EvP P fn.ntmps l2 (env1.put (some d) (.func (.func g) (first.toList.map env1.at) (cap.toList.map env1.at))) H1 ex env2 H2) (he : ex = .normal ∨ ex = .ret)
   (h3 : EvD P g (first.toList.map env1.at ++ cap.toList.map env1.at) H2 H3) (hr : evResults P fn.results.toList env2 H3 = some r) : EvF P f args H r H3
inductive EvD (P : Program) : FuncId → List AV → Heap → Heap → Prop
 | mk (f : FuncId) (fn : Func) (c : Code) (id : Nat) (ops : Array Oper) (d e : Tmp) (l : List Code) (args : List AV) (H : Heap) (ex : Ex) (env : Env) (H' : Heap) (r : AV) (hf : P.funcs[f]? = some fn) (hn : (fn.name == "runtime.NumGoroutine") = false) (hb : fn.body = some c)
   (ha : args.length ≤ fn.ntmps) (hl : flat c = .region id ops false :: l) (hd : IsRecover ops d e) (hdn : dstOk fn.ntmps (some d) = true) (hen : dstOk fn.ntmps (some e) = true)
   (h : EvP P fn.ntmps l (((Env.ofArgs args).put (some d) .nilIface).put (some e) .nilIface) H ex env H') (he : ex = .normal ∨ ex = .ret) (hr : evResults P fn.results.toList env H' = some r) : EvD P f args H H'
inductive EvP (P : Program) : Nat → List Code → Env → Heap → Ex → Env → Heap → Prop
 | nil (n : Nat) (env : Env) (H : Heap) : EvP P n [] env H .normal env H
 | cons (n : Nat) (c : Code) (l : List Code) (env : Env) (H : Heap) (env1 : Env) (H1 : Heap) (ex : Ex) (env2 : Env) (H2 : Heap) (h : EvC P n c env H .normal env1 H1) (h' : EvP P n l env1 H1 ex env2 H2) : EvP P n (c :: l) env H ex env2 H2
 | out (n : Nat) (c : Code) (l : List Code) (env : Env) (H : Heap) (env1 : Env) (H1 : Heap) (ex : Ex) (h : EvC P n c env H ex env1 H1) (hx : ex ≠ .normal) : EvP P n (c :: l) env H ex env1 H1
inductive EvC (P : Program) : Nat → Code → Env → Heap → Ex → Env → Heap → Prop
 | skip (n : Nat) (env : Env) (H : Heap) : EvC P n .skip env H .normal env H
 | label (n l : Nat) (env : Env) (H : Heap) : EvC P n (.label l) env H .normal env H
 | region (n id : Nat) (ops : Array Oper) (env : Env) (H : Heap) (env' : Env) (H' : Heap) (h : EvS P n ops (List.range ops.size) env H env' H') : EvC P n (.region id ops false) env H .normal env' H'
 | draw (n id : Nat) (ops : Array Oper) (env : Env) (H : Heap) (env' : Env) (H' : Heap) (h : ∀ t,EvS P n ops (Region.linearise .any ops t) env H env' H') : EvC P n (.region id ops true) env H .normal env' H'
 | seq (n : Nat) (x y : Code) (env : Env) (H : Heap) (env1 : Env) (H1 : Heap) (ex : Ex) (env2 : Env) (H2 : Heap) (h : EvC P n x env H .normal env1 H1) (h' : EvC P n y env1 H1 ex env2 H2) : EvC P n (.seq x y) env H ex env2 H2
 | seqOut (n : Nat) (x y : Code) (env : Env) (H : Heap) (ex : Ex) (env1 : Env) (H1 : Heap) (h : EvC P n x env H ex env1 H1) (hx : ex ≠ .normal) : EvC P n (.seq x y) env H ex env1 H1
 | cond (n : Nat) (c : Operand) (x y : Code) (t : Bool) (env : Env) (H : Heap) (ex : Ex) (env1 : Env) (H1 : Heap) (hc : env.at c = .bool t) (h : EvC P n (if t then x else y) env H ex env1 H1) : EvC P n (.cond c x y) env H ex env1 H1
 | block (n id : Nat) (c : Code) (env : Env) (H : Heap) (ex : Ex) (env1 : Env) (H1 : Heap) (h : EvC P n c env H ex env1 H1) (hx : ex = .normal ∨ ex = .exit id) : EvC P n (.block id c) env H .normal env1 H1
 | blockOut (n id : Nat) (c : Code) (env : Env) (H : Heap) (ex : Ex) (env1 : Env) (H1 : Heap) (h : EvC P n c env H ex env1 H1) (hx : ex ≠ .normal ∧ ex ≠ .exit id) : EvC P n (.block id c) env H ex env1 H1
 | loop (n : Nat) (c : Code) (env : Env) (H : Heap) (ex : Ex) (env' : Env) (H' : Heap) (h : EvL P n c env H ex env' H') : EvC P n (.loop c) env H ex env' H'
 | exit (n id : Nat) (env : Env) (H : Heap) : EvC P n (.exit id) env H (.exit id) env H
 | ret (n : Nat) (env : Env) (H : Heap) : EvC P n .ret env H .ret env H
 | scope (n : Nat) (c : Code) (env : Env) (H : Heap) (ex : Ex) (env1 : Env) (H1 : Heap) (h : EvC P n c env H ex env1 H1) : EvC P n (.scope c) env H ex env1 H1
inductive EvL (P : Program) : Nat → Code → Env → Heap → Ex → Env → Heap → Prop
 | again (n : Nat) (c : Code) (env : Env) (H : Heap) (env1 : Env) (H1 : Heap) (ex : Ex) (env2 : Env) (H2 : Heap) (h : EvC P n c env H .normal env1 H1) (h' : EvL P n c env1 H1 ex env2 H2) : EvL P n c env H ex env2 H2
 | out (n : Nat) (c : Code) (env : Env) (H : Heap) (ex : Ex) (env1 : Env) (H1 : Heap) (h : EvC P n c env H ex env1 H1) (hx : ex ≠ .normal) : EvL P n c env H ex env1 H1
inductive EvS (P : Program) : Nat → Array Oper → List Nat → Env → Heap → Env → Heap → Prop
 | nil (n : Nat) (ops : Array Oper) (env : Env) (H : Heap) : EvS P n ops [] env H env H
 | skip (n : Nat) (ops : Array Oper) (i : Nat) (l : List Nat) (o : Oper) (env : Env) (H : Heap) (env' : Env) (H' : Heap) (ho : ops[i]? = some o) (hw : wantedA ops env o = some false) (hd : dstOk n o.dst = true)
   (h : EvS P n ops l (env.put o.dst (.tuple [])) H env' H') : EvS P n ops (i :: l) env H env' H'
 | op (n : Nat) (ops : Array Oper) (i : Nat) (l : List Nat) (o : Oper) (env : Env) (H : Heap) (r : AV) (H1 : Heap) (env' : Env) (H' : Heap) (ho : ops[i]? = some o) (hw : wantedA ops env o = some true) (hd : dstOk n o.dst = true)
   (hfree : H.blk H.next = none ∨ H1.next = H.next) (he : evOp P env.at o H = some (r,H1)) (h : EvS P n ops l (env.put o.dst r) H1 env' H') : EvS P n ops (i :: l) env H env' H'
 | hint (n : Nat) (ops : Array Oper) (l : List Nat) (m : Nat) (env : Env) (H : Heap) (env' : Env) (H' : Heap) (h : EvS P n ops l env ⟨H.blk,m⟩ env' H') : EvS P n ops l env H env' H'
 | call (n : Nat) (ops : Array Oper) (i : Nat) (l : List Nat) (o : Oper) (f : Operand) (args : Array Operand) (ts : Array TypeId) (g : FuncId) (first cap : List AV) (env : Env) (H : Heap) (r : AV) (H1 : Heap) (env' : Env) (H' : Heap)
   (ho : ops[i]? = some o) (hw : wantedA ops env o = some true) (hd : dstOk n o.dst = true) (hop : o.op = .call { callee:=.value f,args:=args,argTypes:=ts }) (hf : env.at f = .func (.func g) first cap)
   (hc : EvF P g (first ++ args.toList.map env.at ++ cap) H r H1) (h : EvS P n ops l (env.put o.dst r) H1 env' H') : EvS P n ops (i :: l) env H env' H'
end

section
variable {P : Program} {C : Mem} {w0 : World}

structure ERel (C : Mem) (E : Emb) (n : Nat) (env : Env) (a : Act) : Prop where
 size : a.tmps.size = n
 at_ : ∀ t,Rep C E (env t) (a.tmps.getD t undef)
 glob : GlOk C

theorem ERel.mono {E E' : Emb} {n : Nat} {env : Env} {a : Act} (h : ERel C E n env a) (hE : E.le E') : ERel C E' n env a:=⟨h.size,fun t=>(h.at_ t).mono (Mem.le_refl _) hE,h.glob⟩

theorem ERel.eval {E : Emb} {n : Nat} {env : Env} {a : Act} (h : ERel C E n env a) (x : Operand) : Rep C E (env.at x) (a.eval x):=by
 cases x with
 | tmp t=>exact h.at_ t
 | const v=>exact rep_avOf v
 | global g=>exact h.glob E g
 | func f=>exact .func _ _ _ _ _ .nil .nil

theorem ERel.put {E : Emb} {n : Nat} {env : Env} {a : Act} (h : ERel C E n env a) {d : Option Tmp} (hd : dstOk n d = true) {v : AV} {u : Value} (hv : Rep C E v u) : ERel C E n (env.put d v) (a.put d u):=by
 cases d with
 | none=>exact h
 | some d=>
  have hdn : d < n:=by simpa [dstOk] using hd
  refine ⟨by simp [Act.put,h.size],fun t=>?_,h.glob⟩
  simp only [Env.put,Act.put]
  by_cases ht : t = d
  ·subst ht
   rw [if_pos rfl]
   have : (a.tmps.setIfInBounds t u).getD t undef = u:=by
    rw [Array.getD_eq_getD_getElem?,Array.getElem?_setIfInBounds_self_of_lt (by rw [h.size];exact hdn)]
    rfl
   rw [this];exact hv
  ·rw [if_neg ht]
   have : (a.tmps.setIfInBounds d u).getD t undef = a.tmps.getD t undef:=by
    rw [Array.getD_eq_getD_getElem?,Array.getElem?_setIfInBounds_ne (Ne.symm ht),Array.getD_eq_getD_getElem?]
   rw [this];exact h.at_ t

theorem ERel.wanted {E : Emb} {n : Nat} {env : Env} {a : Act} (h : ERel C E n env a) {ops : Array Oper} {o : Oper} {b : Bool} (hw : wantedA ops env o = some b) : Region.wanted o (yielded ops a.tmps) = b:=by
 unfold wantedA at hw
 unfold Region.wanted
 split at hw
 ·rename_i hg;rw [hg];simpa using hw
 ·rename_i j want hg
  rw [hg]
  split at hw
  ·rename_i d hd
   split at hw
   ·rename_i t ht
    have:=h.at_ d
    rw [ht] at this
    have hb:=rep_bool this
    have hlt : d < a.tmps.size:=by
     apply Classical.byContradiction
     intro hn
     rw [Array.getD_eq_getD_getElem?,Array.getElem?_eq_none (Nat.le_of_not_lt hn)] at hb
     simp [undef] at hb
    have hg' : a.tmps[d]? = some (.bool t):=by
     rw [Array.getD_eq_getD_getElem?,Array.getElem?_eq_getElem hlt] at hb
     rw [Array.getElem?_eq_getElem hlt]
     simpa using hb
    simp only [yielded,hd,Option.bind_some,hg']
    cases hw
    cases t <;> cases want <;> rfl
   ·rename_i ht
    have:=h.at_ d
    rw [ht] at this
    have hv : a.tmps.getD d undef = .tuple #[]:=by
     generalize a.tmps.getD d undef = v at this
     cases this with
     | tuple cs vs hl=>cases hl;rfl
    have hy : yielded ops a.tmps j = none:=by
     simp only [yielded,hd,Option.bind_some]
     cases hg : a.tmps[d]? with
     | none=>rfl
     | some v=>
      rw [Array.getD_eq_getD_getElem?,hg] at hv
      simp only [Option.getD_some] at hv
      subst hv
      rfl
    cases hw
    simp only [hy]
    rfl
   ·cases hw
  ·cases hw

theorem ERel.enter (hgl : GlOk C) {E : Emb} {args : List AV} {vs : List Value} (h : RepL C E args vs) {n : Nat} (hn : args.length ≤ n) :
  ERel C E n (Env.ofArgs args) { tmps:=vs.toArray ++ Array.replicate (n - vs.toArray.size) undef,defers:=[] }:=by
 have hl:=h.length
 refine ⟨by simp;omega,fun t=>?_,hgl⟩
 simp only [Env.ofArgs]
 by_cases ht : t < args.length
 ·rw [List.getD_eq_getElem?_getD,List.getElem?_eq_getElem ht]
  obtain ⟨v,hv,hr⟩:=h.get t _ (List.getElem?_eq_getElem ht)
  have : (vs.toArray ++ Array.replicate (n - vs.toArray.size) undef).getD t undef = v:=by
   rw [Array.getD_eq_getD_getElem?,Array.getElem?_append_left (by simp;omega)]
   simp [hv]
  rw [this];exact hr
 ·rw [List.getD_eq_getElem?_getD,List.getElem?_eq_none (by omega)]
  exact .undef _

def resSem (a : Act) (rv : ResultVar) : Sem Value:=
 match rv with
 | .tmp t=>pure (a.tmps.getD t undef)
 | .cell ad t=>do loadVar t (← asAddr (a.tmps.getD ad undef))

theorem result_ok {E : Emb} {H : Heap} {w : World} (hw : WRel C w0 E H w) {n : Nat} {env : Env} {a : Act} (he : ERel C E n env a) {rv : ResultVar} {r : AV} (h : evResult P env H rv = some r) :
  ∃ v,(resSem a rv).run P w = .ok v w ∧ Rep C E r v:=by
 cases rv with
 | tmp t=>simp only [evResult,Option.some.injEq] at h;subst h;exact ⟨_,rfl,he.at_ t⟩
 | cell ad t=>
  simp only [evResult] at h
  have hx:=he.at_ ad
  split at h
  ·rename_i k hag hs
   obtain ⟨cs,hc,e⟩:=map_some_eq h
   cases e
   obtain ⟨q,vs,hq,hl,hr,hcell⟩:=load_cells hw hc hx
   refine ⟨.agg vs.toArray,?_,.agg _ _ hr⟩
   have:=run_loadCells' (P:=P) hcell (n:=k) (by rw [hr.length,hl])
   simp [resSem,hq,asAddr,loadVar,run_isAgg' w hag,run_sizeOf' w hs,this]
  ·rename_i hag
   split at h
   ·rename_i v hv
    cases h
    obtain ⟨q,vs,hq,hl,hr,hcell⟩:=load_cells hw hv hx
    cases hr with
    | cons _ u _ _ h1 h2=>
     refine ⟨u,?_,h1⟩
     have:=hcell 0 u rfl
     have h0 : q.add 0 = q:=by simp [Addr.add]
     rw [h0] at this
     simp [resSem,hq,asAddr,loadVar,run_isAgg' w hag,this]
   ·cases h
  ·cases h

theorem results_ok {E : Emb} {H : Heap} {w : World} (hw : WRel C w0 E H w) {n : Nat} {env : Env} {a : Act} (he : ERel C E n env a) {fn : Func} {r : AV} (h : evResults P fn.results.toList env H = some r) :
  ∃ v,(results fn a.tmps).run P w = .ok v w ∧ Rep C E r v:=by
 have key : ∀ (rs : List ResultVar) (as : List AV),evResultsL P env H rs = some as → ∃ vs,(rs.mapM (resSem a)).run P w = .ok vs w ∧ RepL C E as vs:=by
  intro rs
  induction rs with
  | nil=>intro as h;simp only [evResultsL,Option.some.injEq] at h;subst h;exact ⟨[],by simp,.nil⟩
  | cons rv rs ih=>
   intro as h
   simp only [evResultsL] at h
   split at h
   ·rename_i v vs h1 h2
    cases h
    obtain ⟨u,g1,g2⟩:=result_ok (P:=P) hw he h1
    obtain ⟨us,g3,g4⟩:=ih vs h2
    refine ⟨u :: us,?_,.cons _ _ _ _ g2 g4⟩
    rw [List.mapM_cons,Sem.run_bind,g1]
    simp only [Result.andThen_ok,Sem.run_bind,g3,Sem.run_pure]
   ·cases h
 unfold evResults at h
 split at h
 ·rename_i v hv
  cases h
  obtain ⟨vs,g1,g2⟩:=key _ _ hv
  cases g2 with
  | cons _ u _ _ h1 h2=>
   cases h2
   refine ⟨u,?_,h1⟩
   have e : results fn a.tmps = (do let vs ← fn.results.mapM (resSem a);pure (if h : vs.size = 1 then vs[0] else .tuple vs)):=rfl
   rw [e,Array.mapM_eq_mapM_toList]
   simp only [Sem.run_bind,Sem.run_map]
   rw [g1]
   simp
 ·rename_i vs hne hv
  cases h
  obtain ⟨us,g1,g2⟩:=key _ _ hv
  refine ⟨.tuple us.toArray,?_,.tuple _ _ g2⟩
  have e : results fn a.tmps = (do let vs ← fn.results.mapM (resSem a);pure (if h : vs.size = 1 then vs[0] else .tuple vs)):=rfl
  rw [e,Array.mapM_eq_mapM_toList]
  simp only [Sem.run_bind,Sem.run_map]
  rw [g1]
  have : us.length ≠ 1:=fun e=>by
   rw [g2.length] at e
   match vs,e with
   | [v],_=>exact hne v rfl
  simp [this]
 ·cases h

end
end Go.Ev
set_option linter.unusedVariables false
set_option linter.unusedSimpArgs false
namespace Go.Ev
open Go.RowKit
section
variable {P : Program} {C : Mem} {w0 : World}

theorem run_callFunc {g : FuncId} {fn : Func} {c : Code} (hf : P.funcs[g]? = some fn) (hn : (fn.name == "runtime.NumGoroutine") = false) (hb : fn.body = some c) (args : Array Value) (w : World) :
  (callFunc g args).run P w = .ok (.enter g args) w:=by
 simp [callFunc,program,Sem.run,hf,hb]
 simpa using hn

def FPost (C : Mem) (w0 : World) (E : Emb) (H' : Heap) (r : AV) (e : Ending) (w' : World) : Prop:=
 ∃ E' v,e = .returned v ∧ E.le E' ∧ WRel C w0 E' H' w' ∧ Rep C E' r v

def wpL (P : Program) : List Code → (Exit → Act → World → Prop) → Act → World → Prop
 | [],Q,a,w=>Q .normal a w
 | c :: l,Q,a,w=>c.wp P (Exit.then (wpL P l Q) Q) a w
theorem wpL_app : ∀ {l m : List Code} {Q : Exit → Act → World → Prop} {a : Act} {w : World},wpL P (l ++ m) Q a w → wpL P l (Exit.then (wpL P m Q) Q) a w
 | [],m,Q,a,w,h=>h
 | c :: l,m,Q,a,w,h=>by
  refine wp_mono (show c.wp P (Exit.then (wpL P (l ++ m) Q) Q) a w from h) fun e a' w' hq=>?_
  cases e with
  | normal=>exact wpL_app (l:=l) hq
  | _=>exact hq
theorem wpL_one {c : Code} {Q : Exit → Act → World → Prop} {a : Act} {w : World} (h : wpL P [c] Q a w) : c.wp P Q a w:=
 wp_mono (show c.wp P (Exit.then (wpL P [] Q) Q) a w from h) fun e a' w' hq=>by cases e <;> exact hq
theorem wp_flat : ∀ {c : Code} {Q : Exit → Act → World → Prop} {a : Act} {w : World},wpL P (flat c) Q a w → c.wp P Q a w:=by
 intro c
 induction c with
 | seq x y ihx ihy=>
  intro Q a w h
  have h : wpL P (flat x ++ flat y) Q a w:=h
  refine wp_seq (wp_mono (ihx (wpL_app h)) fun e a' w' hq=>?_)
  cases e with
  | normal=>exact ihy hq
  | _=>exact hq
 | _=>intro Q a w h;exact wpL_one h
def wpSL (P : Program) : List Code → (Exit → Act → List Frame → World → Prop) → Act → List Frame → World → Prop
 | [],Q,a,cs,w=>Q .normal a cs w
 | c :: l,Q,a,cs,w=>c.wpS P (Exit.thenS (wpSL P l Q) Q) a cs w
theorem wpS_mono {c : Code} {Q Q' : Exit → Act → List Frame → World → Prop} {a : Act} {cs : List Frame} {w : World} (h : c.wpS P Q a cs w) (hq : ∀ e a cs w,Q e a cs w → Q' e a cs w) : c.wpS P Q' a cs w:=
 fun b k hb hr=>let ⟨e,a',cs',w',q,r⟩:=h b k hb hr;⟨e,a',cs',w',hq _ _ _ _ q,r⟩
theorem wpSL_app : ∀ {l m : List Code} {Q : Exit → Act → List Frame → World → Prop} {a : Act} {cs : List Frame} {w : World},wpSL P (l ++ m) Q a cs w → wpSL P l (Exit.thenS (wpSL P m Q) Q) a cs w
 | [],m,Q,a,cs,w,h=>h
 | c :: l,m,Q,a,cs,w,h=>by
  refine wpS_mono (show c.wpS P (Exit.thenS (wpSL P (l ++ m) Q) Q) a cs w from h) fun e a' cs' w' hq=>?_
  cases e with
  | normal=>exact wpSL_app (l:=l) hq
  | _=>exact hq
theorem wpSL_one {c : Code} {Q : Exit → Act → List Frame → World → Prop} {a : Act} {cs : List Frame} {w : World} (h : wpSL P [c] Q a cs w) : c.wpS P Q a cs w:=
 wpS_mono (show c.wpS P (Exit.thenS (wpSL P [] Q) Q) a cs w from h) fun e a' cs' w' hq=>by cases e <;> exact hq
theorem wpS_flat : ∀ {c : Code} {Q : Exit → Act → List Frame → World → Prop} {a : Act} {cs : List Frame} {w : World},wpSL P (flat c) Q a cs w → c.wpS P Q a cs w:=by
 intro c
 induction c with
 | seq x y ihx ihy=>
  intro Q a cs w h
  have h : wpSL P (flat x ++ flat y) Q a cs w:=h
  refine wpS_seq (wpS_mono (ihx (wpSL_app h)) fun e a' cs' w' hq=>?_)
  cases e with
  | normal=>exact ihy hq
  | _=>exact hq
 | _=>intro Q a cs w h;exact wpSL_one h

theorem wanted_plain {ops : Array Oper} {o : Oper} {tmps : Array Value} (h : o.guard = none) : Region.wanted o (yielded ops tmps) = true:=by
 unfold Region.wanted;rw [h]

theorem wpL_of_app {l m : List Code} {Q : Exit → Act → World → Prop} {a : Act} {w : World} (h : wpL P l (Exit.then (wpL P m Q) Q) a w) : wpL P (l ++ m) Q a w:=by
 induction l generalizing a w with
 | nil=>exact h
 | cons c l ih=>
  refine wp_mono (show c.wp P (Exit.then (wpL P l (Exit.then (wpL P m Q) Q)) (Exit.then (wpL P m Q) Q)) a w from h) fun e a' w' hq=>?_
  cases e with
  | normal=>exact ih hq
  | _=>exact hq
def DPost (C : Mem) (w0 : World) (E : Emb) (H' : Heap) (e : Ending) (u : FrameMode) (w' : World) : Prop:=
 (∃ v,e = .returned v) ∧ u = .returning ∧ ∃ E',E.le E' ∧ WRel C w0 E' H' w'

mutual
theorem EvF.sound (hm : P.follows .mixedOrders = true) (hgl : GlOk C) : ∀ {f : FuncId} {args : List AV} {H : Heap} {r : AV} {H' : Heap},EvF P f args H r H' →
  (∃ fn c,P.funcs[f]? = some fn ∧ (fn.name == "runtime.NumGoroutine") = false ∧ fn.body = some c) ∧
  ∀ {E : Emb} {w : World} {vs : List Value},WRel C w0 E H w → RepL C E args vs → Calls P f vs.toArray w (FPost C w0 E H' r)
 | _,_,_,_,_,.mk f fn c args H ex env H' r hf hn hb ha h he hr=>by
  refine ⟨⟨fn,c,hf,hn,hb⟩,fun {E w vs} hw hv=>calls_of_wp hf hb (EvC.sound hm hgl h hw (ERel.enter hgl hv ha) (fun E' a' w' hE hw' her hd=>?_))⟩
  obtain ⟨v,h1,h2⟩:=results_ok (P:=P) hw' her hr
  clear h
  rcases he with e | e
  ·rw [e];exact ⟨hd,v,h1,E',v,rfl,hE,hw',h2⟩
  ·rw [e];exact ⟨hd,v,h1,E',v,rfl,hE,hw',h2⟩
 | _,_,_,_,_,.mkD f fn c l1 l2 id ops d g first cap args H env1 H1 ex env2 H2 H3 r hf hn hb ha hl hd hdn h1 h2 he h3 hr=>by
  refine ⟨⟨fn,c,hf,hn,hb⟩,fun {E w vs} hw hv=>calls_of_wp_defers hf hb (wp_flat ?_)⟩
  rw [hl]
  have hP2:=fun {E w a Q}=>EvP.sound (E:=E) (w:=w) (a:=a) (Q:=Q) hm hgl h2
  have hD:=EvD.sound hm hgl h3
  refine wpL_of_app (EvP.sound hm hgl h1 hw (ERel.enter hgl hv ha) (fun E1 a1 w1 hE1 hw1 her1 hd1=>?_))
  clear h1 h2 h3
  obtain ⟨o1,ho1,hg1,hds1,hop1⟩:=hd.o1
  obtain ⟨o2,ts,ho2,hg2,hds2,hop2⟩:=hd.o2
  have hvs : RepL C E1 (first.toList.map env1.at) (first.toList.map a1.eval):=repL_map (fun x=>her1.eval x) _
  have hus : RepL C E1 (cap.toList.map env1.at) (cap.toList.map a1.eval):=repL_map (fun x=>her1.eval x) _
  have hr1 : (execOp a1.eval o1).run P w1 = .ok (.value (.func (.func g) (first.map a1.eval) (cap.map a1.eval))) w1:=by
   simp [execOp,hop1,Instr.makeFunc]
  have hfv : Rep C E1 (.func (.func g) (first.toList.map env1.at) (cap.toList.map env1.at)) (.func (.func g) (first.map a1.eval) (cap.map a1.eval)):=by
   have:=Rep.func (C:=C) (E:=E1) (.func g) _ _ _ _ hvs hus
   have e1 : (first.toList.map a1.eval).toArray = first.map a1.eval:=by apply Array.ext';simp
   have e2 : (cap.toList.map a1.eval).toArray = cap.map a1.eval:=by apply Array.ext';simp
   rw [e1,e2] at this
   exact this
  have her2:=her1.put hdn hfv
  have hr2 : (execOp (a1.put (some d) (.func (.func g) (first.map a1.eval) (cap.map a1.eval))).eval o2).run P w1 = .ok (.defer { target:=.fn (.func g) (cap.map a1.eval),args:=first.map a1.eval }) w1:=by
   have hx:=her2.eval (.tmp d)
   have hv : (a1.put (some d) (.func (.func g) (first.map a1.eval) (cap.map a1.eval))).eval (.tmp d) = .func (.func g) (first.map a1.eval) (cap.map a1.eval):=by
    have hdl : d < fn.ntmps:=by simpa [dstOk] using hdn
    have hsz:=her1.size
    simp only [Act.put,Act.eval]
    rw [Array.getD_eq_getD_getElem?,Array.getElem?_setIfInBounds_self_of_lt (by rw [hsz];exact hdl)]
    rfl
   simp [execOp,hop2,resolve,hv,Deferred.ofValue]
  show (Code.region id ops false).wp P _ a1 w1
  refine wp_region ?_
  rw [hd.two,show List.range 2 = [0,1] from rfl]
  simp only [wpOps,ho1,ho2,wanted_plain hg1,wanted_plain hg2,if_true]
  left
  unfold Oper.wp
  rw [hr1,Oper.upon_value,hds1]
  left
  rw [hr2,Oper.upon_defer,hds2]
  show wpL P l2 _ _ w1
  refine hP2 hw1 (a:={ (a1.put (some d) (.func (.func g) (first.map a1.eval) (cap.map a1.eval))) with defers:=_ }) ⟨her2.size,her2.at_,her2.glob⟩ (fun E2 a2 w2 hE2 hw2 her3 hd2=>?_)
  have hfin : Leaves P fn a2.tmps (FPost C w0 E H3 r) a2.defers .returning w2:=by
   rw [hd2]
   have hd10 : a1.defers = []:=hd1
   show Leaves P fn a2.tmps (FPost C w0 E H3 r) ({ target:=.fn (.func g) (cap.map a1.eval),args:=first.map a1.eval } :: a1.defers) .returning w2
   rw [hd10]
   obtain ⟨⟨fn',c',hg',hn',hb'⟩,hcall⟩:=hD
   refine leaves_cons (by simp) (f:=g) (args:=(first.toList.map a1.eval ++ cap.toList.map a1.eval).toArray) ?_ ?_
   ·have e1 : (first.toList.map a1.eval ++ cap.toList.map a1.eval).toArray = first.map a1.eval ++ cap.map a1.eval:=by apply Array.ext';simp
    rw [e1]
    simp only [invoke]
    exact run_callFunc hg' hn' hb' _ w2
   ·refine (hcall hw2 (repL_append (RepL.mono (Mem.le_refl _) hE2 hvs) (RepL.mono (Mem.le_refl _) hE2 hus))).mono fun e u' w' hp=>?_
    obtain ⟨⟨v,rfl⟩,rfl,E3,hE3,hw3⟩:=hp
    obtain ⟨v',q1,q2⟩:=results_ok (P:=P) hw3 (her3.mono hE3) hr
    exact ⟨v',q1,E3,v',rfl,Emb.le_trans hE1 (Emb.le_trans hE2 hE3),hw3,q2⟩
  rcases he with e | e
  ·rw [e];exact hfin
  ·rw [e];exact hfin
theorem EvD.sound (hm : P.follows .mixedOrders = true) (hgl : GlOk C) : ∀ {f : FuncId} {args : List AV} {H : Heap} {H' : Heap},EvD P f args H H' →
  (∃ fn c,P.funcs[f]? = some fn ∧ (fn.name == "runtime.NumGoroutine") = false ∧ fn.body = some c) ∧
  ∀ {E : Emb} {w : World} {vs : List Value},WRel C w0 E H w → RepL C E args vs → CallsD P f vs.toArray .returning w (DPost C w0 E H')
 | _,_,_,_,.mk f fn c id ops d e l args H ex env H' r hf hn hb ha hl hd hdn hen h he hr=>by
  refine ⟨⟨fn,c,hf,hn,hb⟩,fun {E w vs} hw hv=>callsD_of_wpS hf hb (fun c₀ cs hu=>wpS_flat ?_)⟩
  rw [hl]
  have hP:=fun {E w a Q cs}=>EvP.soundS (E:=E) (w:=w) (a:=a) (Q:=Q) (cs:=cs) hm hgl h
  clear h
  obtain ⟨o1,ts,ho1,hg1,hds1,hop1⟩:=hd.o1
  obtain ⟨o2,ho2,hg2,hds2,hop2⟩:=hd.o2
  have her:=ERel.enter hgl hv ha
  have her1:=her.put hdn (v:=.nilIface) (u:=.nilIface) .nilIface
  have her2:=her1.put hen (v:=.nilIface) (u:=.nilIface) .nilIface
  show (Code.region id ops false).wpS P _ _ _ w
  refine wpS_region ?_
  rw [hd.two,show List.range 2 = [0,1] from rfl]
  have hr1 : ∀ a : Act,(execOp a.eval o1).run P w = .ok .recover w:=fun a=>by
   simp [execOp,hop1,resolve,invoke,builtin]
  have hrc : recoverD (c₀ :: cs) = none:=by
   simp only [recoverD,hu]
  simp only [wpOpsS,ho1,ho2,wanted_plain hg1,wanted_plain hg2,if_true,hr1,hrc,hds1]
  have hv2 : ∀ a : Act,ERel C E fn.ntmps ((Env.ofArgs args).put (some d) .nilIface) a → (execOp a.eval o2).run P w = .ok (.value .nilIface) w:=fun a ha=>by
   have hx:=ha.eval (.tmp d)
   have e1 : ((Env.ofArgs args).put (some d) .nilIface).at (.tmp d) = .nilIface:=by simp [Env.at,Env.put]
   rw [e1] at hx
   have e2 : a.eval (.tmp d) = .nilIface:=by
    generalize a.eval (.tmp d) = u at hx
    cases hx;rfl
   simp [execOp,hop2,e2]
  rw [hv2 _ her1]
  show wpSL P l _ _ _ w
  refine hP hw (by rw [hds2];exact her2) (fun E2 a2 w2 hE2 hw2 her3 hd2=>?_)
  obtain ⟨v,q1,q2⟩:=results_ok (P:=P) hw2 her3 hr
  have hc : c₀ = { c₀ with mode:=.returning }:=by rw [← hu]
  have hfin : a2.defers = [] ∧ ∃ u',(c₀ :: cs) = { c₀ with mode:=u' } :: cs ∧ ∃ v,(results fn a2.tmps).run P w2 = .ok v w2 ∧ DPost C w0 E H' (.returned v) u' w2:=
   ⟨hd2.trans (by rw [hds2];rfl),.returning,by rw [← hc],v,q1,⟨v,rfl⟩,rfl,E2,hE2,hw2⟩
  rcases he with e | e
  ·rw [e];exact hfin
  ·rw [e];exact hfin
theorem EvP.sound (hm : P.follows .mixedOrders = true) (hgl : GlOk C) : ∀ {n : Nat} {l : List Code} {env : Env} {H : Heap} {ex : Ex} {env' : Env} {H' : Heap},EvP P n l env H ex env' H' → ∀ {E : Emb} {w : World} {a : Act} {Q : Exit → Act → World → Prop},WRel C w0 E H w → ERel C E n env a →
  (∀ E' a' w',E.le E' → WRel C w0 E' H' w' → ERel C E' n env' a' → a'.defers = a.defers → Q ex.out a' w') → wpL P l Q a w
 | _,_,_,_,_,_,_,.nil n env H,E,w,a,Q,hw,he,hQ=>hQ E a w (Emb.le_refl _) hw he rfl
 | _,_,_,_,_,_,_,.cons n c l env H env1 H1 ex env2 H2 h h',E,w,a,Q,hw,he,hQ=>EvC.sound (Q:=Exit.then (wpL P l Q) Q) hm hgl h hw he (fun E1 a1 w1 hE hw1 he1 hd=>by
   show wpL P l Q a1 w1
   exact EvP.sound hm hgl h' hw1 he1 (fun E2 a2 w2 hE2 hw2 he2 hd2=>hQ E2 a2 w2 (Emb.le_trans hE hE2) hw2 he2 (hd2.trans hd)))
 | _,_,_,_,_,_,_,.out n c l env H env1 H1 ex h hx,E,w,a,Q,hw,he,hQ=>EvC.sound (Q:=Exit.then (wpL P l Q) Q) hm hgl h hw he (fun E1 a1 w1 hE hw1 he1 hd=>by
   have:=hQ E1 a1 w1 hE hw1 he1 hd
   clear h
   cases ex with
   | normal=>exact absurd rfl hx
   | exit id=>exact this
   | ret=>exact this)
theorem EvP.soundS (hm : P.follows .mixedOrders = true) (hgl : GlOk C) : ∀ {n : Nat} {l : List Code} {env : Env} {H : Heap} {ex : Ex} {env' : Env} {H' : Heap},EvP P n l env H ex env' H' → ∀ {E : Emb} {w : World} {a : Act} {cs : List Frame} {Q : Exit → Act → List Frame → World → Prop},WRel C w0 E H w → ERel C E n env a →
  (∀ E' a' w',E.le E' → WRel C w0 E' H' w' → ERel C E' n env' a' → a'.defers = a.defers → Q ex.out a' cs w') → wpSL P l Q a cs w
 | _,_,_,_,_,_,_,.nil n env H,E,w,a,cs,Q,hw,he,hQ=>hQ E a w (Emb.le_refl _) hw he rfl
 | _,_,_,_,_,_,_,.cons n c l env H env1 H1 ex env2 H2 h h',E,w,a,cs,Q,hw,he,hQ=>wpS_of_wp (EvC.sound (Q:=fun e a' w'=>Exit.thenS (wpSL P l Q) Q e a' cs w') hm hgl h hw he (fun E1 a1 w1 hE hw1 he1 hd=>by
   show wpSL P l Q a1 cs w1
   exact EvP.soundS hm hgl h' hw1 he1 (fun E2 a2 w2 hE2 hw2 he2 hd2=>hQ E2 a2 w2 (Emb.le_trans hE hE2) hw2 he2 (hd2.trans hd))))
 | _,_,_,_,_,_,_,.out n c l env H env1 H1 ex h hx,E,w,a,cs,Q,hw,he,hQ=>wpS_of_wp (EvC.sound (Q:=fun e a' w'=>Exit.thenS (wpSL P l Q) Q e a' cs w') hm hgl h hw he (fun E1 a1 w1 hE hw1 he1 hd=>by
   have:=hQ E1 a1 w1 hE hw1 he1 hd
   clear h
   cases ex with
   | normal=>exact absurd rfl hx
   | exit id=>exact this
   | ret=>exact this))
theorem EvC.sound (hm : P.follows .mixedOrders = true) (hgl : GlOk C) : ∀ {n : Nat} {c : Code} {env : Env} {H : Heap} {ex : Ex} {env' : Env} {H' : Heap},EvC P n c env H ex env' H' → ∀ {E : Emb} {w : World} {a : Act} {Q : Exit → Act → World → Prop},WRel C w0 E H w → ERel C E n env a →
  (∀ E' a' w',E.le E' → WRel C w0 E' H' w' → ERel C E' n env' a' → a'.defers = a.defers → Q ex.out a' w') → c.wp P Q a w
 | _,_,_,_,_,_,_,.skip n env H,E,w,a,Q,hw,he,hQ=>wp_skip (hQ E a w (Emb.le_refl _) hw he rfl)
 | _,_,_,_,_,_,_,.label n l env H,E,w,a,Q,hw,he,hQ=>wp_label (hQ E a w (Emb.le_refl _) hw he rfl)
 | _,_,_,_,_,_,_,.region n id ops env H env' H' h,E,w,a,Q,hw,he,hQ=>wp_region (EvS.sound hm hgl h hw he hQ)
 | _,_,_,_,_,_,_,.draw n id ops env H env' H' h,E,w,a,Q,hw,he,hQ=>wp_region_draw fun t=>by
   simp only [Region.schedule,hm,Bool.true_or,if_true]
   exact EvS.sound hm hgl (h t) (hw.chg (Chg.drew w (fun _ _=>False)) (fun _ _ hf=>hf)) he hQ
 | _,_,_,_,_,_,_,.seq n x y env H env1 H1 ex env2 H2 h h',E,w,a,Q,hw,he,hQ=>wp_seq (EvC.sound hm hgl h hw he (fun E1 a1 w1 hE hw1 he1 hd=>by
   show y.wp P Q a1 w1
   exact EvC.sound hm hgl h' hw1 he1 (fun E2 a2 w2 hE2 hw2 he2 hd2=>hQ E2 a2 w2 (Emb.le_trans hE hE2) hw2 he2 (hd2.trans hd))))
 | _,_,_,_,_,_,_,.seqOut n x y env H ex env1 H1 h hx,E,w,a,Q,hw,he,hQ=>wp_seq (EvC.sound hm hgl h hw he (fun E1 a1 w1 hE hw1 he1 hd=>by
   have:=hQ E1 a1 w1 hE hw1 he1 hd
   clear h
   cases ex with
   | normal=>exact absurd rfl hx
   | exit id=>exact this
   | ret=>exact this))
 | _,_,_,_,_,_,_,.cond n c x y t env H ex env1 H1 hc h,E,w,a,Q,hw,he,hQ=>by
   have hx:=he.eval c
   rw [hc] at hx
   exact wp_cond (rep_bool hx) (EvC.sound hm hgl h hw he hQ)
 | _,_,_,_,_,_,_,.block n id c env H ex env1 H1 h hx,E,w,a,Q,hw,he,hQ=>wp_block (EvC.sound hm hgl h hw he (fun E1 a1 w1 hE hw1 he1 hd=>by
   clear h
   rcases hx with e | e
   ·rw [e];exact hQ E1 a1 w1 hE hw1 he1 hd
   ·rw [e];simp only [Ex.out,Exit.inBlock,if_true];exact hQ E1 a1 w1 hE hw1 he1 hd))
 | _,_,_,_,_,_,_,.blockOut n id c env H ex env1 H1 h hx,E,w,a,Q,hw,he,hQ=>wp_block (EvC.sound hm hgl h hw he (fun E1 a1 w1 hE hw1 he1 hd=>by
   have:=hQ E1 a1 w1 hE hw1 he1 hd
   clear h
   cases ex with
   | normal=>exact absurd rfl hx.1
   | exit id'=>
    have hne : id' ≠ id:=fun e=>hx.2 (by rw [e])
    simp only [Ex.out,Exit.inBlock,if_neg hne];exact this
   | ret=>exact this))
 | _,_,_,_,_,_,_,.loop n c env H ex env' H' h,E,w,a,Q,hw,he,hQ=>by
   intro b k cs
   obtain ⟨e,a',w',q,r⟩:=EvL.sound hm hgl h hw he hQ b k cs
   exact ⟨e,a',w',q,.of_steps (.one step_loop) r⟩
 | _,_,_,_,_,_,_,.exit n id env H,E,w,a,Q,hw,he,hQ=>wp_exit (hQ E a w (Emb.le_refl _) hw he rfl)
 | _,_,_,_,_,_,_,.ret n env H,E,w,a,Q,hw,he,hQ=>wp_ret (hQ E a w (Emb.le_refl _) hw he rfl)
 | _,_,_,_,_,_,_,.scope n c env H ex env1 H1 h,E,w,a,Q,hw,he,hQ=>wp_scope_straight (EvC.sound hm hgl h hw he (fun E1 a1 w1 hE hw1 he1 hd=>by
   have:=hQ E1 a1 w1 hE hw1 he1 hd
   clear h
   cases ex <;> exact this))
theorem EvL.sound (hm : P.follows .mixedOrders = true) (hgl : GlOk C) : ∀ {n : Nat} {c : Code} {env : Env} {H : Heap} {ex : Ex} {env' : Env} {H' : Heap},EvL P n c env H ex env' H' → ∀ {E : Emb} {w : World} {a : Act} {Q : Exit → Act → World → Prop},WRel C w0 E H w → ERel C E n env a →
  (∀ E' a' w',E.le E' → WRel C w0 E' H' w' → ERel C E' n env' a' → a'.defers = a.defers → Q ex.out a' w') →
  ∀ (b : Frame) (k : List Item) (cs : List Frame),∃ e a' w',Q e a' w' ∧ Arrives P (lone (b.at a (.code c :: .inLoop c :: k)) cs w) b k cs e a' w'
 | _,_,_,_,_,_,_,.again n c env H env1 H1 ex env2 H2 h h',E,w,a,Q,hw,he,hQ=>by
   intro b k cs
   obtain ⟨e1,a1,w1,q1,r1⟩:=EvC.sound (Q:=fun e a' w'=>e = .normal ∧ ∃ E1,E.le E1 ∧ WRel C w0 E1 H1 w' ∧ ERel C E1 n env1 a' ∧ a'.defers = a.defers) hm hgl h hw he
    (fun E1 a1 w1 hE hw1 he1 hd=>⟨rfl,E1,hE,hw1,he1,hd⟩) b (.inLoop c :: k) cs
   obtain ⟨e,E1,hE,hw1,he1,hd⟩:=q1
   rw [e] at r1
   obtain ⟨e2,a2,w2,q2,r2⟩:=EvL.sound hm hgl h' hw1 he1 (fun E2 a2 w2 hE2 hw2 he2 hd2=>hQ E2 a2 w2 (Emb.le_trans hE hE2) hw2 he2 (hd2.trans hd)) b k cs
   exact ⟨e2,a2,w2,q2,.of_steps (Steps.trans r1 (.one step_inLoop)) r2⟩
 | _,_,_,_,_,_,_,.out n c env H ex env1 H1 h hx,E,w,a,Q,hw,he,hQ=>by
   intro b k cs
   obtain ⟨e1,a1,w1,q1,r1⟩:=EvC.sound (Q:=fun e a' w'=>e = ex.out ∧ Q e a' w') hm hgl h hw he (fun E1 a1 w1 hE hw1 he1 hd=>⟨rfl,hQ E1 a1 w1 hE hw1 he1 hd⟩) b (.inLoop c :: k) cs
   obtain ⟨e,q1⟩:=q1
   exact ⟨_,a1,w1,q1,.pass (x:=.inLoop c) rfl (fun _ _=>.inl (by rw [e];clear h;cases ex <;> simp_all [Ex.out])) r1⟩
theorem EvS.sound (hm : P.follows .mixedOrders = true) (hgl : GlOk C) : ∀ {n : Nat} {ops : Array Oper} {l : List Nat} {env : Env} {H : Heap} {env' : Env} {H' : Heap},EvS P n ops l env H env' H' → ∀ {E : Emb} {w : World} {a : Act} {Q : Exit → Act → World → Prop},WRel C w0 E H w → ERel C E n env a →
  (∀ E' a' w',E.le E' → WRel C w0 E' H' w' → ERel C E' n env' a' → a'.defers = a.defers → Q .normal a' w') → wpOps P ops Q l a w
 | _,_,_,_,_,_,_,.nil n ops env H,E,w,a,Q,hw,he,hQ=>hQ E a w (Emb.le_refl _) hw he rfl
 | _,_,_,_,_,_,_,.skip n ops i l o env H env' H' ho hwt hd h,E,w,a,Q,hw,he,hQ=>by
   simp only [wpOps,ho,he.wanted hwt,Bool.false_eq_true,if_false]
   exact EvS.sound hm hgl h hw (he.put hd (.tuple [] [] .nil)) (fun E' a' w' hE hw' he' hd'=>hQ E' a' w' hE hw' he' (by rw [hd'];cases o.dst <;> rfl))
 | _,_,_,_,_,_,_,.op n ops i l o env H r H1 env' H' ho hwt hd hfree hev h,E,w,a,Q,hw,he,hQ=>by
   simp only [wpOps,ho,he.wanted hwt,if_true]
   left
   obtain ⟨nx,E1,w1,hrun,hE1,hw1,hres⟩:=op_sound (P:=P) hw (fun x=>he.eval x) hfree hev
   unfold Oper.wp
   rw [hrun]
   rcases hres with ⟨v,e,hr⟩ | ⟨e,hr⟩
   ·rw [e]
    show wpOps P ops Q l (a.put o.dst v) w1
    exact EvS.sound hm hgl h hw1 ((he.mono hE1).put hd hr) (fun E' a' w' hE hw' he' hd'=>hQ E' a' w' (Emb.le_trans hE1 hE) hw' he' (by rw [hd'];cases o.dst <;> rfl))
   ·rw [e]
    show wpOps P ops Q l (a.put o.dst undef) w1
    exact EvS.sound hm hgl h hw1 ((he.mono hE1).put hd (hr ▸ .undef _)) (fun E' a' w' hE hw' he' hd'=>hQ E' a' w' (Emb.le_trans hE1 hE) hw' he' (by rw [hd'];cases o.dst <;> rfl))
 | _,_,_,_,_,_,_,.hint n ops l m env H env' H' h,E,w,a,Q,hw,he,hQ=>
   EvS.sound hm hgl h ⟨hw.below,hw.mem,hw.dom,hw.mdom,hw.row,hw.map,hw.sep,hw.msep,hw.memsep⟩ he hQ
 | _,_,_,_,_,_,_,.call n ops i l o f args ts g first cap env H r H1 env' H' ho hwt hd hop hf hc h,E,w,a,Q,hw,he,hQ=>by
   simp only [wpOps,ho,he.wanted hwt,if_true]
   left
   obtain ⟨⟨fn,c,hg,hn,hb⟩,hcall⟩:=EvF.sound hm hgl hc
   have hx:=he.eval f
   rw [hf] at hx
   obtain ⟨vs,us,hev,hvs,hus⟩ : ∃ vs us,a.eval f = .func (.func g) vs.toArray us.toArray ∧ RepL C E first vs ∧ RepL C E cap us:=by
    generalize a.eval f = u at hx
    cases hx;exact ⟨_,_,rfl,by assumption,by assumption⟩
   have hargs : RepL C E (first ++ args.toList.map env.at ++ cap) (vs ++ args.toList.map a.eval ++ us):=repL_append (repL_append hvs (repL_map (fun x=>he.eval x) args.toList)) hus
   have hrun : (execOp a.eval o).run P w = .ok (.enter g (vs ++ args.toList.map a.eval ++ us).toArray) w:=by
    have e1 : (vs ++ args.toList.map a.eval ++ us).toArray = vs.toArray ++ args.map a.eval ++ us.toArray:=by apply Array.ext';simp
    rw [e1]
    simp only [execOp,hop,resolve,hev,Deferred.ofValue,Sem.run_bind,Sem.run_pure,Result.andThen_ok,invoke]
    exact run_callFunc hg hn hb _ w
   unfold Oper.wp
   rw [hrun]
   show Calls P g _ w _
   refine (hcall hw hargs).mono fun e w1 hpost=>?_
   obtain ⟨E1,v,rfl,hE1,hw1,hr⟩:=hpost
   exact EvS.sound hm hgl h hw1 ((he.mono hE1).put hd hr) (fun E' a' w' hE hw' he' hd'=>hQ E' a' w' (Emb.le_trans hE1 hE) hw' he' (by rw [hd'];cases o.dst <;> rfl))
end

end
end Go.Ev
