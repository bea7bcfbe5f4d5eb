import Derived.Test.YtjlmgabhhodhfaaGreatDoorEvMEvT
import GoSem.ClaimJoined
set_option linter.unusedVariables false
set_option linter.unusedSimpArgs false
namespace Go.Ev
section
variable (P : Program)

def contig : List Field → Nat → Nat → Bool
 | [],off,tot=>off == tot
 | f :: fs,off,tot=>f.offset == off && contig fs (off + P.cellsOf f.type) tot

def layB (t : TypeId) : Bool:=
 match P.underlying t with
 | some (.struct fs)=>contig P fs.toList 0 (P.cellsOf t)
 | _=>true

def kidB (n : Nat) (t : TypeId) : Bool:=
 match P.underlying t with
 | some (.struct fs)=>fs.toList.all fun f=>decide (f.type < n)
 | some (.slice e)=>decide (e < n)
 | _=>true

def Shp : Nat → TypeId → List AV → Prop
 | 0,_,_=>False
 | n + 1,t,as=>
  match P.underlying t with
  | some .bool=>∃ b,as = [.bool b]
  | some (.int k)=>∃ x,as = [.int k x] ∧ k.min ≤ x ∧ x ≤ k.max
  | some .string=>∃ l,as = [.str l] ∧ l.length ≤ reachBytes ∧ ∀ c ∈ l,c < 256
  | some (.slice e)=>as = [.nilslice] ∨ (P.cellsOf e = 0 ∧ as = [.undef]) ∨ ∃ es,as = [.lst (P.cellsOf e) es] ∧ es.length * P.bytesOf e ≤ reachBytes ∧ ∀ cs ∈ es,cs.length = P.cellsOf e ∧ Shp n e cs
  | some (.struct fs)=>as.length = P.cellsOf t ∧ ∀ f ∈ fs.toList,Shp n f.type ((as.drop f.offset).take (P.cellsOf f.type))
  | _=>True

theorem repL_undef {C : Mem} {E : Emb} : ∀ vs : List Value,RepL C E (vs.map fun _=>AV.undef) vs
 | []=>.nil
 | v :: vs=>.cons _ _ _ _ (.undef v) (repL_undef vs)

theorem mapM_some_iff {α β : Type} {f : α → Option β} : ∀ {l : List α} {r : List β},l.mapM f = some r → r.length = l.length ∧ ∀ (i : Nat) a,l[i]? = some a → ∃ b,f a = some b ∧ r[i]? = some b
 | [],r,h=>by simp at h;subst h;simp
 | a :: l,r,h=>by
  simp only [List.mapM_cons,Option.bind_eq_bind,Option.pure_def] at h
  cases ha : f a with
  | none=>simp [ha] at h
  | some b=>
   cases hl : l.mapM f with
   | none=>simp [ha,hl] at h
   | some bs=>
    simp [ha,hl] at h
    subst h
    obtain ⟨h1,h2⟩:=mapM_some_iff hl
    refine ⟨by simp [h1],fun i x hx=>?_⟩
    cases i with
    | zero=>simp at hx;subst hx;exact ⟨b,ha,rfl⟩
    | succ i=>simpa using h2 i x (by simpa using hx)

def memOf (w : World) : Mem:=fun b o=>w.cell? ⟨b,o,none⟩

theorem repM_of {w : World} {E : Emb} {blk : Nat} : ∀ {as : List AV} {vs : List Value} {co : Nat},RepL (memOf w) E as vs → (∀ j v,vs[j]? = some v → w.cell? ⟨blk,co + j,none⟩ = some v) → RepM (memOf w) E blk co as
 | _,_,_,.nil,_=>.nil _ _
 | _,_,co,.cons a v as vs h h',hc=>.cons _ _ _ _ v (by simpa [memOf] using hc 0 v rfl) h (repM_of h' (fun j u hu=>by rw [show co + 1 + j = co + (j + 1) by omega];exact hc (j + 1) u (by simpa using hu)))

theorem cells_get {w : World} {a : Addr} {n : Nat} {cs : List Value} (h : w.cells? 0 a n = some cs) : cs.length = n ∧ ∀ j v,cs[j]? = some v → w.cell? (a.add j) = some v:=by
 unfold World.cells? at h
 rw [if_pos (Nat.zero_le _)] at h
 obtain ⟨h1,h2⟩:=mapM_some_iff h
 refine ⟨by simpa using h1,fun j v hj=>?_⟩
 have hlt : j < n:=by have:=(List.getElem?_eq_some_iff.1 hj).1;simp at h1;omega
 obtain ⟨b,hb,hr⟩:=h2 j j (by simp [hlt])
 rw [hj] at hr;cases hr;exact hb

theorem spot_none {w : World} {a : Addr} {v : Value} (h : w.cell? (a.add 0) = some v) : a.spot = none:=by
 have e : a.add 0 = a:=by simp [Addr.add]
 rw [e] at h
 unfold World.cell? at h
 split at h
 ·cases hs : a.spot with
  | none=>rfl
  | some s=>simp [hs] at h
 ·cases h

theorem addr_eq {a : Addr} (h : a.spot = none) (n : Nat) : a.add n = ⟨a.block,a.off + n,none⟩:=by
 unfold Addr.add
 split
 ·rename_i h0;subst h0;cases a;simp_all
 ·simp [h]

end
end Go.Ev
set_option linter.unusedVariables false
set_option linter.unusedSimpArgs false
namespace Go.Ev


def opKind (P : Program) : Op → Nat
 | .move _ | .assign _ | .pick .. | .unOp .. | .makeInterface .. | .makeFunc .. | .fieldAddr .. | .field .. | .index .. | .extract .. | .nilCheck _ | .build .. | .binOp ..=>0
 | .load .. | .indexAddr .. | .slice .. | .lookup ..=>1
 | .convert s d _=>if isTextT P s d = true then 2 else 1
 | .alloc _ | .box .. | .buildSlice .. | .makeSlice ..=>2
 | .call { callee:=.builtin .len,.. }=>1
 | .call { callee:=.builtin .max,.. }=>0
 | .call { callee:=.builtin .min,.. }=>0
 | _=>3

section
variable {P : Program} {ρ : Operand → AV} {o : Oper} {H : Heap} {r : AV} {H' : Heap}

theorem evBuiltin_pure {b : Builtin} {ts : Array TypeId} {as : List AV} (hb : b = .max ∨ b = .min) (h : evBuiltin P H b ts as = some (r,H')) : H' = H ∧ ∀ G,evBuiltin P G b ts as = some (r,G):=by
 rcases hb with rfl | rfl
 all_goals
  match as,h with
  | [.int k x,.int k' y],h=>
   simp only [evBuiltin] at h ⊢
   split at h
   ·rename_i hk;cases h;exact ⟨rfl,fun G=>by simp [hk]⟩
   ·cases h

theorem kind0 (hk : opKind P o.op = 0) (h : evOp P ρ o H = some (r,H')) : H' = H ∧ ∀ G,evOp P ρ o G = some (r,G):=by
 obtain ⟨dst,op,type,pos,after,guard⟩:=o
 cases op <;> first | (simp [opKind] at hk;done) | (simp only [opKind] at hk;split at hk <;> cases hk;done) | skip
 case call c=>
  obtain ⟨callee,args,ts⟩:=c
  cases callee with
  | value f=>simp [opKind] at hk
  | invoke x m=>simp [opKind] at hk
  | builtin b=>
   simp only [evOp] at h ⊢
   refine evBuiltin_pure ?_ h
   cases b <;> simp [opKind] at hk ⊢
 case pick c a b=>
  simp only [evOp] at h ⊢
  split at h
  ·rename_i t ht;cases h;exact ⟨rfl,fun G=>by simp [ht]⟩
  ·cases h
 case makeInterface t x=>
  simp only [evOp] at h ⊢
  split at h
  ·rename_i d hd
   split at h
   ·cases h
   ·rename_i hi;cases h;exact ⟨rfl,fun G=>by simp [hd,hi]⟩
  ·cases h
 case fieldAddr s x f=>
  simp only [evOp] at h ⊢
  split at h
  ·rename_i fd hfd
   split at h
   ·rename_i n b i o g hn hx
    split at h
    ·cases h
    ·rename_i h0;cases h;exact ⟨rfl,fun G=>by simp [hfd,hn,hx,h0]⟩
   ·rename_i n cs o hn hx
    split at h
    ·cases h
    ·rename_i h0;cases h;exact ⟨rfl,fun G=>by simp [hfd,hn,hx,h0]⟩
   ·cases h
  ·cases h
 case field s x f=>
  simp only [evOp] at h ⊢
  split at h
  ·rename_i fd cs hfd hx
   obtain ⟨a,ha,e⟩:=map_some_eq h
   cases e
   exact ⟨rfl,fun G=>by simp [hfd,hx,ha]⟩
  ·cases h
 case extract t i=>
  simp only [evOp] at h ⊢
  split at h
  ·rename_i vs hx
   obtain ⟨a,ha,e⟩:=map_some_eq h
   cases e
   exact ⟨rfl,fun G=>by simp [hx,ha]⟩
  ·cases h
 case nilCheck x=>
  simp only [evOp] at h ⊢
  split at h
  ·rename_i hx;cases h;exact ⟨rfl,fun G=>by simp [hx]⟩
  ·rename_i hx;cases h;exact ⟨rfl,fun G=>by simp [hx]⟩
  ·cases h
 all_goals
  simp only [evOp] at h ⊢
  first
   | (cases h;exact ⟨rfl,fun G=>rfl⟩)
   | (obtain ⟨a,ha,e⟩:=map_some_eq h;cases e;exact ⟨rfl,fun G=>by simp [ha]⟩)

theorem load_up {a : AV} {n : Nat} {cs : List AV} (h : H.load a n = some cs) {G : Heap} (hG : ∀ b x,H.blk b = some x → G.blk b = some x) : G.load a n = some cs:=by
 unfold Heap.load at h ⊢
 split at h
 ·exact h
 ·split at h
  ·rename_i hb;rw [hG _ _ hb];exact h
  ·cases h
 ·cases h

theorem eszOf_up {b g s : Nat} (h : H.eszOf b g = some s) {G : Heap} (hG : ∀ b x,H.blk b = some x → G.blk b = some x) : G.eszOf b g = some s:=by
 unfold Heap.eszOf at h ⊢
 split at h
 ·rename_i hb;rw [hG _ _ hb];exact h
 ·cases h

theorem evIndexAddr_up {t : TypeId} {a i r : AV} (h : evIndexAddr P H t a i = some r) {G : Heap} (hG : ∀ b x,H.blk b = some x → G.blk b = some x) : evIndexAddr P G t a i = some r:=by
 unfold evIndexAddr at h ⊢
 split at h
 ·split at h
  ·rename_i e b off len cap ex g ht
   split at h
   ·rename_i hb
    obtain ⟨hb1,hb2,hb3⟩:=hb
    obtain ⟨s,hs,e'⟩:=map_some_eq h
    have:=eszOf_up (hb3.symm.trans hs) hG
    rw [if_pos ⟨hb1,hb2,by rw [hs,this]⟩]
    exact h
   ·cases h
  ·rename_i e sz es ht
   exact h
  ·exact h
  ·cases h
 ·cases h

theorem evSlice_up {t : TypeId} {a r : AV} {l hh m : Option Int} (h : evSlice P H t a l hh m = some r) {G : Heap} (hG : ∀ b x,H.blk b = some x → G.blk b = some x) : evSlice P G t a l hh m = some r:=by
 have key : ∀ e b g,(decide ((szOf P e).isSome = true ∧ szOf P e = H.eszOf b g)) = true → (decide ((szOf P e).isSome = true ∧ szOf P e = G.eszOf b g)) = true:=fun e b g hd=>by
  simp only [decide_eq_true_eq] at hd ⊢
  obtain ⟨s,hs⟩:=Option.isSome_iff_exists.1 hd.1
  exact ⟨hd.1,by rw [hs,eszOf_up (hd.2.symm.trans hs) hG]⟩
 simp only [evSlice] at h ⊢
 split at h
 all_goals (try exact h)
 ·rename_i e b off len cap ex g ht
  split at h
  ·rename_i hb
   simp only [Bool.and_eq_true] at hb
   rw [if_pos (by simp only [Bool.and_eq_true];exact ⟨hb.1,key _ _ _ hb.2⟩)]
   exact h
  ·cases h
 ·rename_i e b off len cap ex g m ht
  split at h
  ·split at h
   ·rename_i hb
    simp only [Bool.and_eq_true] at hb
    rw [if_pos (by simp only [Bool.and_eq_true];exact ⟨hb.1,key _ _ _ hb.2⟩)]
    exact h
   ·cases h
  ·cases h

theorem evLookup_up {t : TypeId} {m k r : AV} {ok : Bool} (h : evLookup P H t m k ok = some r) {G : Heap} (hG : ∀ b x,H.blk b = some x → G.blk b = some x) : evLookup P G t m k ok = some r:=by
 unfold evLookup at h ⊢
 split at h
 ·split at h
  ·rename_i hs
   rw [if_pos hs]
   split at h
   ·exact h
   ·split at h
    ·rename_i hb;rw [hG _ _ hb];exact h
    ·cases h
   ·cases h
  ·cases h
 ·cases h

theorem evLookupW_up {t : TypeId} {m k r : AV} {ok : Bool} (h : evLookupW P H t m k ok = some r) {G : Heap} (hG : ∀ b x,H.blk b = some x → G.blk b = some x) : evLookupW P G t m k ok = some r:=by
 unfold evLookupW at h ⊢
 split at h
 ·split at h
  ·rename_i hs
   rw [if_pos hs]
   split at h
   ·exact h
   ·split at h
    ·rename_i hb;rw [hG _ _ hb];exact h
    ·cases h
   ·cases h
  ·cases h
 ·cases h
theorem evLook_up {t : TypeId} {m k r : AV} {ok : Bool} (h : evLook P H t m k ok = some r) {G : Heap} (hG : ∀ b x,H.blk b = some x → G.blk b = some x) : evLook P G t m k ok = some r:=by
 unfold evLook at h ⊢
 split at h
 ·exact evLookupW_up h hG
 ·exact evLookupW_up h hG
 ·exact evLookup_up h hG

theorem elems_up' {esz n : Nat} {a : AV} {new : List (List AV)} (h : H.elems esz n a = some new) {G : Heap} (hG : ∀ b x,H.blk b = some x → G.blk b = some x) : G.elems esz n a = some new:=by
 unfold Heap.elems at h ⊢
 split at h <;> first | (cases h;done) | exact h | skip
 ·split at h
  ·rename_i hb;rw [hG _ _ hb];exact h
  ·cases h

theorem evBytes_up {s d : TypeId} {x r : AV} (h : evBytes P H s d x = some r) {G : Heap} (hG : ∀ b x,H.blk b = some x → G.blk b = some x) : evBytes P G s d x = some r:=by
 unfold evBytes at h ⊢
 split at h
 ·split at h
  ·rename_i b off len cap ex g he
   cases hel : H.elems 1 len (.slice b off len cap ex g) with
   | none=>simp [hel] at h
   | some cells=>rw [elems_up' hel hG];rw [hel] at h;exact h
  ·cases h
 ·cases h

theorem kind1 (hk : opKind P o.op = 1) (h : evOp P ρ o H = some (r,H')) : H' = H ∧ ∀ G : Heap,(∀ b x,H.blk b = some x → G.blk b = some x) → evOp P ρ o G = some (r,G):=by
 obtain ⟨dst,op,type,pos,after,guard⟩:=o
 cases op <;> simp only [evOp] at h ⊢ <;> first | (simp [opKind] at hk;done) | skip
 case load t a=>
  split at h
  ·rename_i n h1 h2
   obtain ⟨cs,hc,e⟩:=map_some_eq h
   cases e
   exact ⟨rfl,fun G hG=>by simp [h1,h2,load_up hc hG]⟩
  ·rename_i h1
   split at h
   ·rename_i v hv
    cases h
    exact ⟨rfl,fun G hG=>by simp [h1,load_up hv hG]⟩
   ·cases h
  ·cases h
 case indexAddr t x i=>
  obtain ⟨a,ha,e⟩:=map_some_eq h
  cases e
  exact ⟨rfl,fun G hG=>by simp [evIndexAddr_up ha hG]⟩
 case slice t x lo hi mx=>
  split at h
  ·rename_i l hh m h1 h2 h3
   obtain ⟨a,ha,e⟩:=map_some_eq h
   cases e
   exact ⟨rfl,fun G hG=>by simp [h1,h2,h3,evSlice_up ha hG]⟩
  ·cases h
 case convert s d x=>
  simp only [opKind] at hk
  by_cases ht : isTextT P s d = true
  ·rw [if_pos ht] at hk;cases hk
  ·rw [if_neg ht] at h
   split at h
   ·rename_i a ha
    cases h
    exact ⟨rfl,fun G hG=>by simp [ht,ha]⟩
   ·rename_i hn
    obtain ⟨a,ha,e⟩:=map_some_eq h
    cases e
    exact ⟨rfl,fun G hG=>by simp [ht,hn,evBytes_up ha hG]⟩
 case lookup t x k ok=>
  obtain ⟨a,ha,e⟩:=map_some_eq h
  cases e
  exact ⟨rfl,fun G hG=>by simp [evLook_up ha hG]⟩
 case call c=>
  obtain ⟨callee,args,ts⟩:=c
  cases callee with
  | value f=>simp [opKind] at hk
  | invoke x m=>simp [opKind] at hk
  | builtin b=>
   cases b <;> first | (simp [opKind] at hk;done) | skip
   simp only at h ⊢
   generalize args.toList.map ρ = as at *
   match as,h with
   | [x],h=>
    simp only [evBuiltin] at h ⊢
    split at h <;> first | (cases h;done) | (cases h;exact ⟨rfl,fun G hG=>by simp_all⟩) | skip
    rename_i b hd
    split at h
    ·rename_i es cl hb
     cases h
     refine ⟨rfl,fun G hG=>?_⟩
     have:=hG _ _ hb
     simp [hd,this]
    ·cases h
   | [],h=>simp [evBuiltin] at h
   | _ :: _ :: _,h=>simp [evBuiltin] at h

theorem kind2 (hk : opKind P o.op = 2) (h : evOp P ρ o H = some (r,H')) : ∃ x,H' = H.push x ∧ ∀ G : Heap,G.next = H.next → evOp P ρ o G = some (r,G.push x):=by
 obtain ⟨dst,op,type,pos,after,guard⟩:=o
 cases op <;> simp only [evOp] at h ⊢ <;> first | (simp [opKind] at hk;done) | skip
 case alloc t=>
  split at h
  ·rename_i z hz
   split at h
   ·cases h
   ·rename_i hu
    cases h
    exact ⟨_,rfl,fun G hG=>by simp [hz,hu,hG]⟩
  ·cases h
 case box t x=>
  split at h
  ·cases h
  ·rename_i hu
   cases h
   exact ⟨_,rfl,fun G hG=>by simp [hu,hG]⟩
 case buildSlice t len parts=>
  unfold evBuildSlice at h ⊢
  cases he : elemOfSlice P t with
  | none=>simp [he] at h
  | some e=>
   simp only [he,Option.bind_some] at h ⊢
   split at h
   ·rename_i s z hs hz
    split at h
    ·rename_i hc
     cases hf : fillE s (List.replicate len z.cells) (parts.toList.map fun p=>(p.1,ρ p.2)) with
     | none=>simp [hf] at h
     | some els=>
      simp only [hf,Option.map_some,Option.some.injEq,Prod.mk.injEq] at h
      obtain ⟨rfl,rfl⟩:=h
      exact ⟨_,rfl,fun G hG=>by simp [hs,hz,hc,hf,hG]⟩
    ·cases h
   ·cases h
 case convert s d x=>
  simp only [opKind] at hk
  by_cases ht : isTextT P s d = true
  ·rw [if_pos ht] at h
   unfold evText at h
   split at h
   ·rename_i e l hd hx
    split at h
    ·rename_i he
     cases h
     exact ⟨_,rfl,fun G hG=>by simp [ht,evText,hd,hx,he,hG]⟩
    ·cases h
   ·cases h
  ·rw [if_neg ht] at hk;cases hk
 case makeSlice t l c=>
  unfold evMakeSlice at h ⊢
  cases he : elemOfSlice P t with
  | none=>simp [he] at h
  | some e=>
   simp only [he,Option.bind_some] at h ⊢
   split at h
   ·rename_i it z k l' k' c' hi hz hl hc
    split at h
    ·rename_i hcc
     cases h
     exact ⟨_,rfl,fun G hG=>by rw [if_pos hcc,hG]⟩
    ·cases h
   ·cases h
 case call c=>
  obtain ⟨callee,args,ts⟩:=c
  cases callee with
  | value f=>simp [opKind] at hk
  | invoke x m=>simp [opKind] at hk
  | builtin b=>cases b <;> simp [opKind] at hk


def Up (H G : Heap) : Prop:=∀ b x,H.blk b = some x → G.blk b = some x

def Local (F : Heap → Option (AV × Heap)) (H : Heap) (r : AV) (H' : Heap) : Prop:=
 (H' = H ∧ ∀ G,Up H G → F G = some (r,G)) ∨
 (∃ x,H' = H.push x ∧ ∀ G : Heap,Up H G → G.next = H.next → F G = some (r,G.push x)) ∨
 (∃ b x y,H.blk b = some y ∧ H' = H.set b x ∧ ∀ G : Heap,Up H G → F G = some (r,G.set b x))

theorem store_local {a : AV} {vs : List AV} (h : H.store a vs = some H') : ∃ b x y,H.blk b = some y ∧ H' = H.set b x ∧ ∀ G : Heap,Up H G → G.store a vs = some (G.set b x):=by
 unfold Heap.store at h
 split at h
 ·rename_i b i o g
  split at h
  ·rename_i ty esz els gen wgen hb
   split at h
   ·rename_i hc
    split at h
    ·rename_i cs hi
     cases h
     exact ⟨b,_,_,hb,rfl,fun G hG=>by simp only [Heap.store,hG _ _ hb,hi];rw [if_pos hc]⟩
    ·cases h
   ·cases h
  ·cases h
 ·cases h

theorem elems_up {esz n : Nat} {a : AV} {new : List (List AV)} (h : H.elems esz n a = some new) {G : Heap} (hG : Up H G) : G.elems esz n a = some new:=by
 unfold Heap.elems at h ⊢
 split at h <;> first | (cases h;done) | exact h | skip
 ·split at h
  ·rename_i hb;rw [hG _ _ hb];exact h
  ·cases h

theorem append_local {e : TypeId} {esz bytes : Nat} {s : AV} {new : List (List AV)} (h : H.append e esz bytes s new = some (r,H')) : Local (fun G=>G.append e esz bytes s new) H r H':=by
 unfold Heap.append at h
 split at h
 case isFalse=>cases h
 rename_i hcell
 split at h
 ·split at h
  ·rename_i h0;cases h;exact .inl ⟨rfl,fun G hG=>by simp only [Heap.append];rw [if_pos hcell,if_pos h0]⟩
  ·rename_i h0
   split at h
   ·rename_i hc;cases h;exact .inr (.inl ⟨_,rfl,fun G hG hn=>by simp only [Heap.append];rw [if_pos hcell,if_neg h0,if_pos hc,hn]⟩)
   ·cases h
 ·split at h
  ·rename_i h0;cases h;exact .inl ⟨rfl,fun G hG=>by simp only [Heap.append];rw [if_pos hcell,if_pos h0]⟩
  ·rename_i h0
   split at h
   ·rename_i hc;cases h;exact .inr (.inl ⟨_,rfl,fun G hG hn=>by simp only [Heap.append];rw [if_pos hcell,if_neg h0,if_pos hc,hn]⟩)
   ·cases h
 ·split at h
  ·rename_i h0;cases h;exact .inl ⟨rfl,fun G hG=>by simp only [Heap.append];rw [if_pos hcell,if_pos h0]⟩
  ·cases h
 ·split at h
  ·rename_i h0;cases h;exact .inl ⟨rfl,fun G hG=>by simp only [Heap.append];rw [if_pos hcell,if_pos h0]⟩
  ·rename_i h0
   split at h
   ·rename_i ty sz els gen wgen hb
    split at h
    ·rename_i hc
     split at h
     ·rename_i hfit
      split at h
      ·rename_i hg
       cases h
       exact .inr (.inr ⟨_,_,_,hb,rfl,fun G hG=>by simp only [Heap.append,hG _ _ hb];rw [if_pos hcell,if_neg h0,if_pos hc,if_pos hfit,if_pos hg]⟩)
      ·cases h
     ·rename_i hfit
      split at h
      ·rename_i hex
       cases h
       exact .inr (.inl ⟨_,rfl,fun G hG hn=>by simp only [Heap.append,hG _ _ hb];rw [if_pos hcell,if_neg h0,if_pos hc,if_neg hfit,if_pos hex,hn]⟩)
      ·rename_i hex
       split at h
       ·rename_i hg
        cases h
        exact .inr (.inr ⟨_,_,_,hb,rfl,fun G hG=>by simp only [Heap.append,hG _ _ hb];rw [if_pos hcell,if_neg h0,if_pos hc,if_neg hfit,if_neg hex,if_pos hg]⟩)
       ·cases h
    ·cases h
   ·cases h
 ·cases h

theorem append1_some' {H : Heap} {e : TypeId} {esz bytes : Nat} {s : AV} {new : List (List AV)} {q : AV × Heap} (h : H.append e esz bytes s new = some q) : H.append1 e esz bytes s new = some q:=by
 simp only [Heap.append1,h]
theorem append_none {G : Heap} {e : TypeId} {esz bytes b off len cap g : Nat} {ex : Bool} {new : List (List AV)} {ty sz gen wgen : Nat} {els : List (List AV)} (hb : H.blk b = some (.row ty sz els gen wgen)) (hg : G.blk b = some (.row ty sz els gen wgen)) : H.append e esz bytes (.slice b off len cap ex g) new = none → G.append e esz bytes (.slice b off len cap ex g) new = none:=by
 simp only [Heap.append,hb,hg]
 split
 ·split
  ·intro h;cases h
  ·split
   ·split
    ·split
     ·intro h;cases h
     ·intro h;rfl
    ·split
     ·intro h;cases h
     ·split
      ·intro h;cases h
      ·intro h;rfl
   ·intro h;rfl
 ·intro h;rfl
theorem append1_local {e : TypeId} {esz bytes : Nat} {s : AV} {new : List (List AV)} (h : H.append1 e esz bytes s new = some (r,H')) : Local (fun G=>G.append1 e esz bytes s new) H r H':=by
 unfold Heap.append1 at h
 split at h
 ·rename_i r0 h0
  cases h
  rcases append_local h0 with ⟨q1,q2⟩ | ⟨x',q1,q2⟩ | ⟨b,x',y,q0,q1,q2⟩
  ·exact .inl ⟨q1,fun G hG=>append1_some' (q2 G hG)⟩
  ·exact .inr (.inl ⟨x',q1,fun G hG hn=>append1_some' (q2 G hG hn)⟩)
  ·exact .inr (.inr ⟨b,x',y,q0,q1,fun G hG=>append1_some' (q2 G hG)⟩)
 ·rename_i h0
  split at h
  ·split at h
   ·rename_i hb
    split at h
    ·rename_i hc
     cases h
     exact .inr (.inr ⟨_,_,_,hb,rfl,fun G hG=>by simp only [Heap.append1,append_none hb (hG _ _ hb) h0,hG _ _ hb];rw [if_pos hc]⟩)
    ·cases h
   ·cases h
  ·cases h

theorem mapUpdate_local {t : TypeId} {m k x : AV} (h : evMapUpdate P H t m k x = some H') : ∃ b x' y,H.blk b = some y ∧ H' = H.set b x' ∧ ∀ G : Heap,Up H G → evMapUpdate P G t m k x = some (G.set b x'):=by
 unfold evMapUpdate at h
 split at h
 ·rename_i kt et l b ht
  split at h
  ·rename_i hs
   split at h
   ·rename_i es cl hb
    split at h
    ·rename_i i v n hf
     cases h
     exact ⟨b,_,_,hb,rfl,fun G hG=>by simp only [evMapUpdate,ht,hG _ _ hb,hf];rw [if_pos hs]⟩
    ·rename_i hf
     cases h
     exact ⟨b,_,_,hb,rfl,fun G hG=>by simp only [evMapUpdate,ht,hG _ _ hb,hf];rw [if_pos hs]⟩
    ·cases h
   ·cases h
  ·cases h
 ·cases h

theorem mapUpdateW_local {t : TypeId} {m k x : AV} (h : evMapUpdateW P H t m k x = some H') : ∃ b x' y,H.blk b = some y ∧ H' = H.set b x' ∧ ∀ G : Heap,Up H G → evMapUpdateW P G t m k x = some (G.set b x'):=by
 unfold evMapUpdateW at h
 split at h
 ·rename_i kt et b ht
  split at h
  ·rename_i hs
   split at h
   ·rename_i es cl hb
    split at h
    ·rename_i hall
     split at h
     ·rename_i i v n hf
      cases h
      exact ⟨b,_,_,hb,rfl,fun G hG=>by simp only [evMapUpdateW,ht,hG _ _ hb,hf];rw [if_pos hs,if_pos hall]⟩
     ·rename_i hf
      cases h
      exact ⟨b,_,_,hb,rfl,fun G hG=>by simp only [evMapUpdateW,ht,hG _ _ hb,hf];rw [if_pos hs,if_pos hall]⟩
    ·cases h
   ·cases h
  ·cases h
 ·cases h
theorem mapUpd_local {t : TypeId} {m k x : AV} (h : evMapUpd P H t m k x = some H') : ∃ b x' y,H.blk b = some y ∧ H' = H.set b x' ∧ ∀ G : Heap,Up H G → evMapUpd P G t m k x = some (G.set b x'):=by
 unfold evMapUpd at h
 split at h
 ·exact mapUpdateW_local h
 ·exact mapUpdateW_local h
 ·rename_i hne hni
  obtain ⟨b,x',y,q1,q2,q3⟩:=mapUpdate_local h
  exact ⟨b,x',y,q1,q2,fun G hG=>by
   rw [← q3 G hG]
   unfold evMapUpd
   split
   ·rename_i cs;exact absurd rfl (hne cs)
   ·rename_i k n;exact absurd rfl (hni k n)
   ·rfl⟩

theorem delete_local {ts : Array TypeId} {m k r : AV} (h : evDelete P H ts m k = some (r,H')) : Local (fun G=>evDelete P G ts m k) H r H':=by
 unfold evDelete at h
 split at h
 ·rename_i kt et l b ht
  split at h
  ·rename_i hs
   split at h
   ·rename_i es cl hb
    split at h
    ·rename_i i v n hf
     cases h
     exact .inr (.inr ⟨b,_,_,hb,rfl,fun G hG=>by simp only [evDelete,ht,hG _ _ hb,hf];rw [if_pos hs]⟩)
    ·rename_i hf
     cases h
     exact .inr (.inr ⟨b,_,_,hb,rfl,fun G hG=>by simp only [evDelete,ht,hG _ _ hb,hf];rw [if_pos hs]⟩)
    ·cases h
   ·cases h
  ·cases h
 ·cases h

theorem clear_local {ts : Array TypeId} {x r : AV} (h : evClear P H ts x = some (r,H')) : Local (fun G=>evClear P G ts x) H r H':=by
 unfold evClear at h
 split at h
 ·rename_i b ht
  split at h
  ·rename_i es cl hb
   cases h
   exact .inr (.inr ⟨b,_,_,hb,rfl,fun G hG=>by simp only [evClear,ht,hG _ _ hb]⟩)
  ·cases h
 ·rename_i ht
  cases h
  exact .inl ⟨rfl,fun G hG=>by simp only [evClear,ht]⟩
 ·rename_i ht
  cases h
  exact .inl ⟨rfl,fun G hG=>by simp only [evClear,ht]⟩
 ·rename_i e b off len cap ex g ht
  split at h
  ·rename_i h0
   cases h
   exact .inl ⟨rfl,fun G hG=>by simp only [evClear,ht];rw [if_pos h0]⟩
  ·rename_i h0
   split at h
   ·rename_i s z ty sz els gen wgen hs hz hb
    split at h
    ·rename_i hc
     cases h
     exact .inr (.inr ⟨b,_,_,hb,rfl,fun G hG=>by simp only [evClear,ht,hs,hz,hG _ _ hb];rw [if_neg h0,if_pos hc]⟩)
    ·cases h
   ·cases h
 ·cases h

theorem op_local (h : evOp P ρ o H = some (r,H')) : Local (fun G=>evOp P ρ o G) H r H':=by
 by_cases h0 : opKind P o.op = 0
 ·obtain ⟨e,hG⟩:=kind0 h0 h;exact .inl ⟨e,fun G _=>hG G⟩
 by_cases h1 : opKind P o.op = 1
 ·obtain ⟨e,hG⟩:=kind1 h1 h;exact .inl ⟨e,hG⟩
 by_cases h2 : opKind P o.op = 2
 ·obtain ⟨x,e,hG⟩:=kind2 h2 h;exact .inr (.inl ⟨x,e,fun G _ hn=>hG G hn⟩)
 obtain ⟨dst,op,type,pos,after,guard⟩:=o
 cases op <;> first | (simp [opKind] at h0;done) | (simp [opKind] at h1;done) | (simp [opKind] at h2;done) | skip
 case store t a x=>
  simp only [evOp] at h ⊢
  split at h
  ·rename_i hc
   obtain ⟨H2,hst,e⟩:=map_some_eq h
   cases e
   obtain ⟨b,x',y,q1,q2,q3⟩:=store_local hst
   exact .inr (.inr ⟨b,x',y,q1,q2,fun G hG=>by dsimp only;rw [if_pos hc,q3 G hG];rfl⟩)
  ·cases h
 case call c=>
  obtain ⟨callee,args,ts⟩:=c
  cases callee with
  | value f=>simp [evOp] at h
  | invoke x m=>simp [evOp] at h
  | builtin b=>
   simp only [evOp] at h ⊢
   generalize args.toList.map ρ = as at *
   cases b <;> first | (simp [opKind] at h0;done) | (simp [opKind] at h1;done) | skip
   case append=>
    match as,h with
    | [s,x],h=>
     simp only [evBuiltin] at h
     split at h
     ·rename_i t u ht
      split at h
      ·rename_i e d he hd
       split at h
       ·cases h
       ·rename_i i hi hnd
        split at h
        ·rename_i z n hz hn
         split at h
         ·rename_i hzs
          cases hel : H.elems i.size n x with
          | none=>simp [hel] at h
          | some new=>
           simp only [hel,Option.bind_some] at h
           have key : ∀ G,Up H G → evBuiltin P G .append ts [s,x] = G.append1 e i.size i.bytes s new:=fun G hG=>by
            simp only [evBuiltin,ht,he,hd,hi,hz,hn]
            rw [if_pos hzs,elems_up hel hG]
            rfl
           rcases append1_local h with ⟨q1,q2⟩ | ⟨x',q1,q2⟩ | ⟨b,x',y,q0,q1,q2⟩
           ·exact .inl ⟨q1,fun G hG=>(key G hG).trans (q2 G hG)⟩
           ·exact .inr (.inl ⟨x',q1,fun G hG hn=>(key G hG).trans (q2 G hG hn)⟩)
           ·exact .inr (.inr ⟨b,x',y,q0,q1,fun G hG=>(key G hG).trans (q2 G hG)⟩)
         ·cases h
        ·cases h
       ·cases h
      ·cases h
     ·cases h
    | [],h=>simp [evBuiltin] at h
    | [_],h=>simp [evBuiltin] at h
    | _ :: _ :: _ :: _,h=>simp [evBuiltin] at h
   case delete=>
    match as,h with
    | [m,k],h=>
     have h' : evDelete P H ts m k = some (r,H'):=h
     exact delete_local h'
    | [],h=>simp [evBuiltin] at h
    | [_],h=>simp [evBuiltin] at h
    | _ :: _ :: _ :: _,h=>simp [evBuiltin] at h
   case clear=>
    match as,h with
    | [x],h=>
     have h' : evClear P H ts x = some (r,H'):=h
     exact clear_local h'
    | [],h=>simp [evBuiltin] at h
    | _ :: _ :: _,h=>simp [evBuiltin] at h
   all_goals (simp [evBuiltin] at h)
 case makeMap t r'=>
  cases r' with
  | some x=>simp [evOp] at h
  | none=>
   simp only [evOp] at h ⊢
   cases h
   exact .inr (.inl ⟨_,rfl,fun G hG hn=>by dsimp only;rw [hn]⟩)
 case convert s d x=>
  exfalso
  by_cases ht : isTextT P s d = true
  ·exact h2 (by simp [opKind,ht])
  ·exact h1 (by simp [opKind,ht])
 case mapUpdate t m k x=>
  simp only [evOp] at h ⊢
  obtain ⟨H2,ha,e⟩:=map_some_eq h
  cases e
  obtain ⟨b,x',y,q1,q2,q3⟩:=mapUpd_local ha
  exact .inr (.inr ⟨b,x',y,q1,q2,fun G hG=>by dsimp only;rw [q3 G hG];rfl⟩)
 all_goals (simp [evOp] at h)

end
end Go.Ev
set_option linter.unusedVariables false
set_option linter.unusedSimpArgs false
namespace Go.Ev
section
variable {P : Program}

def Dom (H G : Heap) : Prop:=∀ b,H.blk b ≠ none → G.blk b ≠ none
theorem Dom.refl (H : Heap) : Dom H H:=fun _ h=>h
theorem Dom.trans {H G K : Heap} (h : Dom H G) (k : Dom G K) : Dom H K:=fun b hb=>k b (h b hb)

theorem local_dom {F : Heap → Option (AV × Heap)} {H : Heap} {r : AV} {H' : Heap} (h : Local F H r H') : Dom H H':=by
 rcases h with ⟨rfl,_⟩ | ⟨x,rfl,_⟩ | ⟨b,x,y,_,rfl,_⟩
 ·exact Dom.refl _
 ·intro b hb;simp only [Heap.push];split
  ·simp
  ·exact hb
 ·intro c hc;exact Heap.set_ne hc

mutual
theorem EvF.dom : ∀ {f : FuncId} {args : List AV} {H : Heap} {r : AV} {H' : Heap},EvF P f args H r H' → Dom H H'
 | _,_,_,_,_,.mk _ _ _ _ _ _ _ _ _ _ _ _ _ h _ _=>EvC.dom h
 | _,_,_,_,_,.mkD f fn c l1 l2 id ops d g first cap args H env1 H1 ex env2 H2 H3 r hf hn hb ha hl hd hdn h1 h2 he h3 hr=>(EvP.dom h1).trans ((EvP.dom h2).trans (EvD.dom h3))
theorem EvD.dom : ∀ {f : FuncId} {args : List AV} {H : Heap} {H' : Heap},EvD P f args H H' → Dom H H'
 | _,_,_,_,.mk f fn c id ops d e l args H ex env H' r hf hn hb ha hl hd hdn hen h he hr=>EvP.dom h
theorem EvP.dom : ∀ {n : Nat} {l : List Code} {env : Env} {H : Heap} {ex : Ex} {env' : Env} {H' : Heap},EvP P n l env H ex env' H' → Dom H H'
 | _,_,_,_,_,_,_,.nil n env H=>Dom.refl _
 | _,_,_,_,_,_,_,.cons n c l env H env1 H1 ex env2 H2 h h'=>(EvC.dom h).trans (EvP.dom h')
 | _,_,_,_,_,_,_,.out n c l env H env1 H1 ex h hx=>EvC.dom h
theorem EvC.dom : ∀ {n : Nat} {c : Code} {env : Env} {H : Heap} {ex : Ex} {env' : Env} {H' : Heap},EvC P n c env H ex env' H' → Dom H H'
 | _,_,_,_,_,_,_,.skip _ _ _=>Dom.refl _
 | _,_,_,_,_,_,_,.label _ _ _ _=>Dom.refl _
 | _,_,_,_,_,_,_,.region _ _ _ _ _ _ _ h=>EvS.dom h
 | _,_,_,_,_,_,_,.draw _ _ _ _ _ _ _ h=>EvS.dom (h 0)
 | _,_,_,_,_,_,_,.seq _ _ _ _ _ _ _ _ _ _ h h'=>(EvC.dom h).trans (EvC.dom h')
 | _,_,_,_,_,_,_,.seqOut _ _ _ _ _ _ _ _ h _=>EvC.dom h
 | _,_,_,_,_,_,_,.cond _ _ _ _ _ _ _ _ _ _ _ h=>EvC.dom h
 | _,_,_,_,_,_,_,.block _ _ _ _ _ _ _ _ h _=>EvC.dom h
 | _,_,_,_,_,_,_,.blockOut _ _ _ _ _ _ _ _ h _=>EvC.dom h
 | _,_,_,_,_,_,_,.loop _ _ _ _ _ _ _ h=>EvL.dom h
 | _,_,_,_,_,_,_,.exit _ _ _ _=>Dom.refl _
 | _,_,_,_,_,_,_,.ret _ _ _=>Dom.refl _
 | _,_,_,_,_,_,_,.scope _ _ _ _ _ _ _ h=>EvC.dom h
theorem EvL.dom : ∀ {n : Nat} {c : Code} {env : Env} {H : Heap} {ex : Ex} {env' : Env} {H' : Heap},EvL P n c env H ex env' H' → Dom H H'
 | _,_,_,_,_,_,_,.again _ _ _ _ _ _ _ _ _ h h'=>(EvC.dom h).trans (EvL.dom h')
 | _,_,_,_,_,_,_,.out _ _ _ _ _ _ _ h _=>EvC.dom h
theorem EvS.dom : ∀ {n : Nat} {ops : Array Oper} {l : List Nat} {env : Env} {H : Heap} {env' : Env} {H' : Heap},EvS P n ops l env H env' H' → Dom H H'
 | _,_,_,_,_,_,_,.nil _ _ _ _=>Dom.refl _
 | _,_,_,_,_,_,_,.skip _ _ _ _ _ _ _ _ _ _ _ _ h=>EvS.dom h
 | _,_,_,_,_,_,_,.op _ _ _ _ _ _ _ _ _ _ _ _ _ _ _ he h=>(local_dom (op_local he)).trans (EvS.dom h)
 | _,_,_,_,_,_,_,.hint _ _ _ _ _ _ _ _ h=>fun b hb=>EvS.dom h b hb
 | _,_,_,_,_,_,_,.call _ _ _ _ _ _ _ _ _ _ _ _ _ _ _ _ _ _ _ _ _ _ hc h=>(EvF.dom hc).trans (EvS.dom h)
end

theorem none_of_dom {H G : Heap} (h : Dom H G) {b : Nat} (hb : G.blk b = none) : H.blk b = none:=by
 cases hx : H.blk b with
 | none=>rfl
 | some x=>exact absurd hb (h b (by rw [hx];simp))

theorem up_set {H : Heap} {b : Nat} {x : Blk} (hb : H.blk b = none) : Up H (H.set b x):=fun c y hc=>by
 rw [Heap.set_other _ _ _ (fun e=>by rw [e,hb] at hc;cases hc)];exact hc

theorem Heap.ext' {H G : Heap} (h1 : ∀ i,H.blk i = G.blk i) (h2 : H.next = G.next) : H = G:=by
 cases H;cases G
 simp only [Heap.mk.injEq]
 exact ⟨funext h1,h2⟩

theorem set_push {H : Heap} {b : Nat} {x y : Blk} (hb : b ≠ H.next) : (H.set b x).push y = (H.push y).set b x:=by
 refine Heap.ext' (fun i=>?_) rfl
 show (if i = H.next then some y else if i = b then some x else H.blk i) = (if i = b then some x else if i = H.next then some y else H.blk i)
 by_cases h1 : i = H.next
 ·rw [if_pos h1,if_neg (by omega),if_pos h1]
 ·rw [if_neg h1,if_neg h1]

theorem set_set {H : Heap} {b c : Nat} {x y : Blk} (hb : b ≠ c) : (H.set b x).set c y = (H.set c y).set b x:=by
 refine Heap.ext' (fun i=>?_) rfl
 show (if i = c then some y else if i = b then some x else H.blk i) = (if i = b then some x else if i = c then some y else H.blk i)
 by_cases h1 : i = c
 ·rw [if_pos h1,if_neg (by omega),if_pos h1]
 ·rw [if_neg h1,if_neg h1]

theorem op_frame {ρ : Operand → AV} {o : Oper} {H : Heap} {r : AV} {H1 : Heap} (h : evOp P ρ o H = some (r,H1)) (hfree : H.blk H.next = none ∨ H1.next = H.next) {b : Nat} (x : Blk) (hb : H1.blk b = none) :
  evOp P ρ o (H.set b x) = some (r,H1.set b x) ∧ ((H.set b x).blk (H.set b x).next = none ∨ (H1.set b x).next = (H.set b x).next):=by
 have hl:=op_local h
 have hb0:=none_of_dom (local_dom hl) hb
 have hup:=up_set (x:=x) hb0
 rcases hl with ⟨rfl,hG⟩ | ⟨y,rfl,hG⟩ | ⟨c,y,z,hc,rfl,hG⟩
 ·exact ⟨hG _ hup,.inr rfl⟩
 ·have hne : b ≠ H.next:=fun e=>by simp [Heap.push,e] at hb
  refine ⟨by have:=hG _ hup rfl;rw [set_push hne] at this;exact this,.inl ?_⟩
  have:=hfree.resolve_right (by simp [Heap.push])
  show (H.set b x).blk H.next = none
  rw [Heap.set_other _ _ _ (Ne.symm hne)];exact this
 ·have hne : b ≠ c:=fun e=>by rw [e,Heap.set_same] at hb;cases hb
  exact ⟨by have:=hG _ hup;rw [set_set hne] at this;exact this,.inr rfl⟩

theorem result_frame {env : Env} {H : Heap} {b : Nat} {x : Blk} (hb : H.blk b = none) {rs : List ResultVar} {r : AV} (h : evResults P rs env H = some r) : evResults P rs env (H.set b x) = some r:=by
 have hup:=up_set (x:=x) hb
 have h1 : ∀ rv r,evResult P env H rv = some r → evResult P env (H.set b x) rv = some r:=by
  intro rv r h
  cases rv with
  | tmp t=>exact h
  | cell a t=>
   simp only [evResult] at h ⊢
   split at h
   ·rename_i n h1 h2
    obtain ⟨cs,hc,e⟩:=map_some_eq h
    simp [h1,h2,load_up hc hup,e]
   ·rename_i h1
    split at h
    ·rename_i v hv
     simp [h1,load_up hv hup]
     cases h;rfl
    ·cases h
   ·cases h
 have h2 : ∀ rs vs,evResultsL P env H rs = some vs → evResultsL P env (H.set b x) rs = some vs:=by
  intro rs
  induction rs with
  | nil=>intro vs h;exact h
  | cons rv rs ih=>
   intro vs h
   simp only [evResultsL] at h ⊢
   split at h
   ·rename_i v us e1 e2
    rw [h1 _ _ e1,ih _ e2];exact h
   ·cases h
 unfold evResults at h ⊢
 cases hx : evResultsL P env H rs with
 | none=>simp [hx] at h
 | some vs=>rw [hx] at h;rw [h2 _ _ hx];exact h

mutual
theorem EvF.frame : ∀ {f : FuncId} {args : List AV} {H : Heap} {r : AV} {H' : Heap},EvF P f args H r H' → ∀ {b : Nat} (x : Blk),H'.blk b = none → EvF P f args (H.set b x) r (H'.set b x)
 | _,_,_,_,_,.mk f fn c args H ex env H' r hf hn hb ha h he hr,b,x,hx=>.mk f fn c args _ ex env _ r hf hn hb ha (EvC.frame h x hx) he (result_frame hx hr)
 | _,_,_,_,_,.mkD f fn c l1 l2 id ops d g first cap args H env1 H1 ex env2 H2 H3 r hf hn hb ha hl hd hdn h1 h2 he h3 hr,b,x,hx=>
   .mkD f fn c l1 l2 id ops d g first cap args _ env1 _ ex env2 _ _ r hf hn hb ha hl hd hdn (EvP.frame h1 x (none_of_dom ((EvP.dom h2).trans (EvD.dom h3)) hx)) (EvP.frame h2 x (none_of_dom (EvD.dom h3) hx)) he (EvD.frame h3 x hx) (result_frame hx hr)
theorem EvD.frame : ∀ {f : FuncId} {args : List AV} {H : Heap} {H' : Heap},EvD P f args H H' → ∀ {b : Nat} (x : Blk),H'.blk b = none → EvD P f args (H.set b x) (H'.set b x)
 | _,_,_,_,.mk f fn c id ops d e l args H ex env H' r hf hn hb ha hl hd hdn hen h he hr,b,x,hx=>.mk f fn c id ops d e l args _ ex env _ r hf hn hb ha hl hd hdn hen (EvP.frame h x hx) he (result_frame hx hr)
theorem EvP.frame : ∀ {n : Nat} {l : List Code} {env : Env} {H : Heap} {ex : Ex} {env' : Env} {H' : Heap},EvP P n l env H ex env' H' → ∀ {b : Nat} (x : Blk),H'.blk b = none → EvP P n l env (H.set b x) ex env' (H'.set b x)
 | _,_,_,_,_,_,_,.nil n env H,b,x,hx=>.nil _ _ _
 | _,_,_,_,_,_,_,.cons n c l env H env1 H1 ex env2 H2 h h',b,x,hx=>.cons _ _ _ _ _ _ _ _ _ _ (EvC.frame h x (none_of_dom (EvP.dom h') hx)) (EvP.frame h' x hx)
 | _,_,_,_,_,_,_,.out n c l env H env1 H1 ex h hn,b,x,hx=>.out _ _ _ _ _ _ _ _ (EvC.frame h x hx) hn
theorem EvC.frame : ∀ {n : Nat} {c : Code} {env : Env} {H : Heap} {ex : Ex} {env' : Env} {H' : Heap},EvC P n c env H ex env' H' → ∀ {b : Nat} (x : Blk),H'.blk b = none → EvC P n c env (H.set b x) ex env' (H'.set b x)
 | _,_,_,_,_,_,_,.skip _ _ _,b,x,hx=>.skip _ _ _
 | _,_,_,_,_,_,_,.label _ _ _ _,b,x,hx=>.label _ _ _ _
 | _,_,_,_,_,_,_,.region _ _ _ _ _ _ _ h,b,x,hx=>.region _ _ _ _ _ _ _ (EvS.frame h x hx)
 | _,_,_,_,_,_,_,.draw _ _ _ _ _ _ _ h,b,x,hx=>.draw _ _ _ _ _ _ _ (fun t=>EvS.frame (h t) x hx)
 | _,_,_,_,_,_,_,.seq _ _ _ _ _ _ _ _ _ _ h h',b,x,hx=>.seq _ _ _ _ _ _ _ _ _ _ (EvC.frame h x (none_of_dom (EvC.dom h') hx)) (EvC.frame h' x hx)
 | _,_,_,_,_,_,_,.seqOut _ _ _ _ _ _ _ _ h hn,b,x,hx=>.seqOut _ _ _ _ _ _ _ _ (EvC.frame h x hx) hn
 | _,_,_,_,_,_,_,.cond _ _ _ _ _ _ _ _ _ _ hc h,b,x,hx=>.cond _ _ _ _ _ _ _ _ _ _ hc (EvC.frame h x hx)
 | _,_,_,_,_,_,_,.block _ _ _ _ _ _ _ _ h hn,b,x,hx=>.block _ _ _ _ _ _ _ _ (EvC.frame h x hx) hn
 | _,_,_,_,_,_,_,.blockOut _ _ _ _ _ _ _ _ h hn,b,x,hx=>.blockOut _ _ _ _ _ _ _ _ (EvC.frame h x hx) hn
 | _,_,_,_,_,_,_,.loop _ _ _ _ _ _ _ h,b,x,hx=>.loop _ _ _ _ _ _ _ (EvL.frame h x hx)
 | _,_,_,_,_,_,_,.exit _ _ _ _,b,x,hx=>.exit _ _ _ _
 | _,_,_,_,_,_,_,.ret _ _ _,b,x,hx=>.ret _ _ _
 | _,_,_,_,_,_,_,.scope _ _ _ _ _ _ _ h,b,x,hx=>.scope _ _ _ _ _ _ _ (EvC.frame h x hx)
theorem EvL.frame : ∀ {n : Nat} {c : Code} {env : Env} {H : Heap} {ex : Ex} {env' : Env} {H' : Heap},EvL P n c env H ex env' H' → ∀ {b : Nat} (x : Blk),H'.blk b = none → EvL P n c env (H.set b x) ex env' (H'.set b x)
 | _,_,_,_,_,_,_,.again _ _ _ _ _ _ _ _ _ h h',b,x,hx=>.again _ _ _ _ _ _ _ _ _ (EvC.frame h x (none_of_dom (EvL.dom h') hx)) (EvL.frame h' x hx)
 | _,_,_,_,_,_,_,.out _ _ _ _ _ _ _ h hn,b,x,hx=>.out _ _ _ _ _ _ _ (EvC.frame h x hx) hn
theorem EvS.frame : ∀ {n : Nat} {ops : Array Oper} {l : List Nat} {env : Env} {H : Heap} {env' : Env} {H' : Heap},EvS P n ops l env H env' H' → ∀ {b : Nat} (x : Blk),H'.blk b = none → EvS P n ops l env (H.set b x) env' (H'.set b x)
 | _,_,_,_,_,_,_,.nil _ _ _ _,b,x,hx=>.nil _ _ _ _
 | _,_,_,_,_,_,_,.skip _ _ _ _ _ _ _ _ _ ho hw hd h,b,x,hx=>.skip _ _ _ _ _ _ _ _ _ ho hw hd (EvS.frame h x hx)
 | _,_,_,_,_,_,_,.op _ _ _ _ _ _ _ _ _ _ _ ho hw hd hfree he h,b,x,hx=>
   have hb1:=none_of_dom (EvS.dom h) hx
   .op _ _ _ _ _ _ _ _ _ _ _ ho hw hd (op_frame he hfree x hb1).2 (op_frame he hfree x hb1).1 (EvS.frame h x hx)
 | _,_,_,_,_,_,_,.hint n ops l m env H env' H' h,b,x,hx=>.hint n ops l m env _ env' _ (EvS.frame h x hx)
 | _,_,_,_,_,_,_,.call _ _ _ _ _ _ _ _ _ _ _ _ _ _ _ _ _ ho hw hd hop hf hc h,b,x,hx=>
   .call _ _ _ _ _ _ _ _ _ _ _ _ _ _ _ _ _ ho hw hd hop hf (EvF.frame hc x (none_of_dom (EvS.dom h) hx)) (EvS.frame h x hx)
end

end
end Go.Ev
set_option linter.unusedVariables false
set_option linter.unusedSimpArgs false
namespace Go.Ev
section
variable (P : Program)
def cnt : Nat → TypeId → List AV → Nat
 | 0,_,_=>0
 | n + 1,t,as=>
  match P.underlying t with
  | some (.slice e)=>match as with
   | [.lst _ es]=>(es.map fun cs=>1 + cnt n e cs).sum
   | _=>0
  | some (.struct fs)=>(fs.toList.map fun f=>cnt n f.type ((as.drop f.offset).take (P.cellsOf f.type))).sum
  | _=>0
set_option maxHeartbeats 1000000 in
theorem cnt_of_trod {H : Type} (bk : DataW H → Nat) (hpos : ∀ d,1 ≤ bk d) (hsl : ∀ es sp,1 + (es.map bk).sum ≤ bk (.slice es sp)) (hag : ∀ ps,1 + (ps.map bk).sum ≤ bk (.agg ps)) {enc : TypeId × Value → H} {N : Nat} (hlay : ∀ t,t < N → layB P t = true ∧ kidB P N t = true) {w : World} {E : Emb} {spare : Nat → Bool} (hspare : ∀ b,spare b = true) {held : Bool} : ∀ (fuel : Nat) (t : TypeId) (cs : List Value) (d : DataW H) (ps : List MemPlace),
  t < N → DataW.trod enc P w 0 spare held fuel t cs = some (d,ps) → (d.weights P t).all (· ≤ reachBytes) = true → ∃ as,RepL (memOf w) E as cs ∧ Shp P fuel t as ∧ 1 + cnt P fuel t as ≤ bk d:=by
 intro fuel
 induction fuel with
 | zero=>intro t cs d ps _ h;simp [DataW.trod] at h
 | succ fuel ih=>
  intro t cs d ps htN h hwt
  have other : (∀ as,Shp P (fuel + 1) t as ∧ cnt P (fuel + 1) t as = 0) → ∃ as,RepL (memOf w) E as cs ∧ Shp P (fuel + 1) t as ∧ 1 + cnt P (fuel + 1) t as ≤ bk d:=fun hs=>⟨_,repL_undef cs,(hs _).1,by rw [(hs _).2];exact hpos d⟩
  have hlt:=(hlay t htN).1
  have hkd:=(hlay t htN).2
  cases hu : P.underlying t with
  | none=>exact other (fun as=>by simp [Shp,cnt,hu])
  | some td=>
   cases td with
   | bool=>
    simp only [DataW.trod,hu] at h
    split at h <;> first | (rename_i heq;cases heq) | skip
    all_goals first
     | (cases h;done)
     | (rename_i b heq;exact ⟨[.bool b],.cons _ _ _ _ (.bool b) .nil,by simp [Shp,hu],(by simp only [cnt,hu,Nat.add_zero];exact hpos _)⟩)
     | (rename_i b;exact ⟨[.bool b],.cons _ _ _ _ (.bool b) .nil,by simp [Shp,hu],(by simp only [cnt,hu,Nat.add_zero];exact hpos _)⟩)
     | skip
   | int k=>
    simp only [DataW.trod,hu] at h
    split at h <;> first | (cases h;done) | skip
    all_goals (try (rename_i heq;cases heq))
    split at h
    ·rename_i hk
     obtain ⟨rfl,hwf⟩:=hk
     simp only [Lit.wf,Bool.and_eq_true,decide_eq_true_eq] at hwf
     rename_i n
     exact ⟨[.int _ n],.cons _ _ _ _ (.int _ n) .nil,by simp [Shp,hu];exact hwf,(by simp only [cnt,hu,Nat.add_zero];exact hpos _)⟩
    ·cases h
   | string=>
    simp only [DataW.trod,hu] at h
    split at h <;> first | (cases h;done) | skip
    all_goals (try (rename_i heq;cases heq))
    split at h
    ·rename_i s hs
     cases h
     refine ⟨[.str (strOf s)],.cons _ _ _ _ (.str s _ rfl) .nil,?_,(by simp only [cnt,hu,Nat.add_zero];exact hpos _)⟩
     simp only [Shp,hu]
     refine ⟨_,rfl,?_,fun c hc=>?_⟩
     ·simpa [DataW.weights,strOf_length] using hwt
     ·unfold strOf at hc
      obtain ⟨x,_,rfl⟩:=List.mem_map.1 hc
      exact x.toNat_lt
    ·cases h
   | slice e=>
    simp only [DataW.trod,hu] at h
    split at h <;> first | (cases h;done) | skip
    all_goals (try (rename_i heq;cases heq))
    ·cases h
     exact ⟨[.nilslice],.cons _ _ _ _ .nilslice .nil,by simp [Shp,hu],(by simp only [cnt,hu,Nat.add_zero];exact hpos _)⟩
    ·rename_i a len cap
     split at h
     ·rename_i hb
      obtain ⟨hb1,hb2,hb3⟩:=hb
      by_cases h0 : P.cellsOf e = 0
      ·exact ⟨[.undef],.cons _ _ _ _ (.undef _) .nil,by simp [Shp,hu,h0],(by simp only [cnt,hu,Nat.add_zero];exact hpos _)⟩
      ·simp only [Option.bind_eq_some_iff,Option.map_eq_some_iff] at h
       obtain ⟨elems,he,rest,hr,heq⟩:=h
       cases heq
       rw [if_pos (hspare _)] at hr
       obtain ⟨l1,g1⟩:=mapM_some_iff he
       obtain ⟨l2,g2⟩:=mapM_some_iff hr
       simp only [List.length_range] at l1 l2
       have hw0 : (elems.length + rest.length) * P.bytesOf e ≤ reachBytes ∧ (∀ x ∈ elems,(x.1.weights P e).all (· ≤ reachBytes) = true):=by
        simp only [DataW.weights,hu,List.all_cons,List.all_append,Bool.and_eq_true,decide_eq_true_eq,List.length_map] at hwt
        refine ⟨hwt.1,fun x hx=>?_⟩
        have hall:=hwt.2.1
        clear hwt g1 g2 he hr l1 l2 other
        induction elems with
        | nil=>cases hx
        | cons y ys ihy=>
         simp only [List.map_cons,DataW.weightsAll,List.all_append,Bool.and_eq_true] at hall
         rcases List.mem_cons.1 hx with rfl | hx
         ·exact hall.1
         ·exact ihy hx hall.2
       have hspot : 0 < cap → a.spot = none:=fun hc=>by
        have hfirst : ∃ x,(w.cells? 0 (a.add (0 * P.cellsOf e)) (P.cellsOf e)) = some x:=by
         by_cases hl : 0 < len
         ·obtain ⟨b,hb,_⟩:=g1 0 0 (by simp [hl])
          obtain ⟨x,hx,_⟩:=Option.bind_eq_some_iff.1 hb
          exact ⟨x,hx⟩
         ·obtain ⟨b,hb,_⟩:=g2 0 0 (List.getElem?_range (by omega))
          obtain ⟨x,hx,_⟩:=Option.bind_eq_some_iff.1 hb
          have : len + 0 = 0:=by omega
          rw [this] at hx
          exact ⟨x,hx⟩
        obtain ⟨x,hx⟩:=hfirst
        obtain ⟨q1,q2⟩:=cells_get hx
        have hx0 : 0 < x.length:=by omega
        have:=q2 0 x[0] (List.getElem?_eq_getElem hx0)
        rw [Nat.zero_mul] at this
        have e1 : (a.add 0).add 0 = a.add 0:=by simp [Addr.add]
        rw [e1] at this
        exact spot_none this
       have hels : ∀ (n : Nat),n ≤ len → ∃ es : List (List AV),es.length = n ∧ RepE (memOf w) E a.block (a.off + (len - n) * P.cellsOf e) (P.cellsOf e) es ∧ (∀ cs ∈ es,cs.length = P.cellsOf e ∧ Shp P fuel e cs) ∧ (es.map fun cs=>1 + cnt P fuel e cs).sum ≤ ((elems.drop (len - n)).map fun x=>bk x.1).sum:=by
        intro n
        induction n with
        | zero=>intro _;exact ⟨[],rfl,.nil _ _ _,by simp,by simp⟩
        | succ n ihn=>
         intro hn
         obtain ⟨es,e1,e2,e3,e4⟩:=ihn (by omega)
         have hi : len - (n + 1) < len:=by omega
         obtain ⟨b,hb,hget⟩:=g1 (len - (n + 1)) (len - (n + 1)) (by simp [hi])
         obtain ⟨x,hx,htr⟩:=Option.bind_eq_some_iff.1 hb
         obtain ⟨q1,q2⟩:=cells_get hx
         obtain ⟨as,r1,r2,r3⟩:=ih e x b.1 b.2 (by simpa [kidB,hu] using hkd) htr (hw0.2 b (List.mem_of_getElem? hget))
         have hal : as.length = P.cellsOf e:=by rw [← r1.length,q1]
         have hm : RepM (memOf w) E a.block (a.off + (len - (n + 1)) * P.cellsOf e) as:=repM_of r1 (fun j v hj=>by
          have:=q2 j v hj
          rw [addr_eq (hspot (by omega))] at this
          rwa [Addr.add_lit] at this)
         refine ⟨as :: es,by simp [e1],.cons _ _ _ _ _ hal hm ?_,fun cs hcs=>?_,?_⟩
         ·rw [show a.off + (len - (n + 1)) * P.cellsOf e + P.cellsOf e = a.off + (len - n) * P.cellsOf e by
           rw [show len - n = len - (n + 1) + 1 by omega,Nat.add_mul];omega]
          exact e2
         ·rcases List.mem_cons.1 hcs with rfl | hcs
          ·exact ⟨hal,r2⟩
          ·exact e3 cs hcs
         ·have hil:=(List.getElem?_eq_some_iff.1 hget).1
          have hd : elems.drop (len - (n + 1)) = b :: elems.drop (len - n):=by
           rw [List.drop_eq_getElem_cons hil,show len - (n + 1) + 1 = len - n by omega]
           congr 1
           rw [List.getElem?_eq_getElem hil] at hget
           exact Option.some.inj hget
          rw [hd]
          simp only [List.map_cons,List.sum_cons]
          omega
       obtain ⟨es,e1,e2,e3,e4⟩:=hels len (Nat.le_refl _)
       rw [Nat.sub_self,Nat.zero_mul,Nat.add_zero] at e2
       refine ⟨[.lst (P.cellsOf e) es],.cons _ _ _ _ (.lst _ es a.block a.off len cap a e2 e1.symm hb2 (fun hpos=>?_)) .nil,?_,?_⟩
       ·have:=hspot hpos
        cases a;simp_all
       ·simp only [Shp,hu]
        refine .inr (.inr ⟨es,rfl,?_,e3⟩)
        have : es.length * P.bytesOf e ≤ (elems.length + rest.length) * P.bytesOf e:=Nat.mul_le_mul_right _ (by omega)
        omega
       ·simp only [cnt,hu]
        rw [Nat.sub_self,List.drop_zero] at e4
        refine Nat.le_trans (Nat.add_le_add_left e4 1) (Nat.le_trans (Nat.le_of_eq ?_) (hsl _ _))
        rw [List.map_map];rfl
     ·cases h
   | struct fs=>
    simp only [DataW.trod,hu] at h
    split at h
    ·rename_i hlen
     simp only [Option.map_eq_some_iff] at h
     obtain ⟨xs,hxs,heq⟩:=h
     cases heq
     obtain ⟨l1,g1⟩:=mapM_some_iff hxs
     unfold layB at hlt
     simp only [hu] at hlt
     have hwf : ∀ (i : Nat) (f : Field) (x : DataW H × List MemPlace),fs.toList[i]? = some f → xs[i]? = some x → (x.1.weights P f.type).all (· ≤ reachBytes) = true:=by
      simp only [DataW.weights,hu] at hwt
      generalize fs.toList = fl at *
      clear g1 hxs hlt l1 other
      induction fl generalizing xs with
      | nil=>intro i f x hf;simp at hf
      | cons f0 fl ihf=>
       intro i f x hf hx
       cases xs with
       | nil=>simp at hx
       | cons x0 xs=>
        simp only [List.map_cons,DataW.weightsEach,List.all_append,Bool.and_eq_true] at hwt
        cases i with
        | zero=>simp at hf hx;subst hf;subst hx;exact hwt.1
        | succ i=>exact ihf xs hwt.2 i f x (by simpa using hf) (by simpa using hx)
     have key : ∀ (fl : List Field) (xl : List (DataW H × List MemPlace)) (off : Nat),contig P fl off (P.cellsOf t) = true → off ≤ cs.length → xl.length = fl.length → (∀ (i : Nat) (f : Field) x,fl[i]? = some f → xl[i]? = some x → DataW.trod enc P w 0 spare held fuel f.type ((cs.drop f.offset).take (P.cellsOf f.type)) = some x ∧ (x.1.weights P f.type).all (· ≤ reachBytes) = true ∧ f.type < N) →
       ∃ as,RepL (memOf w) E as (cs.drop off) ∧ (∀ f ∈ fl,off ≤ f.offset ∧ Shp P fuel f.type ((as.drop (f.offset - off)).take (P.cellsOf f.type))) ∧ (fl.map fun f=>cnt P fuel f.type ((as.drop (f.offset - off)).take (P.cellsOf f.type))).sum ≤ (xl.map fun x=>bk x.1).sum:=by
      intro fl
      induction fl with
      | nil=>intro xl off _ _ _ _;exact ⟨_,repL_undef _,by simp,by simp⟩
      | cons f fl ihf=>
       intro xl off hc hoff hxl hall
       cases xl with
       | nil=>simp at hxl
       | cons x xl=>
       simp only [contig,Bool.and_eq_true,beq_iff_eq] at hc
       obtain ⟨hfo,hc⟩:=hc
       obtain ⟨hx,hxw,hfN⟩:=hall 0 f x rfl rfl
       obtain ⟨as1,r1,r2,r3⟩:=ih f.type _ x.1 x.2 hfN hx hxw
       have hle : off + P.cellsOf f.type ≤ cs.length:=by
        have : ∀ (fl : List Field) (o : Nat),contig P fl o (P.cellsOf t) = true → o ≤ P.cellsOf t:=by
         intro fl
         induction fl with
         | nil=>intro o h;simp [contig] at h;omega
         | cons g gl ihg=>intro o h;simp only [contig,Bool.and_eq_true] at h;have:=ihg _ h.2;omega
        have:=this fl _ hc
        omega
       obtain ⟨as2,q1,q2,q3⟩:=ihf xl _ hc hle (by simpa using hxl) (fun i g y hg hy=>hall (i + 1) g y (by simpa using hg) (by simpa using hy))
       have hl1 : as1.length = P.cellsOf f.type:=by
        have:=r1.length
        simp at this
        omega
       have hat1 : ((as1 ++ as2).drop (f.offset - off)).take (P.cellsOf f.type) = as1:=by
        rw [hfo,Nat.sub_self,List.drop_zero,List.take_append_of_le_length (by omega),List.take_of_length_le (by omega)]
       have hat2 : ∀ g ∈ fl,(as1 ++ as2).drop (g.offset - off) = as2.drop (g.offset - (off + P.cellsOf f.type)):=fun g hg=>by
        have:=(q2 g hg).1
        rw [show g.offset - off = as1.length + (g.offset - (off + P.cellsOf f.type)) by omega,List.drop_length_add_append]
       refine ⟨as1 ++ as2,?_,fun g hg=>?_,?_⟩
       ·have e : cs.drop off = (cs.drop f.offset).take (P.cellsOf f.type) ++ cs.drop (off + P.cellsOf f.type):=by
         rw [hfo,← List.drop_drop]
         exact (List.take_append_drop _ _).symm
        rw [e]
        exact repL_append r1 q1
       ·rcases List.mem_cons.1 hg with rfl | hg
        ·refine ⟨by omega,?_⟩
         rw [hfo,Nat.sub_self,List.drop_zero,List.take_append_of_le_length (by omega),List.take_of_length_le (by omega)]
         exact r2
        ·obtain ⟨w1,w2⟩:=q2 g hg
         refine ⟨by omega,?_⟩
         rw [show g.offset - off = as1.length + (g.offset - (off + P.cellsOf f.type)) by omega,List.drop_length_add_append]
         exact w2
       ·simp only [List.map_cons,List.sum_cons,hat1]
        have : (fl.map fun g=>cnt P fuel g.type (((as1 ++ as2).drop (g.offset - off)).take (P.cellsOf g.type))) = fl.map fun g=>cnt P fuel g.type ((as2.drop (g.offset - (off + P.cellsOf f.type))).take (P.cellsOf g.type)):=List.map_congr_left fun g hg=>by rw [hat2 g hg]
        rw [this]
        omega
     obtain ⟨as,r1,r2,r3⟩:=key fs.toList xs 0 hlt (Nat.zero_le _) l1 (fun i f y hf hy=>by
      obtain ⟨x,hx,hxi⟩:=g1 i f hf
      obtain rfl : y = x:=by rw [hy] at hxi;exact Option.some.inj hxi
      exact ⟨hx,hwf i f y hf hxi,by
       have hk:=hkd
       simp only [kidB,hu,List.all_eq_true,decide_eq_true_eq] at hk
       exact hk f (List.mem_of_getElem? hf)⟩)
     rw [List.drop_zero] at r1
     refine ⟨as,r1,?_,?_⟩
     ·simp only [Shp,hu]
      refine ⟨by have:=r1.length;omega,fun f hf=>?_⟩
      have:=(r2 f hf).2
      rwa [Nat.sub_zero] at this
     ·simp only [cnt,hu]
      refine Nat.le_trans (Nat.add_le_add_left (Nat.le_trans (Nat.le_of_eq ?_) r3) 1) (Nat.le_trans (Nat.le_of_eq ?_) (hag _))
      ·simp only [Nat.sub_zero]
      ·rw [List.map_map];rfl
    ·cases h
   | _=>exact other (fun as=>by simp [Shp,cnt,hu])
end
end Go.Ev
