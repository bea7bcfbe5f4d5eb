import Derived.Test.YtjlmgabhhodhfaaGreatDoorY17Y19
import Derived.Test.YtjlmgabhhodhfaaGreatDoorZ3Z4
import Derived.Test.YtjlmgabhhodhfaaGreatDoorZ6
set_option linter.unusedVariables false
set_option linter.unusedSimpArgs false
set_option maxRecDepth 100000
namespace Go.Proofs.T
open Go.Ev
def mEnt (l : List (Int × AV × Nat)) : List (AV × AV × Nat):=l.map fun e=>(.int .i64 e.1,e.2.1,e.2.2)
theorem eqKey_int (a b : Int) : eqKey (.int .i64 a) (.int .i64 b) = decide (a = b):=by simp [eqKey]
theorem ment_keys (l : List (Int × AV × Nat)) : (mEnt l).all (fun e=>(keyOk Tryz.prog 3 e.1).isSome) = true:=by
 simp [mEnt,key3]
theorem ment_one (z : Int) : ∀ (l : List (Int × AV × Nat)),(l.map (·.1)).Nodup → oneW (.int .i64 z) (mEnt l) = true
 | [],_=>rfl
 | e :: l,h=>by
  simp only [List.map_cons,List.nodup_cons] at h
  have ih:=ment_one z l h.2
  simp only [mEnt,List.map_cons,oneW,eqKey_int] at ih ⊢
  by_cases he : e.1 = z
  ·simp only [he,decide_true,if_true]
   simp only [List.all_map,List.all_eq_true]
   intro e' he'
   have : e'.1 ≠ z:=fun hz=>h.1 (by rw [he,← hz];exact List.mem_map_of_mem he')
   simp [Function.comp,eqKey_int,this]
  ·simpa [he] using ih
theorem ment_find (z : Int) : ∀ (l : List (Int × AV × Nat)) (i : Nat),(findW (.int .i64 z) (mEnt l) i = none ∧ ∀ e ∈ l,e.1 ≠ z) ∨ ∃ j x n,findW (.int .i64 z) (mEnt l) i = some (j,x,n) ∧ (z,x,n) ∈ l
 | [],i=>.inl ⟨rfl,fun e he=>by cases he⟩
 | e :: l,i=>by
  by_cases he : e.1 = z
  ·refine .inr ⟨i,e.2.1,e.2.2,?_,?_⟩
   ·simp [mEnt,findW,eqKey_int,he]
   ·rw [← he];exact List.mem_cons_self
  ·have e1 : findW (.int .i64 z) (mEnt (e :: l)) i = findW (.int .i64 z) (mEnt l) (i + 1):=by simp [mEnt,findW,eqKey_int,he]
   rcases ment_find z l (i + 1) with ⟨h1,h2⟩ | ⟨j,x,n,h1,h2⟩
   ·exact .inl ⟨e1.trans h1,fun e' he'=>(List.mem_cons.1 he').elim (fun q=>q ▸ he) (h2 _)⟩
   ·exact .inr ⟨j,x,n,e1.trans h1,List.mem_cons_of_mem _ h2⟩
def MapR (G : Heap) (mb : Nat) (LF : List (List AV)) : Prop:=∃ (l : List (Int × AV × Nat)) (cl : Nat),G.blk mb = some (.map (mEnt l) cl) ∧ (l.map (·.1)).Nodup ∧
 ∀ e ∈ l,∃ (f : Nat) (nm : List Nat) (P S : Int) (v : AV) (L : List (List AV)),e.1 = (f : Int) ∧ LF[f]? = some [.str nm,.int .i64 P,.int .i64 S,v] ∧ (∀ H,Holds H 9 v L) ∧ rowOf e.2.1 ≠ some mb ∧ e.2.1.isUndef = false ∧ ∀ G' : Heap,(∀ b y,rowOf e.2.1 = some b → G.blk b = some y → G'.blk b = some y) → Holds G' 1 e.2.1 (intCells (htsL L))
theorem MapR.up {G G' : Heap} {mb : Nat} {LF : List (List AV)} (h : MapR G mb LF) (hu : Up G G') : MapR G' mb LF:=by
 obtain ⟨l,cl,h1,h2,h3⟩:=h
 refine ⟨l,cl,hu _ _ h1,h2,fun e he=>?_⟩
 obtain ⟨f,nm,P,S,v,L,a1,a2,a3,a4,a5,a6⟩:=h3 e he
 exact ⟨f,nm,P,S,v,L,a1,a2,a3,a4,a5,fun K hK=>a6 K fun b y hb hy=>hK b y hb (hu _ _ hy)⟩
theorem mapR_nil {G : Heap} {mb : Nat} {LF : List (List AV)} (h : G.blk mb = some (.map [] 0)) : MapR G mb LF:=⟨[],0,h,List.nodup_nil,fun e he=>by cases he⟩
theorem lk132 {G : Heap} {mb : Nat} {l : List (Int × AV × Nat)} {cl : Nat} (hm : G.blk mb = some (.map (mEnt l) cl)) (hn : (l.map (·.1)).Nodup) (z : Int) :
  ((∀ e ∈ l,e.1 ≠ z) ∧ evLook Tryz.prog G 132 (.map mb) (.int .i64 z) true = some (.tuple [.nilslice,.bool false]) ∧ ∀ x,evMapUpd Tryz.prog G 132 (.map mb) (.int .i64 z) x = some (G.set mb (.map (mEnt (l ++ [(z,x,cl)])) (cl + 1)))) ∨
  ∃ x n,(z,x,n) ∈ l ∧ evLook Tryz.prog G 132 (.map mb) (.int .i64 z) true = some (.tuple [x,.bool true]) ∧ evLook Tryz.prog G 132 (.map mb) (.int .i64 z) false = some x:=by
 have h1:=ment_keys l
 have h2:=ment_one z l hn
 rcases ment_find z l 0 with ⟨h3,h4⟩ | ⟨j,x,n,h3,h4⟩
 ·refine .inl ⟨h4,?_,fun x=>?_⟩
  ·simp only [evLook,evLookupW,und132,wide3,key3,hm,h1,h2,h3,ze29,Option.isSome_some,and_self,if_true,Option.map_some]
  ·simp only [evMapUpd,evMapUpdateW,und132,wide3,key3,hm,h1,h2,h3,Option.isSome_some,and_self,if_true]
   simp [mEnt]
 ·refine .inr ⟨x,n,h4,?_,?_⟩
  ·simp only [evLook,evLookupW,und132,wide3,key3,hm,h1,h2,h3,Option.isSome_some,and_self,if_true]
  ·simp only [evLook,evLookupW,und132,wide3,key3,hm,h1,h2,h3,Option.isSome_some,and_self,if_true,Bool.false_eq_true,if_false]
end Go.Proofs.T
set_option linter.unusedVariables false
set_option linter.unusedSimpArgs false
set_option maxRecDepth 100000
namespace Go.Proofs.T
open Go.Ev
open Nat (reduceMul reducePow reduceSub reduceEqDiff reduceLT reduceAdd reduceLeDiff)
open UInt8 (reduceToNat)
theorem mapR_add {H H2 : Heap} {mb fn : Nat} {LF L : List (List AV)} {l : List (Int × AV × Nat)} {cl : Nat} {nm : List Nat} {P S : Int} {v u : AV} (hm2 : H2.blk mb = some (.map (mEnt l) cl)) (hn : (l.map (·.1)).Nodup)
  (h3 : ∀ e ∈ l,∃ (f : Nat) (nm : List Nat) (P S : Int) (v : AV) (L : List (List AV)),e.1 = (f : Int) ∧ LF[f]? = some [.str nm,.int .i64 P,.int .i64 S,v] ∧ (∀ H,Holds H 9 v L) ∧ rowOf e.2.1 ≠ some mb ∧ e.2.1.isUndef = false ∧ ∀ G' : Heap,(∀ b y,rowOf e.2.1 = some b → H2.blk b = some y → G'.blk b = some y) → Holds G' 1 e.2.1 (intCells (htsL L)))
  (hne : ∀ e ∈ l,e.1 ≠ (fn : Int)) (hc : LF[fn]? = some [.str nm,.int .i64 P,.int .i64 S,v]) (hv : ∀ H,Holds H 9 v L) (hO : Own H H2 3 1 u (intCells (htsL L))) (hnu : rowOf u ≠ some mb) :
  MapR (H2.set mb (.map (mEnt (l ++ [((fn : Int),u,cl)])) (cl + 1))) mb LF:=by
 refine ⟨_,_,Heap.set_same _ _ _,?_,fun e he=>?_⟩
 ·rw [List.map_append,List.nodup_append]
  refine ⟨hn,by simp,fun x hx y hy=>?_⟩
  obtain ⟨e,he,rfl⟩:=List.mem_map.1 hx
  simp only [List.map_cons,List.map_nil,List.mem_singleton] at hy
  exact hy ▸ hne e he
 ·rcases List.mem_append.1 he with h | h
  ·obtain ⟨f,nm',P',S',v',L',a1,a2,a3,a4,a5,a6⟩:=h3 e h
   exact ⟨f,nm',P',S',v',L',a1,a2,a3,a4,a5,fun K hK=>a6 K fun b y hb hy=>hK b y hb (by rw [Heap.set_other _ _ _ (fun q=>a4 (by rw [hb,q]))];exact hy)⟩
  ·simp only [List.mem_singleton] at h
   subst h
   exact ⟨fn,nm,P,S,v,L,rfl,hc,hv,hnu,(own_plain hO).1,fun K hK=>(own_keep hO fun b y hb hy=>hK b y hb (by rw [Heap.set_other _ _ _ (fun q=>hnu (by rw [hb,q]))];exact hy)).holds⟩
set_option maxHeartbeats 8000000 in
theorem f147_ok {n fn : Nat} {vF vG vI vH v : AV} {nm : List Nat} {P S : Int} {LF L : List (List AV)} (hFv : ∀ H,Holds H 4 vF LF) (hc : LF[fn]? = some [.str nm,.int .i64 P,.int .i64 S,v]) (hv : ∀ H,Holds H 9 v L) (hL : ∀ c ∈ L,InsT n c) (hj : ∀ c ∈ L,JmpOk c) (hn0 : 1 ≤ L.length) (hn : L.length ≤ 10000) (hFi : FineL L) (bx mb : Nat) (H : Heap) (hF : Free H) (hx : H.blk bx = some (.row 134 5 [[vF,vG,vI,vH,.map mb]] 0 0)) (hm : MapR H mb LF) (at_ : Int) (K : AV → Heap → Prop) (hK : ∀ H',Up (hbut H (some mb)) H' → Free H' → MapR H' mb LF → K (.int .i64 (hgtB L at_)) H') : WF Tryz.prog 147 [.ptr bx 0 0 0,.int .i64 (fn : Int),.int .i64 at_] H K:=by
 have hix:=idx22 hFv hc
 obtain ⟨l,cl,hm0,hnd,hen⟩:=hm
 have hne : bx ≠ mb:=fun e=>by rw [e,hm0] at hx;cases hx
 have hll : (htsL L).length = L.length:=(htsL_ok hFi).1
 refine WF_body Tryz.func147 (by kernel_rfl) rfl Tryz.ntmps147 (by rw [Tryz.results147]) (of_decide_eq_true (by kernel_rfl)) ?_
 rcases lk132 hm0 hnd (fn : Int) with ⟨hno,hk1,hk2⟩ | ⟨x,g,hmem,hk1,hk2⟩
 ·simp (maxSteps:=999999) only [ey,Nat.reduceBEq,reduceEqDiff,reduceLT,reduceCtorEq,reduceAdd,reduceLeDiff,hx,hk1,Bool.not_false]
  refine drawStep [13] [0,1,2,3,4,5,6,7,8,9,10,11,12,13,14] _ rfl (by kernel_rfl) ?_
  simp (maxSteps:=999999) only [ey,Nat.reduceBEq,reduceEqDiff,reduceLT,reduceCtorEq,reduceAdd,reduceLeDiff,hx,hix]
  refine callStep_flag (f242_ok hv hL hj hn hFi H hF _ fun u H2 hU2 hF2 hO=>⟨hU2,?_⟩)
  have hm2:=hU2 _ _ hm0
  have hx2:=hU2 _ _ hx
  obtain ⟨z1,z2,z3⟩:=own_plain hO
  have hnu : rowOf u ≠ some mb:=fun e=>by rw [(own_row hO e).1] at hm0;cases hm0
  have hen2 : ∀ e ∈ l,∃ (f : Nat) (nm : List Nat) (P S : Int) (v : AV) (L : List (List AV)),e.1 = (f : Int) ∧ LF[f]? = some [.str nm,.int .i64 P,.int .i64 S,v] ∧ (∀ H,Holds H 9 v L) ∧ rowOf e.2.1 ≠ some mb ∧ e.2.1.isUndef = false ∧ ∀ G' : Heap,(∀ b y,rowOf e.2.1 = some b → H2.blk b = some y → G'.blk b = some y) → Holds G' 1 e.2.1 (intCells (htsL L)):=fun e he=>by
   obtain ⟨f,nm,P,S,v,L,a1,a2,a3,a4,a5,a6⟩:=hen e he
   exact ⟨f,nm,P,S,v,L,a1,a2,a3,a4,a5,fun K hK=>a6 K fun b y hb hy=>hK b y hb (hU2 _ _ hy)⟩
  have hR:=mapR_add hm2 hnd hen2 hno hc hv hO hnu
  have hk2' : evMapUpd Tryz.prog H2 132 (.map mb) (.int .i64 (fn : Int)) u = some (H2.set mb (.map (mEnt (l ++ [((fn : Int),u,cl)])) (cl + 1))):=by
   rcases lk132 hm2 hnd (fn : Int) with ⟨_,_,q⟩ | ⟨x,g,hmem,_⟩
   ·exact q u
   ·exact absurd rfl (hno _ hmem)
  have hF3 : Free (H2.set mb (.map (mEnt (l ++ [((fn : Int),u,cl)])) (cl + 1))):=hF2.set (hF2.lt hm2) _
  have hx3 : (H2.set mb (.map (mEnt (l ++ [((fn : Int),u,cl)])) (cl + 1))).blk bx = some (.row 134 5 [[vF,vG,vI,vH,.map mb]] 0 0):=by rw [Heap.set_other _ _ _ hne];exact hx2
  have hU3 : Up (hbut H (some mb)) (H2.set mb (.map (mEnt (l ++ [((fn : Int),u,cl)])) (cl + 1))):=fun c x hx=>by
   have hcb : some mb ≠ some c:=fun e=>by simp only [hbut] at hx;rw [if_pos e] at hx;cases hx
   rw [but_blk hcb] at hx
   rw [Heap.set_other _ _ _ (fun e=>hcb (by rw [e]))]
   exact hU2 _ _ hx
  have hh3 : Holds (H2.set mb (.map (mEnt (l ++ [((fn : Int),u,cl)])) (cl + 1))) 1 u (intCells (htsL L)):=(own_keep hO fun b y hb hy=>by rw [Heap.set_other _ _ _ (fun q=>hnu (by rw [hb,q]))];exact hy).holds
  have hk3 : evLook Tryz.prog (H2.set mb (.map (mEnt (l ++ [((fn : Int),u,cl)])) (cl + 1))) 132 (.map mb) (.int .i64 (fn : Int)) false = some u:=by
   have hnd' : ((l ++ [((fn : Int),u,cl)]).map (·.1)).Nodup:=by
    rw [List.map_append,List.nodup_append]
    refine ⟨hnd,by simp,fun x hx y hy=>?_⟩
    obtain ⟨e,he,rfl⟩:=List.mem_map.1 hx
    simp only [List.map_cons,List.map_nil,List.mem_singleton] at hy
    exact hy ▸ hno e he
   rcases lk132 (l:=l ++ [((fn : Int),u,cl)]) (cl:=cl + 1) (Heap.set_same H2 mb _) hnd' (fn : Int) with ⟨q,_⟩ | ⟨x,g,hmem,_,q⟩
   ·exact absurd rfl (q ((fn : Int),u,cl) (List.mem_append_right _ List.mem_cons_self))
   ·rcases List.mem_append.1 hmem with h | h
    ·exact absurd rfl (hno _ h)
    ·simp only [List.mem_singleton,Prod.mk.injEq] at h
     rw [q,h.2.1]
  have hnx : (H2.set mb (.map (mEnt (l ++ [((fn : Int),u,cl)])) (cl + 1))).next = H2.next:=rfl
  generalize H2.set mb (.map (mEnt (l ++ [((fn : Int),u,cl)])) (cl + 1)) = H3 at *
  have hlu : evBuiltin Tryz.prog H3 .len #[29] [u] = some (.int .i64 L.length,H3):=by rw [← hll,← ic_len];exact hh3.lenAt und29 H3
  simp (maxSteps:=999999) only [ey,Nat.reduceBEq,reduceEqDiff,reduceLT,reduceCtorEq,reduceAdd,reduceLeDiff,z1,z2,z3,hk2',hx3,hk3,hlu]
  by_cases c1 : at_ < 0
  ·simp (maxSteps:=999999) only [ey,Nat.reduceBEq,reduceEqDiff,reduceLT,reduceCtorEq,reduceAdd,reduceLeDiff,hx3,hk3,hlu,c1,decide_true]
   have:=hK _ hU3 hF3 hR
   rw [hgtB,if_pos (Or.inl c1)] at this
   exact ⟨.inl hnx,this⟩
  by_cases c2 : at_ ≥ (L.length : Int)
  ·simp (maxSteps:=999999) only [ey,Nat.reduceBEq,reduceEqDiff,reduceLT,reduceCtorEq,reduceAdd,reduceLeDiff,hx3,hk3,hlu,c1,c2]
   have:=hK _ hU3 hF3 hR
   rw [hgtB,if_pos (Or.inr c2)] at this
   exact ⟨.inl hnx,this⟩
  obtain ⟨j,rfl⟩ : ∃ j : Nat,at_ = (j : Int):=⟨at_.toNat,by omega⟩
  obtain ⟨p,hp,hl,_⟩:=hh3.index (P:=Tryz.prog) und29 sz3 .i64 (i:=j) (cs:=[.int .i64 (hat (htsL L) j)]) (ic_at (by omega))
  simp (maxSteps:=999999) only [ey,Nat.reduceBEq,reduceEqDiff,reduceLT,reduceCtorEq,reduceAdd,reduceLeDiff,hx3,hk3,hlu,c1,c2,hp,hl _ (Up.refl _)]
  have:=hK _ hU3 hF3 hR
  rw [hgtB,if_neg (by omega),show ((j : Int)).toNat = j from Int.toNat_natCast j] at this
  exact ⟨.inl hnx,this⟩
 ·obtain ⟨f,nm',P',S',v',L',a1,a2,a3,a4,a5,a6⟩:=hen _ hmem
  obtain rfl : fn = f:=Int.ofNat_inj.1 a1
  obtain rfl : v' = v:=by rw [a2] at hc;simp at hc;exact hc.2.2.2
  obtain rfl : L' = L:=by rw [← itm_eq a3,itm_eq hv]
  have hh3 : Holds H 1 x (intCells (htsL L')):=a6 H fun b y hb hy=>hy
  have hR : MapR H mb LF:=⟨l,cl,hm0,hnd,hen⟩
  have hlu : evBuiltin Tryz.prog H .len #[29] [x] = some (.int .i64 L'.length,H):=by rw [← hll,← ic_len];exact hh3.lenAt und29 H
  have hU3 : Up (hbut H (some mb)) H:=fun c x hx=>by
   have hcb : some mb ≠ some c:=fun e=>by simp only [hbut] at hx;rw [if_pos e] at hx;cases hx
   rw [but_blk hcb] at hx;exact hx
  simp (maxSteps:=999999) only [ey,Nat.reduceBEq,reduceEqDiff,reduceLT,reduceCtorEq,reduceAdd,reduceLeDiff,hx,hk1,Bool.not_true]
  by_cases c1 : at_ < 0
  ·simp (maxSteps:=999999) only [ey,Nat.reduceBEq,reduceEqDiff,reduceLT,reduceCtorEq,reduceAdd,reduceLeDiff,hx,hk2,hlu,c1,decide_true]
   have:=hK _ hU3 hF hR
   rw [hgtB,if_pos (Or.inl c1)] at this
   exact this
  by_cases c2 : at_ ≥ (L'.length : Int)
  ·simp (maxSteps:=999999) only [ey,Nat.reduceBEq,reduceEqDiff,reduceLT,reduceCtorEq,reduceAdd,reduceLeDiff,hx,hk2,hlu,c1,c2]
   have:=hK _ hU3 hF hR
   rw [hgtB,if_pos (Or.inr c2)] at this
   exact this
  obtain ⟨j,rfl⟩ : ∃ j : Nat,at_ = (j : Int):=⟨at_.toNat,by omega⟩
  obtain ⟨p,hp,hl,_⟩:=hh3.index (P:=Tryz.prog) und29 sz3 .i64 (i:=j) (cs:=[.int .i64 (hat (htsL L') j)]) (ic_at (by omega))
  simp (maxSteps:=999999) only [ey,Nat.reduceBEq,reduceEqDiff,reduceLT,reduceCtorEq,reduceAdd,reduceLeDiff,hx,hk2,hlu,c1,c2,hp,hl _ (Up.refl _)]
  have:=hK _ hU3 hF hR
  rw [hgtB,if_neg (by omega),show ((j : Int)).toNat = j from Int.toNat_natCast j] at this
  exact this
theorem up_but {A B C : Heap} {o : Option Nat} (h : Up A B) (k : Up (hbut B o) C) : Up (hbut A o) C:=but_trans (but_up.trans h) k
set_option maxHeartbeats 16000000 in
theorem f148_ok {n fn : Nat} {vF vG vI vH v vs vt vm : AV} {nm : List Nat} {P S p : Int} {LF L Ls : List (List AV)} (hFv : ∀ H,Holds H 4 vF LF) (hFC : ∀ c ∈ LF,FunC c) (hc : LF[fn]? = some [.str nm,.int .i64 P,.int .i64 S,v]) (hv : ∀ H,Holds H 9 v L) (hL : ∀ c ∈ L,InsT n c) (hj : ∀ c ∈ L,JmpOk c) (hn0 : 1 ≤ L.length) (hn : L.length ≤ 10000) (hFi : FineL L) (hsv : ∀ H,Holds H 5 vs Ls) (ct : vt.isCell = true) (cm : vm.isCell = true) {inner : Bool} {c : List AV} (hM : MrkT n c) (bx mb : Nat) (H : Heap) (hF : Free H) (hx : H.blk bx = some (.row 134 5 [[vF,vG,vI,vH,.map mb]] 0 0)) (hm : MapR H mb LF) (K : AV → Heap → Prop) (hK : ∀ H',Up (hbut H (some mb)) H' → Free H' → MapR H' mb LF → K (.bool (markB LF L Ls.length inner c)) H') : WF Tryz.prog 148 [.ptr bx 0 0 0,.agg [.int .i64 (fn : Int),.int .i64 p,vs,vt,vm],.agg c,.bool inner] H K:=by
 have hls : ∀ G,evBuiltin Tryz.prog G .len #[24] [vs] = some (.int .i64 Ls.length,G):=fun G=>(hsv G).lenAt und24 G
 have cs:=holds_cell (hsv H)
 obtain ⟨k,t,s,h,vu,Lu,a0,a1,a2,a3,a4,rfl,hu,hLu,nLu,hV⟩:=hM
 have hlu : ∀ G,evBuiltin Tryz.prog G .len #[90] [vu] = some (.int .i64 Lu.length,G):=fun G=>(hu G).lenAt und90 G
 have cu:=holds_cell (hu H)
 have hVc:=hV.cells
 simp only [List.all_cons,List.all_nil,Bool.and_true,Bool.and_eq_true] at hVc
 obtain ⟨i0,i1,i2,i3,i4⟩:=hVc
 cases z1 : (t == 0) with
 | false=>
  refine WF_body Tryz.func148 (by kernel_rfl) rfl Tryz.ntmps148 (by rw [Tryz.results148]) (of_decide_eq_true (by kernel_rfl)) ?_
  simp (maxSteps:=999999) only [ey,Nat.reduceBEq,reduceEqDiff,reduceLT,reduceCtorEq,reduceAdd,reduceLeDiff,hF.at,hF.hp,cs,ct,cm,cu,i0,i1,i2,i3,i4,z1]
  generalize hH1 : HP H [Blk.row 55 5 [[.int .i64 (fn : Int),.int .i64 p,vs,vt,vm]] 0 0,Blk.row 92 10 [[.int .i64 k,.int .i64 t,.int .i64 s,.int .i64 h,vu,a0,a1,a2,a3,a4]] 0 0] = H1
  have b0 : H1.blk H.next = some (.row 55 5 [[.int .i64 (fn : Int),.int .i64 p,vs,vt,vm]] 0 0):=by rw [← hH1,hp_blk0];rfl
  have b1 : H1.blk (H.next + 1) = some (.row 92 10 [[.int .i64 k,.int .i64 t,.int .i64 s,.int .i64 h,vu,a0,a1,a2,a3,a4]] 0 0):=by rw [← hH1,hp_blk];rfl
  have hF1 : Free H1:=hH1 ▸ hF.hpF _
  have hU1 : Up H H1:=hH1 ▸ hF.hpU _
  refine callStep (f158_zero hV H1 hF1 _ fun H2 hU2 hF2=>?_)
  have k0:=hU2 _ _ b0
  have k1:=hU2 _ _ b1
  have hU02:=hU1.trans hU2
  have hx2:=hU02 _ _ hx
  have hm2:=hm.up hU02
  cases e3 : (h == 0) with
  | false=>
   simp (maxSteps:=999999) only [ey,Nat.reduceBEq,reduceEqDiff,reduceLT,reduceCtorEq,reduceAdd,reduceLeDiff,k0,k1,show (h != 0) = true from by rw [bne,e3];rfl]
   have:=hK _ (but_up.trans hU02) hF2 hm2
   rw [mark_eq LF L _ _ hu,e3,Bool.false_and] at this
   exact this
  | true=>
  have e3n : (h != 0) = false:=by rw [bne,e3];rfl
  by_cases k1' : k = 1
  ·subst k1'
   simp (maxSteps:=999999) only [ey,Nat.reduceBEq,reduceEqDiff,reduceLT,reduceCtorEq,reduceAdd,reduceLeDiff,k0,k1,e3n,Int.reduceBEq]
   refine callStep (f147_ok hFv hc hv hL hj hn0 hn hFi bx mb H2 hF2 hx2 hm2 t _ fun H3 hU3 hF3 hm3=>?_)
   have hU03:=up_but hU02 hU3
   have hne : ∀ b x,H2.blk b = some x → (∀ l c,x ≠ .map l c) → H3.blk b = some x:=fun b x hb hx=>hU3 _ _ (by
    rw [but_blk (fun e=>?_)];exact hb
    cases e
    obtain ⟨l,cl,hq,_⟩:=hm2
    rw [hq] at hb
    cases hb
    exact hx _ _ rfl)
   have g0:=hne _ _ k0 (fun _ _=>by simp)
   have g1:=hne _ _ k1 (fun _ _=>by simp)
   cases e4 : (hgtB L t == 0) with
   | false=>
    simp (maxSteps:=999999) only [ey,Nat.reduceBEq,reduceEqDiff,reduceLT,reduceCtorEq,reduceAdd,reduceLeDiff,g0,g1,e4]
    have:=hK _ hU03 hF3 hm3
    rw [mark_eq LF L _ _ hu,e3,Bool.true_and,if_pos rfl,e4,Bool.false_and,Bool.false_and,Bool.false_and,Bool.false_and] at this
    exact this
   | true=>
   by_cases c5 : s ≥ 0
   ·by_cases c6 : s < (Ls.length : Int)
    ·cases e7 : ((Lu.length : Int) == 0) with
     | false=>
      simp (maxSteps:=999999) only [ey,Nat.reduceBEq,reduceEqDiff,reduceLT,reduceCtorEq,reduceAdd,reduceLeDiff,g0,g1,e4,hls,c5,c6,hlu,e7]
      have:=hK _ hU03 hF3 hm3
      rw [mark_eq LF L _ _ hu,e3,Bool.true_and,if_pos rfl,e4,decide_eq_true c5,decide_eq_true c6,e7,Bool.and_false,Bool.false_and] at this
      exact this
     | true=>
      simp (maxSteps:=999999) only [ey,Nat.reduceBEq,reduceEqDiff,reduceLT,reduceCtorEq,reduceAdd,reduceLeDiff,g0,g1,e4,hls,c5,c6,hlu,e7]
      have:=hK _ hU03 hF3 hm3
      rw [mark_eq LF L _ _ hu,e3,Bool.true_and,if_pos rfl,e4,decide_eq_true c5,decide_eq_true c6,e7] at this
      exact this
    ·skip
     simp (maxSteps:=999999) only [ey,Nat.reduceBEq,reduceEqDiff,reduceLT,reduceCtorEq,reduceAdd,reduceLeDiff,g0,g1,e4,hls,c5,c6]
     have:=hK _ hU03 hF3 hm3
     rw [mark_eq LF L _ _ hu,e3,Bool.true_and,if_pos rfl,e4,decide_eq_true c5,decide_eq_false c6,Bool.and_false,Bool.false_and,Bool.false_and] at this
     exact this
   ·skip
    simp (maxSteps:=999999) only [ey,Nat.reduceBEq,reduceEqDiff,reduceLT,reduceCtorEq,reduceAdd,reduceLeDiff,g0,g1,e4,hls,c5]
    have:=hK _ hU03 hF3 hm3
    rw [mark_eq LF L _ _ hu,e3,Bool.true_and,if_pos rfl,e4,decide_eq_false c5,Bool.and_false,Bool.false_and,Bool.false_and,Bool.false_and] at this
    exact this
  have x1 : (k == 1) = false:=by simpa using k1'
  by_cases k2' : k = 2
  ·subst k2'
   simp (maxSteps:=999999) only [ey,Nat.reduceBEq,reduceEqDiff,reduceLT,reduceCtorEq,reduceAdd,reduceLeDiff,k0,k1,e3n,x1,Int.reduceBEq]
   have:=hK _ (but_up.trans hU02) hF2 (hm.up hU02)
   rw [mark_eq LF L _ _ hu,e3,Bool.true_and,if_neg (by decide),if_pos rfl,z1,Bool.false_and,Bool.false_and,Bool.false_and] at this
   exact this
  have x2 : (k == 2) = false:=by simpa using k2'
  by_cases k3' : k = 3
  ·subst k3'
   simp (maxSteps:=999999) only [ey,Nat.reduceBEq,reduceEqDiff,reduceLT,reduceCtorEq,reduceAdd,reduceLeDiff,k0,k1,e3n,x1,x2,Int.reduceBEq]
   have:=hK _ (but_up.trans hU02) hF2 (hm.up hU02)
   rw [mark_eq LF L _ _ hu,e3,Bool.true_and,if_neg (by decide),if_neg (by decide),if_pos rfl,z1,Bool.false_and,Bool.false_and,Bool.false_and] at this
   exact this
  have x3 : (k == 3) = false:=by simpa using k3'
  simp (maxSteps:=999999) only [ey,Nat.reduceBEq,reduceEqDiff,reduceLT,reduceCtorEq,reduceAdd,reduceLeDiff,k0,k1,e3n,x1,x2,x3]
  have:=hK _ (but_up.trans hU02) hF2 (hm.up hU02)
  rw [mark_eq LF L _ _ hu,e3,Bool.true_and,if_neg k1',if_neg k2',if_neg k3'] at this
  exact this
 | true=>
 cases z2 : (s == 0) with
 | false=>
  refine WF_body Tryz.func148 (by kernel_rfl) rfl Tryz.ntmps148 (by rw [Tryz.results148]) (of_decide_eq_true (by kernel_rfl)) ?_
  simp (maxSteps:=999999) only [ey,Nat.reduceBEq,reduceEqDiff,reduceLT,reduceCtorEq,reduceAdd,reduceLeDiff,hF.at,hF.hp,cs,ct,cm,cu,i0,i1,i2,i3,i4,z1,z2]
  generalize hH1 : HP H [Blk.row 55 5 [[.int .i64 (fn : Int),.int .i64 p,vs,vt,vm]] 0 0,Blk.row 92 10 [[.int .i64 k,.int .i64 t,.int .i64 s,.int .i64 h,vu,a0,a1,a2,a3,a4]] 0 0] = H1
  have b0 : H1.blk H.next = some (.row 55 5 [[.int .i64 (fn : Int),.int .i64 p,vs,vt,vm]] 0 0):=by rw [← hH1,hp_blk0];rfl
  have b1 : H1.blk (H.next + 1) = some (.row 92 10 [[.int .i64 k,.int .i64 t,.int .i64 s,.int .i64 h,vu,a0,a1,a2,a3,a4]] 0 0):=by rw [← hH1,hp_blk];rfl
  have hF1 : Free H1:=hH1 ▸ hF.hpF _
  have hU1 : Up H H1:=hH1 ▸ hF.hpU _
  refine callStep (f158_zero hV H1 hF1 _ fun H2 hU2 hF2=>?_)
  have k0:=hU2 _ _ b0
  have k1:=hU2 _ _ b1
  have hU02:=hU1.trans hU2
  have hx2:=hU02 _ _ hx
  have hm2:=hm.up hU02
  cases e3 : (h == 0) with
  | false=>
   simp (maxSteps:=999999) only [ey,Nat.reduceBEq,reduceEqDiff,reduceLT,reduceCtorEq,reduceAdd,reduceLeDiff,k0,k1,show (h != 0) = true from by rw [bne,e3];rfl]
   have:=hK _ (but_up.trans hU02) hF2 hm2
   rw [mark_eq LF L _ _ hu,e3,Bool.false_and] at this
   exact this
  | true=>
  have e3n : (h != 0) = false:=by rw [bne,e3];rfl
  by_cases k1' : k = 1
  ·subst k1'
   simp (maxSteps:=999999) only [ey,Nat.reduceBEq,reduceEqDiff,reduceLT,reduceCtorEq,reduceAdd,reduceLeDiff,k0,k1,e3n,Int.reduceBEq]
   refine callStep (f147_ok hFv hc hv hL hj hn0 hn hFi bx mb H2 hF2 hx2 hm2 t _ fun H3 hU3 hF3 hm3=>?_)
   have hU03:=up_but hU02 hU3
   have hne : ∀ b x,H2.blk b = some x → (∀ l c,x ≠ .map l c) → H3.blk b = some x:=fun b x hb hx=>hU3 _ _ (by
    rw [but_blk (fun e=>?_)];exact hb
    cases e
    obtain ⟨l,cl,hq,_⟩:=hm2
    rw [hq] at hb
    cases hb
    exact hx _ _ rfl)
   have g0:=hne _ _ k0 (fun _ _=>by simp)
   have g1:=hne _ _ k1 (fun _ _=>by simp)
   cases e4 : (hgtB L t == 0) with
   | false=>
    simp (maxSteps:=999999) only [ey,Nat.reduceBEq,reduceEqDiff,reduceLT,reduceCtorEq,reduceAdd,reduceLeDiff,g0,g1,e4]
    have:=hK _ hU03 hF3 hm3
    rw [mark_eq LF L _ _ hu,e3,Bool.true_and,if_pos rfl,e4,Bool.false_and,Bool.false_and,Bool.false_and,Bool.false_and] at this
    exact this
   | true=>
   by_cases c5 : s ≥ 0
   ·by_cases c6 : s < (Ls.length : Int)
    ·cases e7 : ((Lu.length : Int) == 0) with
     | false=>
      simp (maxSteps:=999999) only [ey,Nat.reduceBEq,reduceEqDiff,reduceLT,reduceCtorEq,reduceAdd,reduceLeDiff,g0,g1,e4,hls,c5,c6,hlu,e7]
      have:=hK _ hU03 hF3 hm3
      rw [mark_eq LF L _ _ hu,e3,Bool.true_and,if_pos rfl,e4,decide_eq_true c5,decide_eq_true c6,e7,Bool.and_false,Bool.false_and] at this
      exact this
     | true=>
      simp (maxSteps:=999999) only [ey,Nat.reduceBEq,reduceEqDiff,reduceLT,reduceCtorEq,reduceAdd,reduceLeDiff,g0,g1,e4,hls,c5,c6,hlu,e7]
      have:=hK _ hU03 hF3 hm3
      rw [mark_eq LF L _ _ hu,e3,Bool.true_and,if_pos rfl,e4,decide_eq_true c5,decide_eq_true c6,e7] at this
      exact this
    ·skip
     simp (maxSteps:=999999) only [ey,Nat.reduceBEq,reduceEqDiff,reduceLT,reduceCtorEq,reduceAdd,reduceLeDiff,g0,g1,e4,hls,c5,c6]
     have:=hK _ hU03 hF3 hm3
     rw [mark_eq LF L _ _ hu,e3,Bool.true_and,if_pos rfl,e4,decide_eq_true c5,decide_eq_false c6,Bool.and_false,Bool.false_and,Bool.false_and] at this
     exact this
   ·skip
    simp (maxSteps:=999999) only [ey,Nat.reduceBEq,reduceEqDiff,reduceLT,reduceCtorEq,reduceAdd,reduceLeDiff,g0,g1,e4,hls,c5]
    have:=hK _ hU03 hF3 hm3
    rw [mark_eq LF L _ _ hu,e3,Bool.true_and,if_pos rfl,e4,decide_eq_false c5,Bool.and_false,Bool.false_and,Bool.false_and,Bool.false_and] at this
    exact this
  have x1 : (k == 1) = false:=by simpa using k1'
  by_cases k2' : k = 2
  ·subst k2'
   simp (maxSteps:=999999) only [ey,Nat.reduceBEq,reduceEqDiff,reduceLT,reduceCtorEq,reduceAdd,reduceLeDiff,k0,k1,e3n,x1,Int.reduceBEq]
   have:=hK _ (but_up.trans hU02) hF2 (hm.up hU02)
   rw [mark_eq LF L _ _ hu,e3,Bool.true_and,if_neg (by decide),if_pos rfl,z1,z2,Bool.and_false,Bool.false_and,Bool.false_and] at this
   exact this
  have x2 : (k == 2) = false:=by simpa using k2'
  by_cases k3' : k = 3
  ·subst k3'
   simp (maxSteps:=999999) only [ey,Nat.reduceBEq,reduceEqDiff,reduceLT,reduceCtorEq,reduceAdd,reduceLeDiff,k0,k1,e3n,x1,x2,Int.reduceBEq]
   have:=hK _ (but_up.trans hU02) hF2 (hm.up hU02)
   rw [mark_eq LF L _ _ hu,e3,Bool.true_and,if_neg (by decide),if_neg (by decide),if_pos rfl,z1,z2,Bool.and_false,Bool.false_and,Bool.false_and] at this
   exact this
  have x3 : (k == 3) = false:=by simpa using k3'
  simp (maxSteps:=999999) only [ey,Nat.reduceBEq,reduceEqDiff,reduceLT,reduceCtorEq,reduceAdd,reduceLeDiff,k0,k1,e3n,x1,x2,x3]
  have:=hK _ (but_up.trans hU02) hF2 (hm.up hU02)
  rw [mark_eq LF L _ _ hu,e3,Bool.true_and,if_neg k1',if_neg k2',if_neg k3'] at this
  exact this
 | true=>
 refine WF_body Tryz.func148 (by kernel_rfl) rfl Tryz.ntmps148 (by rw [Tryz.results148]) (of_decide_eq_true (by kernel_rfl)) ?_
 simp (maxSteps:=999999) only [ey,Nat.reduceBEq,reduceEqDiff,reduceLT,reduceCtorEq,reduceAdd,reduceLeDiff,hF.at,hF.hp,cs,ct,cm,cu,i0,i1,i2,i3,i4,z1,z2]
 generalize hH1 : HP H [Blk.row 55 5 [[.int .i64 (fn : Int),.int .i64 p,vs,vt,vm]] 0 0,Blk.row 92 10 [[.int .i64 k,.int .i64 t,.int .i64 s,.int .i64 h,vu,a0,a1,a2,a3,a4]] 0 0] = H1
 have b0 : H1.blk H.next = some (.row 55 5 [[.int .i64 (fn : Int),.int .i64 p,vs,vt,vm]] 0 0):=by rw [← hH1,hp_blk0];rfl
 have b1 : H1.blk (H.next + 1) = some (.row 92 10 [[.int .i64 k,.int .i64 t,.int .i64 s,.int .i64 h,vu,a0,a1,a2,a3,a4]] 0 0):=by rw [← hH1,hp_blk];rfl
 have hF1 : Free H1:=hH1 ▸ hF.hpF _
 have hU1 : Up H H1:=hH1 ▸ hF.hpU _
 refine callStep (f158_zero hV H1 hF1 _ fun H2 hU2 hF2=>?_)
 have k0:=hU2 _ _ b0
 have k1:=hU2 _ _ b1
 have hU02:=hU1.trans hU2
 have hx2:=hU02 _ _ hx
 have hm2:=hm.up hU02
 cases e3 : (h == 0) with
 | false=>
  simp (maxSteps:=999999) only [ey,Nat.reduceBEq,reduceEqDiff,reduceLT,reduceCtorEq,reduceAdd,reduceLeDiff,k0,k1,show (h != 0) = true from by rw [bne,e3];rfl]
  have:=hK _ (but_up.trans hU02) hF2 hm2
  rw [mark_eq LF L _ _ hu,e3,Bool.false_and] at this
  exact this
 | true=>
 have e3n : (h != 0) = false:=by rw [bne,e3];rfl
 by_cases k1' : k = 1
 ·subst k1'
  simp (maxSteps:=999999) only [ey,Nat.reduceBEq,reduceEqDiff,reduceLT,reduceCtorEq,reduceAdd,reduceLeDiff,k0,k1,e3n,Int.reduceBEq]
  refine callStep (f147_ok hFv hc hv hL hj hn0 hn hFi bx mb H2 hF2 hx2 hm2 t _ fun H3 hU3 hF3 hm3=>?_)
  have hU03:=up_but hU02 hU3
  have hne : ∀ b x,H2.blk b = some x → (∀ l c,x ≠ .map l c) → H3.blk b = some x:=fun b x hb hx=>hU3 _ _ (by
   rw [but_blk (fun e=>?_)];exact hb
   cases e
   obtain ⟨l,cl,hq,_⟩:=hm2
   rw [hq] at hb
   cases hb
   exact hx _ _ rfl)
  have g0:=hne _ _ k0 (fun _ _=>by simp)
  have g1:=hne _ _ k1 (fun _ _=>by simp)
  cases e4 : (hgtB L t == 0) with
  | false=>
   simp (maxSteps:=999999) only [ey,Nat.reduceBEq,reduceEqDiff,reduceLT,reduceCtorEq,reduceAdd,reduceLeDiff,g0,g1,e4]
   have:=hK _ hU03 hF3 hm3
   rw [mark_eq LF L _ _ hu,e3,Bool.true_and,if_pos rfl,e4,Bool.false_and,Bool.false_and,Bool.false_and,Bool.false_and] at this
   exact this
  | true=>
  by_cases c5 : s ≥ 0
  ·by_cases c6 : s < (Ls.length : Int)
   ·cases e7 : ((Lu.length : Int) == 0) with
    | false=>
     simp (maxSteps:=999999) only [ey,Nat.reduceBEq,reduceEqDiff,reduceLT,reduceCtorEq,reduceAdd,reduceLeDiff,g0,g1,e4,hls,c5,c6,hlu,e7]
     have:=hK _ hU03 hF3 hm3
     rw [mark_eq LF L _ _ hu,e3,Bool.true_and,if_pos rfl,e4,decide_eq_true c5,decide_eq_true c6,e7,Bool.and_false,Bool.false_and] at this
     exact this
    | true=>
     simp (maxSteps:=999999) only [ey,Nat.reduceBEq,reduceEqDiff,reduceLT,reduceCtorEq,reduceAdd,reduceLeDiff,g0,g1,e4,hls,c5,c6,hlu,e7]
     have:=hK _ hU03 hF3 hm3
     rw [mark_eq LF L _ _ hu,e3,Bool.true_and,if_pos rfl,e4,decide_eq_true c5,decide_eq_true c6,e7] at this
     exact this
   ·skip
    simp (maxSteps:=999999) only [ey,Nat.reduceBEq,reduceEqDiff,reduceLT,reduceCtorEq,reduceAdd,reduceLeDiff,g0,g1,e4,hls,c5,c6]
    have:=hK _ hU03 hF3 hm3
    rw [mark_eq LF L _ _ hu,e3,Bool.true_and,if_pos rfl,e4,decide_eq_true c5,decide_eq_false c6,Bool.and_false,Bool.false_and,Bool.false_and] at this
    exact this
  ·skip
   simp (maxSteps:=999999) only [ey,Nat.reduceBEq,reduceEqDiff,reduceLT,reduceCtorEq,reduceAdd,reduceLeDiff,g0,g1,e4,hls,c5]
   have:=hK _ hU03 hF3 hm3
   rw [mark_eq LF L _ _ hu,e3,Bool.true_and,if_pos rfl,e4,decide_eq_false c5,Bool.and_false,Bool.false_and,Bool.false_and,Bool.false_and] at this
   exact this
 have x1 : (k == 1) = false:=by simpa using k1'
 by_cases k2' : k = 2
 ·subst k2'
  cases e8 : zeroV [a0,a1,a2,a3,a4] with
  | false=>
   simp (maxSteps:=999999) only [ey,Nat.reduceBEq,reduceEqDiff,reduceLT,reduceCtorEq,reduceAdd,reduceLeDiff,k0,k1,e3n,x1,Int.reduceBEq]
   have:=hK _ (but_up.trans hU02) hF2 (hm.up hU02)
   rw [mark_eq LF L _ _ hu,e3,Bool.true_and,if_neg (by decide),if_pos rfl,z1,z2,e8,Bool.and_false,Bool.false_and] at this
   exact this
  | true=>
   simp (maxSteps:=999999) only [ey,Nat.reduceBEq,reduceEqDiff,reduceLT,reduceCtorEq,reduceAdd,reduceLeDiff,k0,k1,e3n,x1,Int.reduceBEq]
   refine callStep (f243_ok hFv hFC hu hLu nLu bx mb H2 hF2 hx2 _ fun H3 hU3 hF3=>?_)
   simp (maxSteps:=999999) only [ey,Nat.reduceBEq,reduceEqDiff,reduceLT,reduceCtorEq,reduceAdd,reduceLeDiff]
   have:=hK _ (but_up.trans (hU02.trans hU3)) hF3 (hm2.up hU3)
   rw [mark_eq LF L _ _ hu,e3,Bool.true_and,if_neg (by decide),if_pos rfl,z1,z2,e8] at this
   exact this
 have x2 : (k == 2) = false:=by simpa using k2'
 by_cases k3' : k = 3
 ·subst k3'
  cases inner with
  | false=>
   simp (maxSteps:=999999) only [ey,Nat.reduceBEq,reduceEqDiff,reduceLT,reduceCtorEq,reduceAdd,reduceLeDiff,k0,k1,e3n,x1,x2,Int.reduceBEq]
   have:=hK _ (but_up.trans hU02) hF2 (hm.up hU02)
   rw [mark_eq LF L _ _ hu,e3,Bool.true_and,if_neg (by decide),if_neg (by decide),if_pos rfl,z1,z2,Bool.and_false,Bool.false_and] at this
   exact this
  | true=>
   simp (maxSteps:=999999) only [ey,Nat.reduceBEq,reduceEqDiff,reduceLT,reduceCtorEq,reduceAdd,reduceLeDiff,k0,k1,e3n,x1,x2,Int.reduceBEq]
   refine callStep (f243_ok hFv hFC hu hLu nLu bx mb H2 hF2 hx2 _ fun H3 hU3 hF3=>?_)
   simp (maxSteps:=999999) only [ey,Nat.reduceBEq,reduceEqDiff,reduceLT,reduceCtorEq,reduceAdd,reduceLeDiff]
   have:=hK _ (but_up.trans (hU02.trans hU3)) hF3 (hm2.up hU3)
   rw [mark_eq LF L _ _ hu,e3,Bool.true_and,if_neg (by decide),if_neg (by decide),if_pos rfl,z1,z2] at this
   exact this
 have x3 : (k == 3) = false:=by simpa using k3'
 simp (maxSteps:=999999) only [ey,Nat.reduceBEq,reduceEqDiff,reduceLT,reduceCtorEq,reduceAdd,reduceLeDiff,k0,k1,e3n,x1,x2,x3]
 have:=hK _ (but_up.trans hU02) hF2 (hm.up hU02)
 rw [mark_eq LF L _ _ hu,e3,Bool.true_and,if_neg k1',if_neg k2',if_neg k3'] at this
 exact this
end Go.Proofs.T
