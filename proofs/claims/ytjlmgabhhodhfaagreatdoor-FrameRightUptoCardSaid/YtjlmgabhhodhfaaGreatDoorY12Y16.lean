import Derived.Test.YtjlmgabhhodhfaaGreatDoorY9aY10
import Derived.Test.YtjlmgabhhodhfaaGreatDoorFTy3XD
import Derived.Test.YtjlmgabhhodhfaaGreatDoorEvQGT
import Derived.Test.YtjlmgabhhodhfaaGreatDoorY9bY11
import Derived.Test.YtjlmgabhhodhfaaGreatDoorY8
set_option linter.unusedVariables false
set_option linter.unusedSimpArgs false
set_option maxRecDepth 100000
namespace Go.Proofs.T
open Go.Ev
open Nat (reduceMul reducePow reduceSub reduceEqDiff reduceLT reduceAdd reduceLeDiff)
open UInt8 (reduceToNat)
theorem f44_ok : ∀ (n : Nat) (cs : List AV),VT n cs → ∀ (z : Int) (H : Heap) (hF : Free H) (K : AV → Heap → Prop) (hK : ∀ (x : Int) H',Up H H' → Free H' → K (.int .i64 x) H'),WF Tryz.prog 44 [.agg cs,.int .i64 z] H K:=by
 intro n
 induction n with
 | zero=>intro cs h;exact h.elim
 | succ n ih=>
  intro cs h z H hF K hK
  obtain ⟨k,ix,s,v,w,L,M,rfl,hv,hvn,hvc,hw,hwn,hwc⟩:=h
  have hlen : ∀ G,evBuiltin Tryz.prog G .len #[24] [v] = some (.int .i64 L.length,G):=fun G=>(hv G).lenAt und24 G
  refine WF_body Tryz.func44 (by kernel_rfl) rfl Tryz.ntmps44 (by rw [Tryz.results44]) (of_decide_eq_true (by kernel_rfl)) ?_
  simp (maxSteps:=999999) only [gx,fx2,fx3,implies_true,reduceMul,reducePow,reduceSub,Nat.reduceBEq,reduceToNat,reduceEqDiff,reduceLT,reduceCtorEq,reduceAdd,reduceLeDiff,hF.at,hF.hp]
  generalize hH1 : HP H [Blk.row 34 5 [[.int .i64 k,.int .i64 ix,.str s,v,w]] 0 0] = H1
  have hb : H1.blk H.next = some (.row 34 5 [[.int .i64 k,.int .i64 ix,.str s,v,w]] 0 0):=by rw [← hH1,hp_blk0];rfl
  have hF1 : Free H1:=hH1 ▸ hF.hpF _
  have hU1 : Up H H1:=hH1 ▸ hF.hpU _
  refine loopStep' (fun env H'=>Up H1 H' ∧ Free H' ∧ ∃ (i : Nat) (x : Int),i ≤ L.length ∧ env.at (.tmp 5) = .int .i64 i ∧ env.at (.tmp 2) = .ptr H.next 0 0 0 ∧ env.at (.tmp 1) = .int .i64 x)
   (fun env H'=>match env.at (.tmp 5) with | .int _ i=>((L.length : Int) - i).toNat | _=>0) ?_ ?_
  ·exact ⟨Up.refl _,hF1,0,IntKind.i64.wrap (z - 1),Nat.zero_le _,by simp only [gx,fx2,fx3,implies_true,reduceMul,reducePow,reduceSub,Nat.reduceBEq,reduceToNat,reduceEqDiff,reduceLT,reduceCtorEq,reduceAdd,reduceLeDiff];rfl,by simp only [gx,fx2,fx3,implies_true,reduceMul,reducePow,reduceSub,Nat.reduceBEq,reduceToNat,reduceEqDiff,reduceLT,reduceCtorEq,reduceAdd,reduceLeDiff],by simp only [gx,fx2,fx3,implies_true,reduceMul,reducePow,reduceSub,Nat.reduceBEq,reduceToNat,reduceEqDiff,reduceLT,reduceCtorEq,reduceAdd,reduceLeDiff]⟩
  ·rintro env H2 ⟨hU2,hF2,i,x,hi,e5,e2,e1⟩
   have hb2:=hU2 _ _ hb
   by_cases hlt : i < L.length
   ·by_cases hx : x ≥ 0
    ·obtain ⟨c,hc⟩ : ∃ c,L[i]? = some c:=⟨_,List.getElem?_eq_getElem hlt⟩
     have hcm:=hvc c (List.mem_of_getElem? hc)
     simp (maxSteps:=999999) only [gx,fx2,fx3,implies_true,reduceMul,reducePow,reduceSub,Nat.reduceBEq,reduceToNat,reduceEqDiff,reduceLT,reduceCtorEq,reduceAdd,reduceLeDiff,e5,e2,e1,hb2,hlen,lt_true hlt,hx,idx24 hv hc,hcm.len,hcm.tk]
     refine callStep (ih c hcm x H2 hF2 _ fun y H3 hU3 hF3=>?_)
     simp (maxSteps:=999999) only [gx,fx2,fx3,implies_true,reduceMul,reducePow,reduceSub,Nat.reduceBEq,reduceToNat,reduceEqDiff,reduceLT,reduceCtorEq,reduceAdd,reduceLeDiff,e5,e2,wrap_succ (i:=i) (by omega)]
     exact ⟨⟨hU2.trans hU3,hF3,i + 1,y,hlt,rfl,rfl⟩,by omega⟩
    ·simp (maxSteps:=999999) only [gx,fx2,fx3,implies_true,reduceMul,reducePow,reduceSub,Nat.reduceBEq,reduceToNat,reduceEqDiff,reduceLT,reduceCtorEq,reduceAdd,reduceLeDiff,e5,e2,e1,hb2,hlen,lt_true hlt,hx]
     exact hK _ _ (hU1.trans hU2) hF2
   ·simp (maxSteps:=999999) only [gx,fx2,fx3,implies_true,reduceMul,reducePow,reduceSub,Nat.reduceBEq,reduceToNat,reduceEqDiff,reduceLT,reduceCtorEq,reduceAdd,reduceLeDiff,e5,e2,e1,hb2,hlen,lt_false hlt]
    exact hK _ _ (hU1.trans hU2) hF2
theorem f11_ok {n : Nat} {cs : List AV} (h : VT n cs) (z : Int) (H : Heap) (hF : Free H) (K : AV → Heap → Prop) (hK : ∀ (b : Bool) H',Up H H' → Free H' → K (.bool b) H') : WF Tryz.prog 11 [.agg cs,.int .i64 z] H K:=by
 refine WF_body Tryz.func11 (by kernel_rfl) rfl Tryz.ntmps11 (by rw [Tryz.results11]) (of_decide_eq_true (by kernel_rfl)) ?_
 simp (maxSteps:=999999) only [gx,fx2,fx3,implies_true,reduceMul,reducePow,reduceSub,Nat.reduceBEq,reduceToNat,reduceEqDiff,reduceLT,reduceCtorEq,reduceAdd,reduceLeDiff,hF.at,hF.hp,h.len,h.tk]
 refine callStep (f44_ok n cs h z _ (hF.hpF _) _ fun x H2 hU2 hF2=>?_)
 simp (maxSteps:=999999) only [gx,fx2,fx3,implies_true,reduceMul,reducePow,reduceSub,Nat.reduceBEq,reduceToNat,reduceEqDiff,reduceLT,reduceCtorEq,reduceAdd,reduceLeDiff]
 exact hK _ _ ((hF.hpU _).trans hU2) hF2
theorem ins_val {n : Nat} {c : List AV} (h : InsT n c) : VT n ((c.drop 4).take 5):=by
 obtain ⟨op,a,b,t,V,rfl,hV⟩:=h
 show VT n (V.take 5)
 rw [hV.tk];exact hV
set_option maxHeartbeats 4000000 in
theorem f38_ok {n : Nat} {vF vG vI vH : AV} {LF LG LI LH : List (List AV)} (h : CodT n vF vG vI vH LF LG LI LH) (H : Heap) (hF : Free H) (K : AV → Heap → Prop) (hK : ∀ (b : Bool) H',Up H H' → Free H' → K (.bool b) H') : WF Tryz.prog 38 [.agg [vF,vG,vI,vH]] H K:=by
 have hlF : ∀ G,evBuiltin Tryz.prog G .len #[22] [vF] = some (.int .i64 LF.length,G):=fun G=>(h.hF G).lenAt und22 G
 have hlG : ∀ G,evBuiltin Tryz.prog G .len #[23] [vG] = some (.int .i64 LG.length,G):=fun G=>(h.hG G).lenAt und23 G
 have hlI : ∀ G,evBuiltin Tryz.prog G .len #[24] [vI] = some (.int .i64 LI.length,G):=fun G=>(h.hI G).lenAt und24 G
 have hlH : ∀ G,evBuiltin Tryz.prog G .len #[25] [vH] = some (.int .i64 LH.length,G):=fun G=>(h.hH G).lenAt und25 G
 have hnF:=h.nF
 refine WF_body Tryz.func38 (by kernel_rfl) rfl Tryz.ntmps38 (by rw [Tryz.results38]) (of_decide_eq_true (by kernel_rfl)) ?_
 by_cases a1 : (LF.length : Int) > 250
 ·simp (maxSteps:=999999) only [ey,implies_true,reduceMul,reducePow,reduceSub,Nat.reduceBEq,reduceToNat,reduceEqDiff,reduceLT,reduceCtorEq,reduceAdd,reduceLeDiff,hF.at,hF.hp,hlF,hlG,hlI,hlH,a1]
  exact hK _ _ (hF.hpU _) (hF.hpF _)
 by_cases a2 : (LG.length : Int) > 60
 ·simp (maxSteps:=999999) only [ey,implies_true,reduceMul,reducePow,reduceSub,Nat.reduceBEq,reduceToNat,reduceEqDiff,reduceLT,reduceCtorEq,reduceAdd,reduceLeDiff,hF.at,hF.hp,hlF,hlG,hlI,hlH,a1,a2]
  exact hK _ _ (hF.hpU _) (hF.hpF _)
 by_cases a3 : (LI.length : Int) > 60
 ·simp (maxSteps:=999999) only [ey,implies_true,reduceMul,reducePow,reduceSub,Nat.reduceBEq,reduceToNat,reduceEqDiff,reduceLT,reduceCtorEq,reduceAdd,reduceLeDiff,hF.at,hF.hp,hlF,hlG,hlI,hlH,a1,a2,a3]
  exact hK _ _ (hF.hpU _) (hF.hpF _)
 by_cases a4 : (LH.length : Int) > 110
 ·simp (maxSteps:=999999) only [ey,implies_true,reduceMul,reducePow,reduceSub,Nat.reduceBEq,reduceToNat,reduceEqDiff,reduceLT,reduceCtorEq,reduceAdd,reduceLeDiff,hF.at,hF.hp,hlF,hlG,hlI,hlH,a1,a2,a3,a4]
  exact hK _ _ (hF.hpU _) (hF.hpF _)
 simp (maxSteps:=999999) only [ey,implies_true,reduceMul,reducePow,reduceSub,Nat.reduceBEq,reduceToNat,reduceEqDiff,reduceLT,reduceCtorEq,reduceAdd,reduceLeDiff,hF.at,hF.hp,hlF,hlG,hlI,hlH,a1,a2,a3,a4]
 generalize hH1 : HP H [Blk.row 27 4 [[vF,vG,vI,vH]] 0 0] = H1
 have hb : H1.blk H.next = some (.row 27 4 [[vF,vG,vI,vH]] 0 0):=by rw [← hH1,hp_blk0];rfl
 have hF1 : Free H1:=hH1 ▸ hF.hpF _
 have hU1 : Up H H1:=hH1 ▸ hF.hpU _
 refine loopStep' (fun env H'=>Up H1 H' ∧ Free H' ∧ ∃ (i : Nat) (x : Int),i ≤ LF.length ∧ env.at (.tmp 4) = .int .i64 i ∧ env.at (.tmp 1) = .ptr H.next 0 0 0 ∧ env.at (.tmp 3) = .int .i64 x)
  (fun env H'=>match env.at (.tmp 4) with | .int _ i=>((LF.length : Int) - i).toNat | _=>0) ?_ ?_
 ·exact ⟨Up.refl _,hF1,0,_,Nat.zero_le _,by simp only [ey,implies_true,reduceMul,reducePow,reduceSub,Nat.reduceBEq,reduceToNat,reduceEqDiff,reduceLT,reduceCtorEq,reduceAdd,reduceLeDiff];rfl,by simp only [ey,implies_true,reduceMul,reducePow,reduceSub,Nat.reduceBEq,reduceToNat,reduceEqDiff,reduceLT,reduceCtorEq,reduceAdd,reduceLeDiff],by simp only [ey,implies_true,reduceMul,reducePow,reduceSub,Nat.reduceBEq,reduceToNat,reduceEqDiff,reduceLT,reduceCtorEq,reduceAdd,reduceLeDiff];rfl⟩
 rintro env H' ⟨hU',hF',i,x,hi,e4,e1,e3⟩
 have hb':=hU' _ _ hb
 by_cases hlt : i < LF.length
 ·obtain ⟨c,hc⟩ : ∃ c,LF[i]? = some c:=⟨_,List.getElem?_eq_getElem hlt⟩
  have hix:=idx22 h.hF hc
  obtain ⟨nm,P,S,v,L,rfl,hv,hL,hn⟩:=h.fF c (List.mem_of_getElem? hc)
  have hlv : ∀ G,evBuiltin Tryz.prog G .len #[83] [v] = some (.int .i64 L.length,G):=fun G=>(hv G).lenAt und83 G
  simp (maxSteps:=999999) only [ey,implies_true,reduceMul,reducePow,reduceSub,Nat.reduceBEq,reduceToNat,reduceEqDiff,reduceLT,reduceCtorEq,reduceAdd,reduceLeDiff,e4,e1,e3,hlF,lt_true hlt,hb']
  refine loopStep' (fun env2 H2=>Up H1 H2 ∧ Free H2 ∧ ∃ (j : Nat) (y : Int),j ≤ L.length ∧ env2.at (.tmp 5) = .int .i64 j ∧ env2.at (.tmp 4) = .int .i64 i ∧ env2.at (.tmp 1) = .ptr H.next 0 0 0 ∧ env2.at (.tmp 3) = .int .i64 y)
   (fun env2 H2=>match env2.at (.tmp 5) with | .int _ j=>((L.length : Int) - j).toNat | _=>0) ?_ ?_
  ·exact ⟨hU',hF',0,x,Nat.zero_le _,by simp only [ey,implies_true,reduceMul,reducePow,reduceSub,Nat.reduceBEq,reduceToNat,reduceEqDiff,reduceLT,reduceCtorEq,reduceAdd,reduceLeDiff];rfl,by simp only [ey,implies_true,reduceMul,reducePow,reduceSub,Nat.reduceBEq,reduceToNat,reduceEqDiff,reduceLT,reduceCtorEq,reduceAdd,reduceLeDiff,e4],by simp only [ey,implies_true,reduceMul,reducePow,reduceSub,Nat.reduceBEq,reduceToNat,reduceEqDiff,reduceLT,reduceCtorEq,reduceAdd,reduceLeDiff,e1],by simp only [ey,implies_true,reduceMul,reducePow,reduceSub,Nat.reduceBEq,reduceToNat,reduceEqDiff,reduceLT,reduceCtorEq,reduceAdd,reduceLeDiff,e3]⟩
  rintro env2 H2 ⟨hU2,hF2,j,y,hj,d5,d4,d1,d3⟩
  have hb2:=hU2 _ _ hb
  by_cases hlj : j < L.length
  ·by_cases hy : IntKind.i64.wrap (y - 1) < 0
   ·simp (maxSteps:=999999) only [ey,implies_true,reduceMul,reducePow,reduceSub,Nat.reduceBEq,reduceToNat,reduceEqDiff,reduceLT,reduceCtorEq,reduceAdd,reduceLeDiff,d5,d4,d1,d3,hb2,hix,hlv,lt_true hlj,hy]
    exact hK _ _ (hU1.trans hU2) hF2
   ·obtain ⟨c,hcj⟩ : ∃ c,L[j]? = some c:=⟨_,List.getElem?_eq_getElem hlj⟩
    have hixj:=idx83 hv hcj
    have hcm:=hL c (List.mem_of_getElem? hcj)
    have hcl:=hcm.len
    simp (maxSteps:=999999) only [ey,implies_true,reduceMul,reducePow,reduceSub,Nat.reduceBEq,reduceToNat,reduceEqDiff,reduceLT,reduceCtorEq,reduceAdd,reduceLeDiff,d5,d4,d1,d3,hb2,hix,hlv,lt_true hlj,hy,hixj,hcl]
    refine callStep (f11_ok (ins_val hcm) 1100 H2 hF2 _ fun b H3 hU3 hF3=>?_)
    cases b with
    | false=>
     simp (maxSteps:=999999) only [ey,implies_true,reduceMul,reducePow,reduceSub,Nat.reduceBEq,reduceToNat,reduceEqDiff,reduceLT,reduceCtorEq,reduceAdd,reduceLeDiff,Bool.not_false]
     exact hK _ _ (hU1.trans (hU2.trans hU3)) hF3
    | true=>
     simp (maxSteps:=999999) only [ey,implies_true,reduceMul,reducePow,reduceSub,Nat.reduceBEq,reduceToNat,reduceEqDiff,reduceLT,reduceCtorEq,reduceAdd,reduceLeDiff,d5,d4,d1,Bool.not_true,wrap_succ (i:=j) (by omega)]
     exact ⟨⟨hU2.trans hU3,hF3,j + 1,_,hlj,rfl,rfl⟩,by omega⟩
  ·simp (maxSteps:=999999) only [ey,implies_true,reduceMul,reducePow,reduceSub,Nat.reduceBEq,reduceToNat,reduceEqDiff,reduceLT,reduceCtorEq,reduceAdd,reduceLeDiff,d5,d4,d1,d3,hb2,hix,hlv,lt_false hlj,wrap_succ (i:=i) (by omega)]
   exact ⟨⟨hU2,hF2,i + 1,y,hlt,rfl,rfl⟩,by omega⟩
 ·simp (maxSteps:=999999) only [ey,implies_true,reduceMul,reducePow,reduceSub,Nat.reduceBEq,reduceToNat,reduceEqDiff,reduceLT,reduceCtorEq,reduceAdd,reduceLeDiff,e4,e1,e3,hlF,lt_false hlt,hb']
  exact hK _ _ (hU1.trans hU') hF'
structure TB (F N : Heap) (b esz : Nat) (H : Heap) (u : AV) (L : List (List AV)) (x : Blk) : Prop where
 up : Up F H
 free : Free H
 stk : Stk N H esz u L
 dom : ∀ c,N.blk c ≠ none → H.blk c ≠ none
 row : H.blk b = some x
 name : N.blk b ≠ none
 sub : ∀ c x,F.blk c = some x → N.blk c ≠ none
 out : F.blk b = none
theorem TB.grow {F N : Heap} {b esz : Nat} {H K : Heap} {u : AV} {L : List (List AV)} {x : Blk} (h : TB F N b esz H u L x) (hU : Up H K) (hK : Free K) : TB F N b esz K u L x where
 up:=h.up.trans hU
 free:=hK
 stk:=h.stk.up hU
 dom:=fun c hc=>by
  cases hx : H.blk c with
  | none=>exact absurd hx (h.dom c hc)
  | some x=>rw [hU _ _ hx];simp
 row:=hU _ _ h.row
 name:=h.name
 sub:=h.sub
 out:=h.out
theorem TB.store {F N : Heap} {b esz : Nat} {H : Heap} {u : AV} {L : List (List AV)} {x : Blk} (h : TB F N b esz H u L x) (y : Blk) : TB F N b esz (H.set b y) u L y where
 up:=h.up.set h.out _
 free:=h.free.set (h.free.lt h.row) _
 stk:=h.stk.keep fun c x hc hx=>by
  rw [Heap.set_other _ _ _ (fun e=>h.name (by rw [← e];exact (h.stk.row hc).1))];exact hx
 dom:=fun c hc=>Heap.set_ne (h.dom c hc)
 row:=Heap.set_same _ _ _
 name:=h.name
 sub:=h.sub
 out:=h.out
theorem TB.push {F N : Heap} {b esz : Nat} {H K : Heap} {u v : AV} {L M : List (List AV)} {x : Blk} (h : TB F N b esz H u L x) (hs : Stk (hbut H (rowOf u)) K esz v M) (hU : Up (hbut H (rowOf u)) K) (hK : Free K) : TB F N b esz K v M x:=by
 have hne : ∀ c,N.blk c ≠ none → rowOf u ≠ some c:=fun c hc he=>hc (h.stk.row he).1
 have hkeep : ∀ c x,N.blk c ≠ none → H.blk c = some x → K.blk c = some x:=fun c x hc hx=>hU _ _ (by rw [but_blk (hne c hc)];exact hx)
 refine ⟨fun c x hx=>hkeep c x (h.sub c x hx) (h.up _ _ hx),hK,hs.dom fun c hc=>?_,fun c hc=>?_,hkeep _ _ h.name h.row,h.name,h.sub,h.out⟩
 ·by_cases he : rowOf u = some c
  ·exact (h.stk.row he).1
  ·rw [but_blk he] at hc
   cases hx : N.blk c with
   | none=>rfl
   | some x=>exact absurd hc (h.dom c (by rw [hx];simp))
 ·cases hx : H.blk c with
  | none=>exact absurd hx (h.dom c hc)
  | some x=>rw [hkeep c x hc hx];simp
theorem TB.start {G H : Heap} {esz : Nat} {u : AV} {L : List (List AV)} (hF : Free H) (hO : Stk G H esz u L) (x : Blk) : TB (hbut H (rowOf u)) (hbut (HP H [x]) (rowOf u)) H.next esz (HP H [x]) u L x:=by
 have hne : rowOf u ≠ some H.next:=fun e=>(hO.row e).2 hF.at
 refine ⟨but_up.trans (hF.hpU _),hF.hpF _,(hO.up (hF.hpU _)).but,fun c hc=>?_,by rw [hp_blk0];rfl,by rw [but_blk hne,hp_blk0];simp,fun c y hy=>?_,by rw [but_blk hne];exact hF.at⟩
 ·cases hx : (hbut (HP H [x]) (rowOf u)).blk c with
  | none=>exact absurd hx hc
  | some y=>rw [but_up _ _ hx];simp
 ·have hr : rowOf u ≠ some c:=fun e=>by simp only [hbut] at hy;rw [if_pos e] at hy;cases hy
  rw [but_blk hr] at hy ⊢
  rw [hF.hpU _ _ _ hy];simp

theorem app24s : appB Tryz.prog 24 24 34 5 80 = true:=by kernel_rfl
def slots (LA : List (List AV)) (S : Int) : List (List AV):=LA ++ List.replicate (S.toNat - LA.length) zv
theorem hkeep {H : Heap} {esz : Nat} {v : AV} {L : List (List AV)} (h : Holds H esz v L) {b ty esz' gen wgen : Nat} {els : List (List AV)} (hb : H.blk b = some (.row ty esz' els gen wgen)) (hne : esz ≠ esz') (x : Blk) : Holds (H.set b x) esz v L:=by
 obtain ⟨h0,h | h | ⟨b',off,cap,ex,g,ty',els',gen',wgen',h1,h2,h3⟩⟩:=h
 ·exact ⟨h0,.inl h⟩
 ·exact ⟨h0,.inr (.inl h)⟩
 ·refine ⟨h0,.inr (.inr ⟨b',off,cap,ex,g,ty',els',gen',wgen',h1,?_,h3⟩)⟩
  rw [Heap.set_other _ _ _ (fun e=>?_)]
  ·exact h2
  ·rw [e,hb] at h2
   injection h2 with h2
   injection h2 with _ h2
   exact hne h2.symm
noncomputable def startB (n : Nat) (LF LG LI LH LA : List (List AV)) (fn : Int) : Bool:=rightC n LF LG LI LH && decide (fn ≥ 0) && decide (fn < (LF.length : Int)) && ((LA.length : Int) == intC (LF.getD fn.toNat []) 1)
theorem fun_bounds {n : Nat} {LF LG LI LH : List (List AV)} (hr : rightC n LF LG LI LH = true) {nm : List Nat} {P S : Int} {v : AV} {L : List (List AV)} (hv : ∀ H,Holds H 9 v L) {i : Nat} (hc : LF[i]? = some [.str nm,.int .i64 P,.int .i64 S,v]) : funB n LF LG.length P S L = true ∧ 0 ≤ P ∧ P ≤ S ∧ S ≤ 100:=by
 unfold rightC at hr
 simp only [Bool.and_eq_true] at hr
 have h:=hr.2
 rw [Bool.not_eq_true'] at h
 have:=List.any_eq_false.1 h _ (List.mem_of_getElem? hc)
 simp only [Bool.not_eq_true,Bool.not_eq_false'] at this
 rw [funV_eq hv] at this
 refine ⟨this,?_⟩
 unfold funB at this
 simp only [Bool.and_eq_true,decide_eq_true_eq] at this
 omega
theorem opStepK_put {P : Program} {K : (Nat → Prop) × Bool} {n : Nat} {ops : Array Oper} {o : Oper} {l : List (Oper × Bool)} {ks : List KItem} {env : Env} {H : Heap} {Q : Ex → Env → Heap → Prop} (r : AV) (H1 : Heap) (he : evOp P env.at o H = some (r,H1)) (hn : H1.next = H.next) (hk : opKind P o.op ≠ 1) (hK : K.2 = false) (hu : ∀ b x,K.1 b → H.blk b = some x → H1.blk b = some x) (hA : AfterOps P (some K) n ops l ks (env.put o.dst r) H1 Q) : OpStepK P K n ops o l ks env H Q:=by
 unfold OpStepK
 rw [he]
 refine ⟨.inl hn,⟨?_,fun h=>absurd h hk⟩,hA⟩
 obtain ⟨Kp,b⟩:=K
 simp only at hK
 subst hK
 exact hu
theorem eqA4 (a b : Bool) : eqA Tryz.prog 10000 4 (.bool a) (.bool b) = some (a == b):=by rw [show (10000 : Nat) = 9999 + 1 from rfl];simp [eqA,und4]
end Go.Proofs.T
