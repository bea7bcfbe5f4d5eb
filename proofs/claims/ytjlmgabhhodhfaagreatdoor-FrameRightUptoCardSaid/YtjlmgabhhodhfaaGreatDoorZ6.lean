import Derived.Test.YtjlmgabhhodhfaaGreatDoorZ5
import Derived.Test.YtjlmgabhhodhfaaGreatDoorY6Y7
set_option linter.unusedVariables false
set_option linter.unusedSimpArgs false
set_option maxRecDepth 100000
namespace Go.Proofs.T
open Go.Ev
open Nat (reduceMul reducePow reduceSub reduceEqDiff reduceLT reduceAdd reduceLeDiff)
open UInt8 (reduceToNat)
set_option maxHeartbeats 16000000 in
theorem f149_ok {n fn : Nat} {vF vG vI vH v vs vt vm vf vw : AV} {nm : List Nat} {P S p st fut : Int} {LF L Lt Lw : List (List AV)} {sel : Bool} {key : List Nat} (hFv : ∀ H,Holds H 4 vF LF) (cG : vG.isCell = true) (cI : vI.isCell = true) (cH : vH.isCell = true) (hc : LF[fn]? = some [.str nm,.int .i64 P,.int .i64 S,v]) (hv : ∀ H,Holds H 9 v L) (hL : ∀ c ∈ L,InsT n c) (hL0 : L.length < 2 ^ 60) (ht : ∀ H,Holds H 5 vt Lt) (hw : ∀ H,Holds H 1 vw Lw) (cf : vf.isCell = true) (cs : vs.isCell = true) (ct : vt.isCell = true) (cm : vm.isCell = true) {h : Int} (hh1 : -1 ≤ h) (hh2 : h < 2 ^ 60) (hp : p ≤ (L.length : Int)) (bx mb : Nat) (H : Heap) (hF : Free H) (hx : H.blk bx = some (.row 134 5 [[vF,vG,vI,vH,.map mb]] 0 0)) (K : AV → Heap → Prop) (hK : ∀ H',Up H H' → Free H' → K (.bool (waitsB L p Lt.length Lw.length sel h)) H') : WF Tryz.prog 149 [.ptr bx 0 0 0,.agg [.int .i64 st,vf,.int .i64 fut,vw,.bool sel,.str key],.agg [.int .i64 (fn : Int),.int .i64 p,vs,vt,vm],.int .i64 h] H K:=by
 have hlt : ∀ G,evBuiltin Tryz.prog G .len #[24] [vt] = some (.int .i64 Lt.length,G):=fun G=>(ht G).lenAt und24 G
 have hlw : ∀ G,evBuiltin Tryz.prog G .len #[29] [vw] = some (.int .i64 Lw.length,G):=fun G=>(hw G).lenAt und29 G
 have cw:=holds_cell (hw H)
 have hix:=idx22 hFv hc
 have wh : IntKind.i64.wrap (h - 1) = h - 1:=IntWalk.i64_in _ (by omega)
 refine WF_body Tryz.func149 (by kernel_rfl) rfl Tryz.ntmps149 (by rw [Tryz.results149]) (of_decide_eq_true (by kernel_rfl)) ?_
 simp (maxSteps:=999999) only [ey,Nat.reduceBEq,reduceEqDiff,reduceLT,reduceCtorEq,reduceAdd,reduceLeDiff,hF.at,hF.hp,cf,cw,cs,ct,cm]
 generalize hH1 : HP H [Blk.row 31 6 [[.int .i64 st,vf,.int .i64 fut,vw,.bool sel,.str key]] 0 0,Blk.row 55 5 [[.int .i64 (fn : Int),.int .i64 p,vs,vt,vm]] 0 0] = H1
 have b0 : H1.blk H.next = some (.row 31 6 [[.int .i64 st,vf,.int .i64 fut,vw,.bool sel,.str key]] 0 0):=by rw [← hH1,hp_blk0];rfl
 have b1 : H1.blk (H.next + 1) = some (.row 55 5 [[.int .i64 (fn : Int),.int .i64 p,vs,vt,vm]] 0 0):=by rw [← hH1,hp_blk];rfl
 have hF1 : Free H1:=hH1 ▸ hF.hpF _
 have hU1 : Up H H1:=hH1 ▸ hF.hpU _
 have hx1:=hU1 _ _ hx
 unfold waitsB at hK
 by_cases hw0 : (Lw.length : Int) = 0
 ·have e0 : ((Lw.length : Int) == 0) = true:=by simpa using hw0
  rw [if_pos hw0] at hK
  cases e1 : ((Lt.length : Int) == h) with
  | false=>
   simp (maxSteps:=999999) only [ey,Nat.reduceBEq,reduceEqDiff,reduceLT,reduceCtorEq,reduceAdd,reduceLeDiff,b0,b1,hlw,hlt,e0,e1]
   have:=hK _ hU1 hF1
   rw [e1] at this
   exact this
  | true=>
   simp (maxSteps:=999999) only [ey,Nat.reduceBEq,reduceEqDiff,reduceLT,reduceCtorEq,reduceAdd,reduceLeDiff,b0,b1,hlw,hlt,e0,e1]
   have:=hK _ hU1 hF1
   rw [e1,Bool.true_and] at this
   exact this
 have e0 : ((Lw.length : Int) == 0) = false:=by simpa using hw0
 rw [if_neg hw0] at hK
 by_cases c1 : p < 1
 ·rw [if_pos (.inl c1)] at hK
  simp (maxSteps:=999999) only [ey,Nat.reduceBEq,reduceEqDiff,reduceLT,reduceCtorEq,reduceAdd,reduceLeDiff,b0,b1,hlw,hlt,e0,c1]
  exact hK _ hU1 hF1
 by_cases c2 : (Lt.length : Int) = h - 1
 ·have c2n : ((Lt.length : Int) != h - 1) = false:=by rw [bne,show ((Lt.length : Int) == h - 1) = true by simpa using c2];rfl
  rw [if_neg (show ¬ (p < 1 ∨ (Lt.length : Int) ≠ h - 1) by omega)] at hK
  obtain ⟨j,rfl⟩ : ∃ j : Nat,p = (j : Int) + 1:=⟨(p - 1).toNat,by omega⟩
  obtain ⟨c,hcj⟩ : ∃ c,L[j]? = some c:=⟨_,List.getElem?_eq_getElem (show j < L.length by omega)⟩
  have hixc:=idx83 hv hcj
  have hcm:=hL c (List.mem_of_getElem? hcj)
  obtain ⟨op,a,b,t,V,rfl,hV⟩:=hcm
  obtain ⟨d0,d1,d2,d3,d4,rfl⟩:=five hV.len
  have hVc:=hV.cells
  simp only [List.all_cons,List.all_nil,Bool.and_true,Bool.and_eq_true] at hVc
  obtain ⟨i0,i1,i2,i3,i4⟩:=hVc
  simp only [List.cons_append,List.nil_append] at hcj hixc
  have hgd : L.getD ((j : Int) + 1 - 1).toNat [] = [.int .i64 op,.int .i64 a,.int .i64 b,.str t,d0,d1,d2,d3,d4]:=by rw [show ((j : Int) + 1 - 1).toNat = j by omega,List.getD_eq_getElem?_getD,hcj];rfl
  have ho : opI (L.getD ((j : Int) + 1 - 1).toNat []) = op:=by rw [hgd];rfl
  have ha : aI (L.getD ((j : Int) + 1 - 1).toNat []) = a:=by rw [hgd];rfl
  have hbb : bI (L.getD ((j : Int) + 1 - 1).toNat []) = b:=by rw [hgd];rfl
  have w1 : IntKind.i64.wrap ((j : Int) + 1 - 1) = (j : Int):=by rw [show (j : Int) + 1 - 1 = (j : Int) by omega,IntWalk.i64_in _ (by omega)]
  simp (maxSteps:=999999) only [ey,Nat.reduceBEq,reduceEqDiff,reduceLT,reduceCtorEq,reduceAdd,reduceLeDiff,b0,b1,hlw,hlt,e0,c1,wh,c2n]
  refine drawStep [] [0,1,2,3,4,5,6,7,8,9,10,11,12,13,14,15,16] _ rfl (by kernel_rfl) ?_
  simp (maxSteps:=999999) only [ey,Nat.reduceBEq,reduceEqDiff,reduceLT,reduceCtorEq,reduceAdd,reduceLeDiff,hF1.at,hF1.hp,b0,b1,hx1,hlw,hlt,hix,w1,hixc,i0,i1,i2,i3,i4]
  generalize hH2 : HP H1 [Blk.row 104 9 [[.int .i64 op,.int .i64 a,.int .i64 b,.str t,d0,d1,d2,d3,d4]] 0 0] = H2
  have g0 : H2.blk H1.next = some (.row 104 9 [[.int .i64 op,.int .i64 a,.int .i64 b,.str t,d0,d1,d2,d3,d4]] 0 0):=by rw [← hH2,hp_blk0];rfl
  have hF2 : Free H2:=hH2 ▸ hF1.hpF _
  have hU2 : Up H1 H2:=hH2 ▸ hF1.hpU _
  have k0:=hU2 _ _ b0
  rw [ho,ha,hbb] at hK
  cases sel with
  | true=>
   rw [if_pos rfl] at hK
   cases e1 : (op == 27) with
   | false=>
    simp (maxSteps:=999999) only [ey,Nat.reduceBEq,reduceEqDiff,reduceLT,reduceCtorEq,reduceAdd,reduceLeDiff,k0,g0,e1]
    have:=hK _ (hU1.trans hU2) hF2
    rw [e1] at this
    exact this
   | true=>
   cases e2 : (b == 0) with
   | false=>
    simp (maxSteps:=999999) only [ey,Nat.reduceBEq,reduceEqDiff,reduceLT,reduceCtorEq,reduceAdd,reduceLeDiff,k0,g0,e1,e2]
    have:=hK _ (hU1.trans hU2) hF2
    rw [e1,e2] at this
    exact this
   | true=>
    simp (maxSteps:=999999) only [ey,Nat.reduceBEq,reduceEqDiff,reduceLT,reduceCtorEq,reduceAdd,reduceLeDiff,k0,g0,e1,e2,hlw]
    have:=hK _ (hU1.trans hU2) hF2
    rw [e1,e2] at this
    exact this
  | false=>
   rw [if_neg (by simp)] at hK
   cases e1 : (op == 26) with
   | false=>
    simp (maxSteps:=999999) only [ey,Nat.reduceBEq,reduceEqDiff,reduceLT,reduceCtorEq,reduceAdd,reduceLeDiff,k0,g0,e1]
    have:=hK _ (hU1.trans hU2) hF2
    rw [e1] at this
    exact this
   | true=>
    simp (maxSteps:=999999) only [ey,Nat.reduceBEq,reduceEqDiff,reduceLT,reduceCtorEq,reduceAdd,reduceLeDiff,k0,g0,e1,hlw]
    have:=hK _ (hU1.trans hU2) hF2
    rw [e1] at this
    exact this
 ·have c2n : ((Lt.length : Int) != h - 1) = true:=by rw [bne,show ((Lt.length : Int) == h - 1) = false by simpa using c2];rfl
  rw [if_pos (.inr c2)] at hK
  simp (maxSteps:=999999) only [ey,Nat.reduceBEq,reduceEqDiff,reduceLT,reduceCtorEq,reduceAdd,reduceLeDiff,b0,b1,hlw,hlt,e0,c1,wh,c2n]
  exact hK _ hU1 hF1
set_option maxHeartbeats 16000000 in
theorem f150_ok {n fn : Nat} {vF vG vI vH v vs vt vm : AV} {nm : List Nat} {P S p : Int} {LF L Lm Lt : List (List AV)} (hFv : ∀ H,Holds H 4 vF LF) (cG : vG.isCell = true) (cI : vI.isCell = true) (cH : vH.isCell = true) (hc : LF[fn]? = some [.str nm,.int .i64 P,.int .i64 S,v]) (hv : ∀ H,Holds H 9 v L) (hL : ∀ c ∈ L,InsT n c) (hL0 : L.length < 2 ^ 60) (ht : ∀ H,Holds H 5 vt Lt) (hm : ∀ H,Holds H 10 vm Lm) (hLm : ∀ x ∈ Lm,MrkT n x) (nLm : Lm.length < 2 ^ 60) (cs : vs.isCell = true) {f2 p2 : Int} {vs2 vt2 vm2 : AV} (cs2 : vs2.isCell = true) (ct2 : vt2.isCell = true) (cm2 : vm2.isCell = true) {h : Int} (hh1 : -1 ≤ h) (hh2 : h < 2 ^ 60) (hp : p ≤ (L.length : Int)) (bx mb : Nat) (H : Heap) (hF : Free H) (hx : H.blk bx = some (.row 134 5 [[vF,vG,vI,vH,.map mb]] 0 0)) (K : AV → Heap → Prop) (hK : ∀ H',Up H H' → Free H' → K (.bool (outerB Lm L p Lt.length f2 h)) H') : WF Tryz.prog 150 [.ptr bx 0 0 0,.agg [.int .i64 (fn : Int),.int .i64 p,vs,vt,vm],.agg [.int .i64 f2,.int .i64 p2,vs2,vt2,vm2],.int .i64 h] H K:=by
 have hlt : ∀ G,evBuiltin Tryz.prog G .len #[24] [vt] = some (.int .i64 Lt.length,G):=fun G=>(ht G).lenAt und24 G
 have hlm : ∀ G,evBuiltin Tryz.prog G .len #[53] [vm] = some (.int .i64 Lm.length,G):=fun G=>(hm G).lenAt und53 G
 have ct:=holds_cell (ht H)
 have cm:=holds_cell (hm H)
 have hix:=idx22 hFv hc
 have wh : IntKind.i64.wrap (h - 1) = h - 1:=IntWalk.i64_in _ (by omega)
 refine WF_body Tryz.func150 (by kernel_rfl) rfl Tryz.ntmps150 (by rw [Tryz.results150]) (of_decide_eq_true (by kernel_rfl)) ?_
 simp (maxSteps:=999999) only [ey,Nat.reduceBEq,reduceEqDiff,reduceLT,reduceCtorEq,reduceAdd,reduceLeDiff,hF.at,hF.hp,cs,ct,cm,cs2,ct2,cm2,hlm]
 generalize hH1 : HP H [Blk.row 55 5 [[.int .i64 (fn : Int),.int .i64 p,vs,vt,vm]] 0 0,Blk.row 55 5 [[.int .i64 f2,.int .i64 p2,vs2,vt2,vm2]] 0 0] = H1
 have b0 : H1.blk H.next = some (.row 55 5 [[.int .i64 (fn : Int),.int .i64 p,vs,vt,vm]] 0 0):=by rw [← hH1,hp_blk0];rfl
 have b1 : H1.blk (H.next + 1) = some (.row 55 5 [[.int .i64 f2,.int .i64 p2,vs2,vt2,vm2]] 0 0):=by rw [← hH1,hp_blk];rfl
 have hF1 : Free H1:=hH1 ▸ hF.hpF _
 have hU1 : Up H H1:=hH1 ▸ hF.hpU _
 have hx1:=hU1 _ _ hx
 unfold outerB at hK
 rcases undo_cases hLm with ⟨u1,u2⟩ | ⟨u1,mk,mt,ms,mh,mu,m0,m1,m2,m3,m4,u3,u2⟩
 ·rw [if_neg (by rw [u2];simp)] at hK
  by_cases c1 : p < 1
  ·rw [if_pos (.inl c1)] at hK
   simp (maxSteps:=999999) only [ey,Nat.reduceBEq,reduceEqDiff,reduceLT,reduceCtorEq,reduceAdd,reduceLeDiff,b0,b1,hlm,hlt,c1,u1]
   exact hK _ hU1 hF1
  by_cases c2 : (Lt.length : Int) = h - 1
  ·have c2n : ((Lt.length : Int) != h - 1) = false:=by rw [bne,show ((Lt.length : Int) == h - 1) = true by simpa using c2];rfl
   rw [if_neg (show ¬ (p < 1 ∨ (Lt.length : Int) ≠ h - 1) by omega)] at hK
   obtain ⟨j,rfl⟩ : ∃ j : Nat,p = (j : Int) + 1:=⟨(p - 1).toNat,by omega⟩
   obtain ⟨c,hcj⟩ : ∃ c,L[j]? = some c:=⟨_,List.getElem?_eq_getElem (show j < L.length by omega)⟩
   have hixc:=idx83 hv hcj
   have hcm:=hL c (List.mem_of_getElem? hcj)
   obtain ⟨op,a,b,t,V,rfl,hV⟩:=hcm
   obtain ⟨d0,d1,d2,d3,d4,rfl⟩:=five hV.len
   have hVc:=hV.cells
   simp only [List.all_cons,List.all_nil,Bool.and_true,Bool.and_eq_true] at hVc
   obtain ⟨i0,i1,i2,i3,i4⟩:=hVc
   simp only [List.cons_append,List.nil_append] at hcj hixc
   have hgd : L.getD ((j : Int) + 1 - 1).toNat [] = [.int .i64 op,.int .i64 a,.int .i64 b,.str t,d0,d1,d2,d3,d4]:=by rw [show ((j : Int) + 1 - 1).toNat = j by omega,List.getD_eq_getElem?_getD,hcj];rfl
   have ho : opI (L.getD ((j : Int) + 1 - 1).toNat []) = op:=by rw [hgd];rfl
   have ha : aI (L.getD ((j : Int) + 1 - 1).toNat []) = a:=by rw [hgd];rfl
   have hbb : bI (L.getD ((j : Int) + 1 - 1).toNat []) = b:=by rw [hgd];rfl
   have w1 : IntKind.i64.wrap ((j : Int) + 1 - 1) = (j : Int):=by rw [show (j : Int) + 1 - 1 = (j : Int) by omega,IntWalk.i64_in _ (by omega)]
   simp (maxSteps:=999999) only [ey,Nat.reduceBEq,reduceEqDiff,reduceLT,reduceCtorEq,reduceAdd,reduceLeDiff,b0,b1,hlm,hlt,c1,wh,c2n,u1]
   refine drawStep [] [0,1,2,3,4,5,6,7,8,9,10,11,12,13,14,15,16] _ rfl (by kernel_rfl) ?_
   simp (maxSteps:=999999) only [ey,Nat.reduceBEq,reduceEqDiff,reduceLT,reduceCtorEq,reduceAdd,reduceLeDiff,hF1.at,hF1.hp,b0,b1,hx1,hix,w1,hixc,i0,i1,i2,i3,i4]
   generalize hH2 : HP H1 [Blk.row 104 9 [[.int .i64 op,.int .i64 a,.int .i64 b,.str t,d0,d1,d2,d3,d4]] 0 0] = H2
   have g0 : H2.blk H1.next = some (.row 104 9 [[.int .i64 op,.int .i64 a,.int .i64 b,.str t,d0,d1,d2,d3,d4]] 0 0):=by rw [← hH2,hp_blk0];rfl
   have hF2 : Free H2:=hH2 ▸ hF1.hpF _
   have hU2 : Up H1 H2:=hH2 ▸ hF1.hpU _
   have k1:=hU2 _ _ b1
   rw [ho,ha] at hK
   cases e1 : (op == 17) with
   | false=>
    simp (maxSteps:=999999) only [ey,Nat.reduceBEq,reduceEqDiff,reduceLT,reduceCtorEq,reduceAdd,reduceLeDiff,k1,g0,e1]
    have:=hK _ (hU1.trans hU2) hF2
    rw [e1] at this
    exact this
   | true=>
    simp (maxSteps:=999999) only [ey,Nat.reduceBEq,reduceEqDiff,reduceLT,reduceCtorEq,reduceAdd,reduceLeDiff,k1,g0,e1]
    have:=hK _ (hU1.trans hU2) hF2
    rw [e1] at this
    exact this
  ·have c2n : ((Lt.length : Int) != h - 1) = true:=by rw [bne,show ((Lt.length : Int) == h - 1) = false by simpa using c2];rfl
   rw [if_pos (.inr c2)] at hK
   simp (maxSteps:=999999) only [ey,Nat.reduceBEq,reduceEqDiff,reduceLT,reduceCtorEq,reduceAdd,reduceLeDiff,b0,b1,hlm,hlt,c1,wh,c2n,u1]
   exact hK _ hU1 hF1
 ·have wm' : IntKind.i64.wrap ((Lm.length : Int) - 1) = ((Lm.length - 1 : Nat) : Int):=by have:=of_eq_true u1;rw [IntWalk.i64_in _ (by omega)];omega
  have hixm:=idx53 hm u3
  by_cases k3 : mk = 3
  ·subst k3
   rw [if_pos (by rw [u2];rfl)] at hK
   simp (maxSteps:=999999) only [ey,Nat.reduceBEq,reduceEqDiff,reduceLT,reduceCtorEq,reduceAdd,reduceLeDiff,b0,b1,hlm,hlt,u1,wm',hixm,Int.reduceBEq]
   exact hK _ hU1 hF1
  ·have x3 : (mk == 3) = false:=by simpa using k3
   rw [if_neg (by rw [u2,x3];simp)] at hK
   by_cases c1 : p < 1
   ·rw [if_pos (.inl c1)] at hK
    simp (maxSteps:=999999) only [ey,Nat.reduceBEq,reduceEqDiff,reduceLT,reduceCtorEq,reduceAdd,reduceLeDiff,b0,b1,hlm,hlt,c1,u1,wm',hixm,x3]
    exact hK _ hU1 hF1
   by_cases c2 : (Lt.length : Int) = h - 1
   ·have c2n : ((Lt.length : Int) != h - 1) = false:=by rw [bne,show ((Lt.length : Int) == h - 1) = true by simpa using c2];rfl
    rw [if_neg (show ¬ (p < 1 ∨ (Lt.length : Int) ≠ h - 1) by omega)] at hK
    obtain ⟨j,rfl⟩ : ∃ j : Nat,p = (j : Int) + 1:=⟨(p - 1).toNat,by omega⟩
    obtain ⟨c,hcj⟩ : ∃ c,L[j]? = some c:=⟨_,List.getElem?_eq_getElem (show j < L.length by omega)⟩
    have hixc:=idx83 hv hcj
    have hcm:=hL c (List.mem_of_getElem? hcj)
    obtain ⟨op,a,b,t,V,rfl,hV⟩:=hcm
    obtain ⟨d0,d1,d2,d3,d4,rfl⟩:=five hV.len
    have hVc:=hV.cells
    simp only [List.all_cons,List.all_nil,Bool.and_true,Bool.and_eq_true] at hVc
    obtain ⟨i0,i1,i2,i3,i4⟩:=hVc
    simp only [List.cons_append,List.nil_append] at hcj hixc
    have hgd : L.getD ((j : Int) + 1 - 1).toNat [] = [.int .i64 op,.int .i64 a,.int .i64 b,.str t,d0,d1,d2,d3,d4]:=by rw [show ((j : Int) + 1 - 1).toNat = j by omega,List.getD_eq_getElem?_getD,hcj];rfl
    have ho : opI (L.getD ((j : Int) + 1 - 1).toNat []) = op:=by rw [hgd];rfl
    have ha : aI (L.getD ((j : Int) + 1 - 1).toNat []) = a:=by rw [hgd];rfl
    have hbb : bI (L.getD ((j : Int) + 1 - 1).toNat []) = b:=by rw [hgd];rfl
    have w1 : IntKind.i64.wrap ((j : Int) + 1 - 1) = (j : Int):=by rw [show (j : Int) + 1 - 1 = (j : Int) by omega,IntWalk.i64_in _ (by omega)]
    simp (maxSteps:=999999) only [ey,Nat.reduceBEq,reduceEqDiff,reduceLT,reduceCtorEq,reduceAdd,reduceLeDiff,b0,b1,hlm,hlt,c1,wh,c2n,u1,wm',hixm,x3]
    refine drawStep [] [0,1,2,3,4,5,6,7,8,9,10,11,12,13,14,15,16] _ rfl (by kernel_rfl) ?_
    simp (maxSteps:=999999) only [ey,Nat.reduceBEq,reduceEqDiff,reduceLT,reduceCtorEq,reduceAdd,reduceLeDiff,hF1.at,hF1.hp,b0,b1,hx1,hix,w1,hixc,i0,i1,i2,i3,i4]
    generalize hH2 : HP H1 [Blk.row 104 9 [[.int .i64 op,.int .i64 a,.int .i64 b,.str t,d0,d1,d2,d3,d4]] 0 0] = H2
    have g0 : H2.blk H1.next = some (.row 104 9 [[.int .i64 op,.int .i64 a,.int .i64 b,.str t,d0,d1,d2,d3,d4]] 0 0):=by rw [← hH2,hp_blk0];rfl
    have hF2 : Free H2:=hH2 ▸ hF1.hpF _
    have hU2 : Up H1 H2:=hH2 ▸ hF1.hpU _
    have k1:=hU2 _ _ b1
    rw [ho,ha] at hK
    cases e1 : (op == 17) with
    | false=>
     simp (maxSteps:=999999) only [ey,Nat.reduceBEq,reduceEqDiff,reduceLT,reduceCtorEq,reduceAdd,reduceLeDiff,k1,g0,e1]
     have:=hK _ (hU1.trans hU2) hF2
     rw [e1] at this
     exact this
    | true=>
     simp (maxSteps:=999999) only [ey,Nat.reduceBEq,reduceEqDiff,reduceLT,reduceCtorEq,reduceAdd,reduceLeDiff,k1,g0,e1]
     have:=hK _ (hU1.trans hU2) hF2
     rw [e1] at this
     exact this
   ·have c2n : ((Lt.length : Int) != h - 1) = true:=by rw [bne,show ((Lt.length : Int) == h - 1) = false by simpa using c2];rfl
    rw [if_pos (.inr c2)] at hK
    simp (maxSteps:=999999) only [ey,Nat.reduceBEq,reduceEqDiff,reduceLT,reduceCtorEq,reduceAdd,reduceLeDiff,b0,b1,hlm,hlt,c1,wh,c2n,u1,wm',hixm,x3]
    exact hK _ hU1 hF1
theorem hgt_neg {L : List (List AV)} {t : Int} (h : ¬ (t ≥ 0)) : (hgtB L t == 0) = false:=by unfold hgtB;rw [if_pos (.inl (by omega))];rfl
theorem hgt_ge {L : List (List AV)} {t : Int} (h : ¬ (t < (L.length : Int))) : (hgtB L t == 0) = false:=by unfold hgtB;rw [if_pos (.inr (by omega))];rfl
theorem hgt_at {L : List (List AV)} {t : Nat} (h : t < L.length) : hgtB L (t : Int) = hat (htsL L) t:=by unfold hgtB;rw [if_neg (by omega),Int.toNat_natCast]
set_option maxHeartbeats 16000000 in
theorem f85_ok {n fn : Nat} {vF vG vI vH vs vt vm : AV} {p : Int} {LF L Lm Ls : List (List AV)} (hFv : ∀ H,Holds H 4 vF LF) (cG : vG.isCell = true) (cI : vI.isCell = true) (cH : vH.isCell = true) (hFC : ∀ c ∈ LF,FunC c) (hsv : ∀ H,Holds H 5 vs Ls) (ct : vt.isCell = true) (hm : ∀ H,Holds H 10 vm Lm) (hLm : ∀ x ∈ Lm,MrkT n x) (nLm : Lm.length < 2 ^ 60) {u : AV} {j : Nat} {inner : Bool} {c : List AV} (hj : Lm[j]? = some c) (hll : (htsL L).length = L.length) (H : Heap) (hF : Free H) (hhu : Holds H 1 u (intCells (htsL L))) (K : AV → Heap → Prop) (hK : ∀ H',Up H H' → Free H' → K (.bool (markB LF L Ls.length (inner && decide (j + 1 = Lm.length)) c)) H') : WF Tryz.prog 85 [.agg [vF,vG,vI,vH],.agg [.int .i64 (fn : Int),.int .i64 p,vs,vt,vm],u,.int .i64 (j : Int),.bool inner] H K:=by
 have hls : ∀ G,evBuiltin Tryz.prog G .len #[24] [vs] = some (.int .i64 Ls.length,G):=fun G=>(hsv G).lenAt und24 G
 have hlm : ∀ G,evBuiltin Tryz.prog G .len #[53] [vm] = some (.int .i64 Lm.length,G):=fun G=>(hm G).lenAt und53 G
 have cF:=holds_cell (hFv H)
 have cs:=holds_cell (hsv H)
 have cm:=holds_cell (hm H)
 have hixj:=idx53 hm hj
 have hjl : j < Lm.length:=(List.getElem?_eq_some_iff.1 hj).1
 have wm : IntKind.i64.wrap ((Lm.length : Int) - 1) = (Lm.length : Int) - 1:=by rw [IntWalk.i64_in _ (by omega)]
 obtain ⟨k,t,s,h,vu,Lu,a0,a1,a2,a3,a4,rfl,hu,hLu,nLu,hV⟩:=hLm c (List.mem_of_getElem? hj)
 have hlu : ∀ G,evBuiltin Tryz.prog G .len #[90] [vu] = some (.int .i64 Lu.length,G):=fun G=>(hu G).lenAt und90 G
 have cu:=holds_cell (hu H)
 have hVc:=hV.cells
 simp only [List.all_cons,List.all_nil,Bool.and_true,Bool.and_eq_true] at hVc
 obtain ⟨i0,i1,i2,i3,i4⟩:=hVc
 have cuu:=holds_cell hhu
 refine WF_body Tryz.func85 (by kernel_rfl) rfl Tryz.ntmps85 (by rw [Tryz.results85]) (of_decide_eq_true (by kernel_rfl)) ?_
 simp (maxSteps:=999999) only [ey,Nat.reduceBEq,reduceEqDiff,reduceLT,reduceCtorEq,reduceAdd,reduceLeDiff,hF.at,hF.hp,cF,cG,cI,cH,cs,ct,cm,hixj,cu,i0,i1,i2,i3,i4]
 generalize hH1 : HP H [Blk.row 27 4 [[vF,vG,vI,vH]] 0 0,Blk.row 55 5 [[.int .i64 (fn : Int),.int .i64 p,vs,vt,vm]] 0 0,Blk.row 92 10 [[.int .i64 k,.int .i64 t,.int .i64 s,.int .i64 h,vu,a0,a1,a2,a3,a4]] 0 0] = H1
 have b0 : H1.blk H.next = some (.row 27 4 [[vF,vG,vI,vH]] 0 0):=by rw [← hH1,hp_blk0];rfl
 have b1 : H1.blk (H.next + 1) = some (.row 55 5 [[.int .i64 (fn : Int),.int .i64 p,vs,vt,vm]] 0 0):=by rw [← hH1,hp_blk];rfl
 have b2 : H1.blk (H.next + 2) = some (.row 92 10 [[.int .i64 k,.int .i64 t,.int .i64 s,.int .i64 h,vu,a0,a1,a2,a3,a4]] 0 0):=by rw [← hH1,hp_blk];rfl
 have hF1 : Free H1:=hH1 ▸ hF.hpF _
 have hU1 : Up H H1:=hH1 ▸ hF.hpU _
 refine callStep (f36_zero hV H1 hF1 _ fun H2 hU2 hF2=>?_)
 have k0:=hU2 _ _ b0
 have k1:=hU2 _ _ b1
 have k2:=hU2 _ _ b2
 have hU:=hU1.trans hU2
 have hh2:=hhu.up hU
 have hlh : evBuiltin Tryz.prog H2 .len #[29] [u] = some (.int .i64 L.length,H2):=by rw [← hll,← ic_len];exact hh2.lenAt und29 H2
 cases e3 : (h == 0) with
 | false=>
  simp (maxSteps:=999999) only [ey,Nat.reduceBEq,reduceEqDiff,reduceLT,reduceCtorEq,reduceAdd,reduceLeDiff,k0,k1,k2,show (h != 0) = true from by rw [bne,e3];rfl]
  have:=hK _ hU hF2
  rw [mark_eq LF L _ _ hu,e3,Bool.false_and] at this
  exact this
 | true=>
 have e3n : (h != 0) = false:=by rw [bne,e3];rfl
 by_cases k1' : k = 1
 ·subst k1'
  by_cases c1 : t ≥ 0
  ·by_cases c2 : t < (L.length : Int)
   ·obtain ⟨t,rfl⟩ : ∃ m : Nat,t = (m : Int):=⟨t.toNat,by omega⟩
    obtain ⟨q,hq,hl,_⟩:=hh2.index (P:=Tryz.prog) und29 sz3 .i64 (i:=t) (cs:=[.int .i64 (hat (htsL L) t)]) (ic_at (by omega))
    have hat0:=hgt_at (L:=L) (t:=t) (by omega)
    cases e4 : (hat (htsL L) t == 0) with
    | false=>
     simp (maxSteps:=999999) only [ey,Nat.reduceBEq,reduceEqDiff,reduceLT,reduceCtorEq,reduceAdd,reduceLeDiff,k0,k1,k2,e3n,hlh,c1,c2,hq,hl _ (Up.refl _),e4,Int.reduceBEq]
     have:=hK _ hU hF2
     rw [mark_eq LF L _ _ hu,e3,Bool.true_and,if_pos rfl,hat0,e4,Bool.false_and,Bool.false_and,Bool.false_and,Bool.false_and] at this
     exact this
    | true=>
    by_cases c5 : s ≥ 0
    ·by_cases c6 : s < (Ls.length : Int)
     ·cases e7 : ((Lu.length : Int) == 0) with
      | false=>
       simp (maxSteps:=999999) only [ey,Nat.reduceBEq,reduceEqDiff,reduceLT,reduceCtorEq,reduceAdd,reduceLeDiff,k0,k1,k2,e3n,hlh,c1,c2,hq,hl _ (Up.refl _),e4,Int.reduceBEq,hls,c5,c6,hlu,e7]
       have:=hK _ hU hF2
       rw [mark_eq LF L _ _ hu,e3,Bool.true_and,if_pos rfl,hat0,e4,decide_eq_true c5,decide_eq_true c6,e7,Bool.and_false,Bool.false_and] at this
       exact this
      | true=>
       simp (maxSteps:=999999) only [ey,Nat.reduceBEq,reduceEqDiff,reduceLT,reduceCtorEq,reduceAdd,reduceLeDiff,k0,k1,k2,e3n,hlh,c1,c2,hq,hl _ (Up.refl _),e4,Int.reduceBEq,hls,c5,c6,hlu,e7]
       have:=hK _ hU hF2
       rw [mark_eq LF L _ _ hu,e3,Bool.true_and,if_pos rfl,hat0,e4,decide_eq_true c5,decide_eq_true c6,e7] at this
       exact this
     ·skip
      simp (maxSteps:=999999) only [ey,Nat.reduceBEq,reduceEqDiff,reduceLT,reduceCtorEq,reduceAdd,reduceLeDiff,k0,k1,k2,e3n,hlh,c1,c2,hq,hl _ (Up.refl _),e4,Int.reduceBEq,hls,c5,c6]
      have:=hK _ hU hF2
      rw [mark_eq LF L _ _ hu,e3,Bool.true_and,if_pos rfl,hat0,e4,decide_eq_true c5,decide_eq_false c6,Bool.and_false,Bool.false_and,Bool.false_and] at this
      exact this
    ·skip
     simp (maxSteps:=999999) only [ey,Nat.reduceBEq,reduceEqDiff,reduceLT,reduceCtorEq,reduceAdd,reduceLeDiff,k0,k1,k2,e3n,hlh,c1,c2,hq,hl _ (Up.refl _),e4,Int.reduceBEq,c5]
     have:=hK _ hU hF2
     rw [mark_eq LF L _ _ hu,e3,Bool.true_and,if_pos rfl,hat0,e4,decide_eq_false c5,Bool.and_false,Bool.false_and,Bool.false_and,Bool.false_and] at this
     exact this
   ·skip
    simp (maxSteps:=999999) only [ey,Nat.reduceBEq,reduceEqDiff,reduceLT,reduceCtorEq,reduceAdd,reduceLeDiff,k0,k1,k2,e3n,hlh,c1,c2,Int.reduceBEq]
    have:=hK _ hU hF2
    rw [mark_eq LF L _ _ hu,e3,Bool.true_and,if_pos rfl,hgt_ge c2,Bool.false_and,Bool.false_and,Bool.false_and,Bool.false_and] at this
    exact this
  ·skip
   simp (maxSteps:=999999) only [ey,Nat.reduceBEq,reduceEqDiff,reduceLT,reduceCtorEq,reduceAdd,reduceLeDiff,k0,k1,k2,e3n,c1,Int.reduceBEq]
   have:=hK _ hU hF2
   rw [mark_eq LF L _ _ hu,e3,Bool.true_and,if_pos rfl,hgt_neg c1,Bool.false_and,Bool.false_and,Bool.false_and,Bool.false_and] at this
   exact this
 have x1 : (k == 1) = false:=by simpa using k1'
 by_cases k2' : k = 2
 ·subst k2'
  cases z1 : (t == 0) with
  | false=>
   simp (maxSteps:=999999) only [ey,Nat.reduceBEq,reduceEqDiff,reduceLT,reduceCtorEq,reduceAdd,reduceLeDiff,k0,k1,k2,e3n,x1,Int.reduceBEq,z1]
   have:=hK _ hU hF2
   rw [mark_eq LF L _ _ hu,e3,Bool.true_and,if_neg (by decide),if_pos rfl,z1,Bool.false_and,Bool.false_and,Bool.false_and] at this
   exact this
  | true=>
  cases z2 : (s == 0) with
  | false=>
   simp (maxSteps:=999999) only [ey,Nat.reduceBEq,reduceEqDiff,reduceLT,reduceCtorEq,reduceAdd,reduceLeDiff,k0,k1,k2,e3n,x1,Int.reduceBEq,z1,z2]
   have:=hK _ hU hF2
   rw [mark_eq LF L _ _ hu,e3,Bool.true_and,if_neg (by decide),if_pos rfl,z1,z2,Bool.and_false,Bool.false_and,Bool.false_and] at this
   exact this
  | true=>
  cases e8 : zeroV [a0,a1,a2,a3,a4] with
  | false=>
   simp (maxSteps:=999999) only [ey,Nat.reduceBEq,reduceEqDiff,reduceLT,reduceCtorEq,reduceAdd,reduceLeDiff,k0,k1,k2,e3n,x1,Int.reduceBEq,z1,z2]
   have:=hK _ hU hF2
   rw [mark_eq LF L _ _ hu,e3,Bool.true_and,if_neg (by decide),if_pos rfl,z1,z2,e8,Bool.and_false,Bool.false_and] at this
   exact this
  | true=>
   simp (maxSteps:=999999) only [ey,Nat.reduceBEq,reduceEqDiff,reduceLT,reduceCtorEq,reduceAdd,reduceLeDiff,k0,k1,k2,e3n,x1,Int.reduceBEq,z1,z2]
   refine callStep (f154_ok hFv hFC cG cI cH hu hLu nLu H2 hF2 _ fun H3 hU3 hF3=>?_)
   simp (maxSteps:=999999) only [ey,Nat.reduceBEq,reduceEqDiff,reduceLT,reduceCtorEq,reduceAdd,reduceLeDiff]
   have:=hK _ (hU.trans hU3) hF3
   rw [mark_eq LF L _ _ hu,e3,Bool.true_and,if_neg (by decide),if_pos rfl,z1,z2,e8] at this
   exact this
 have x2 : (k == 2) = false:=by simpa using k2'
 by_cases k3' : k = 3
 ·subst k3'
  cases z1 : (t == 0) with
  | false=>
   simp (maxSteps:=999999) only [ey,Nat.reduceBEq,reduceEqDiff,reduceLT,reduceCtorEq,reduceAdd,reduceLeDiff,k0,k1,k2,e3n,x1,x2,Int.reduceBEq,z1]
   have:=hK _ hU hF2
   rw [mark_eq LF L _ _ hu,e3,Bool.true_and,if_neg (by decide),if_neg (by decide),if_pos rfl,z1,Bool.false_and,Bool.false_and,Bool.false_and] at this
   exact this
  | true=>
  cases z2 : (s == 0) with
  | false=>
   simp (maxSteps:=999999) only [ey,Nat.reduceBEq,reduceEqDiff,reduceLT,reduceCtorEq,reduceAdd,reduceLeDiff,k0,k1,k2,e3n,x1,x2,Int.reduceBEq,z1,z2]
   have:=hK _ hU hF2
   rw [mark_eq LF L _ _ hu,e3,Bool.true_and,if_neg (by decide),if_neg (by decide),if_pos rfl,z1,z2,Bool.and_false,Bool.false_and,Bool.false_and] at this
   exact this
  | true=>
  cases inner with
  | false=>
   simp (maxSteps:=999999) only [ey,Nat.reduceBEq,reduceEqDiff,reduceLT,reduceCtorEq,reduceAdd,reduceLeDiff,k0,k1,k2,e3n,x1,x2,Int.reduceBEq,z1,z2]
   have:=hK _ hU hF2
   rw [mark_eq LF L _ _ hu,e3,Bool.true_and,if_neg (by decide),if_neg (by decide),if_pos rfl,z1,z2,Bool.false_and,Bool.and_false,Bool.false_and] at this
   exact this
  | true=>
   cases e9 : ((j : Int) == (Lm.length : Int) - 1) with
   | false=>
    simp (maxSteps:=999999) only [ey,Nat.reduceBEq,reduceEqDiff,reduceLT,reduceCtorEq,reduceAdd,reduceLeDiff,k0,k1,k2,e3n,x1,x2,Int.reduceBEq,z1,z2,hlm,wm,e9]
    have:=hK _ hU hF2
    rw [mark_eq LF L _ _ hu,e3,Bool.true_and,if_neg (by decide),if_neg (by decide),if_pos rfl,z1,z2,decide_eq_false (by simp at e9;omega),Bool.and_false,Bool.and_false,Bool.false_and] at this
    exact this
   | true=>
    simp (maxSteps:=999999) only [ey,Nat.reduceBEq,reduceEqDiff,reduceLT,reduceCtorEq,reduceAdd,reduceLeDiff,k0,k1,k2,e3n,x1,x2,Int.reduceBEq,z1,z2,hlm,wm,e9]
    refine callStep (f154_ok hFv hFC cG cI cH hu hLu nLu H2 hF2 _ fun H3 hU3 hF3=>?_)
    simp (maxSteps:=999999) only [ey,Nat.reduceBEq,reduceEqDiff,reduceLT,reduceCtorEq,reduceAdd,reduceLeDiff]
    have:=hK _ (hU.trans hU3) hF3
    rw [mark_eq LF L _ _ hu,e3,Bool.true_and,if_neg (by decide),if_neg (by decide),if_pos rfl,z1,z2,decide_eq_true (by simp at e9;omega)] at this
    exact this
 have x3 : (k == 3) = false:=by simpa using k3'
 simp (maxSteps:=999999) only [ey,Nat.reduceBEq,reduceEqDiff,reduceLT,reduceCtorEq,reduceAdd,reduceLeDiff,k0,k1,k2,e3n,x1,x2,x3]
 have:=hK _ hU hF2
 rw [mark_eq LF L _ _ hu,e3,Bool.true_and,if_neg k1',if_neg k2',if_neg k3'] at this
 exact this
end Go.Proofs.T
