import Derived.Test.YtjlmgabhhodhfaaGreatDoorZ3Z4
set_option linter.unusedVariables false
set_option linter.unusedSimpArgs false
set_option maxRecDepth 100000
namespace Go.Proofs.T
open Go.Ev
open Nat (reduceMul reducePow reduceSub reduceEqDiff reduceLT reduceAdd reduceLeDiff)
open UInt8 (reduceToNat)
theorem undo_cases {n : Nat} {Lm : List (List AV)} (hLm : ∀ x ∈ Lm,MrkT n x) : (((Lm.length : Int) > 0) = False ∧ undoingB Lm = false) ∨ (((Lm.length : Int) > 0) = True ∧ ∃ (k t s h : Int) (vu a0 a1 a2 a3 a4 : AV),Lm[Lm.length - 1]? = some [.int .i64 k,.int .i64 t,.int .i64 s,.int .i64 h,vu,a0,a1,a2,a3,a4] ∧ undoingB Lm = (k == 3)):=by
 by_cases h0 : 0 < Lm.length
 ·refine .inr ⟨eq_true (by omega),?_⟩
  obtain ⟨c,hc⟩ : ∃ c,Lm[Lm.length - 1]? = some c:=⟨_,List.getElem?_eq_getElem (show Lm.length - 1 < Lm.length by omega)⟩
  obtain ⟨k,t,s,h,vu,Lu,a0,a1,a2,a3,a4,rfl,_⟩:=hLm c (List.mem_of_getElem? hc)
  refine ⟨k,t,s,h,vu,a0,a1,a2,a3,a4,hc,?_⟩
  unfold undoingB
  rw [List.getD_eq_getElem?_getD,hc,decide_eq_true h0,Bool.true_and];rfl
 ·refine .inl ⟨eq_false (by omega),?_⟩
  unfold undoingB
  rw [decide_eq_false h0,Bool.false_and]
theorem opd_last {Lm L : List (List AV)} {p nf nW h : Int} {sel : Bool} (x : Int) (hx : (if nW = 0 then h else if 1 ≤ p ∧ p ≤ (L.length : Int) ∧ (opI (L.getD (p - 1).toNat []) = 26 ∧ sel = false ∧ nW = 1 ∨ opI (L.getD (p - 1).toNat []) = 27 ∧ bI (L.getD (p - 1).toNat []) = 0 ∧ aI (L.getD (p - 1).toNat []) = nW ∧ sel = true) then h - 1 else -1) = x) : opnV true Lm L p nf nW sel h = x:=by
 unfold opnV
 rw [if_neg (by simp)];exact hx
theorem opd_inner {Lm L : List (List AV)} {p nf nW h : Int} {sel : Bool} (x : Int) (hx : (if undoingB Lm = true then 0 else if 1 ≤ p ∧ p ≤ (L.length : Int) ∧ opI (L.getD (p - 1).toNat []) = 17 ∧ aI (L.getD (p - 1).toNat []) = nf then h - 1 else -1) = x) : opnV false Lm L p nf nW sel h = x:=by
 unfold opnV
 rw [if_pos rfl];exact hx
set_option maxHeartbeats 16000000 in
theorem f84_ok {n fn : Nat} {vF vG vI vH v vs vt vm : AV} {nm : List Nat} {P S p : Int} {LF L Lf Lm Lt Lw : List (List AV)} {vf vw : AV} {st fut : Int} {sel : Bool} {key : List Nat} (hFv : ∀ H,Holds H 4 vF LF) (cG : vG.isCell = true) (cI : vI.isCell = true) (cH : vH.isCell = true) (hc : LF[fn]? = some [.str nm,.int .i64 P,.int .i64 S,v]) (hv : ∀ H,Holds H 9 v L) (hL : ∀ c ∈ L,InsT n c) (hL0 : L.length < 2 ^ 60) (cs : vs.isCell = true) (ct : vt.isCell = true) (cm : vm.isCell = true) (hm : ∀ H,Holds H 10 vm Lm) (hLm : ∀ x ∈ Lm,MrkT n x) (nLm : Lm.length < 2 ^ 60) (hf : ∀ H,Holds H 5 vf Lf) (hLf : ∀ x ∈ Lf,FrmT n x) (nLf : Lf.length < 2 ^ 60) (hw : ∀ H,Holds H 1 vw Lw) {i : Nat} (hi : Lf[i]? = some [.int .i64 (fn : Int),.int .i64 p,vs,vt,vm]) {h : Int} (hh1 : -1 ≤ h) (hh2 : h < 2 ^ 60) (H : Heap) (hF : Free H) (K : AV → Heap → Prop) (hK : ∀ H',Up H H' → Free H' → K (.int .i64 (opnV (decide (i + 1 = Lf.length)) Lm L p (nI (Lf.getD (i + 1) []) 0) Lw.length sel h)) H') : WF Tryz.prog 84 [.agg [vF,vG,vI,vH],.agg [.int .i64 st,vf,.int .i64 fut,vw,.bool sel,.str key],.int .i64 (i : Int),.int .i64 h] H K:=by
 have hlf : ∀ G,evBuiltin Tryz.prog G .len #[28] [vf] = some (.int .i64 Lf.length,G):=fun G=>(hf G).lenAt und28 G
 have hlw : ∀ G,evBuiltin Tryz.prog G .len #[29] [vw] = some (.int .i64 Lw.length,G):=fun G=>(hw G).lenAt und29 G
 have hlm : ∀ G,evBuiltin Tryz.prog G .len #[53] [vm] = some (.int .i64 Lm.length,G):=fun G=>(hm G).lenAt und53 G
 have cF:=holds_cell (hFv H)
 have cf:=holds_cell (hf H)
 have cw:=holds_cell (hw H)
 have hixi:=idx28 hf hi
 have hil : i < Lf.length:=(List.getElem?_eq_some_iff.1 hi).1
 have wl : IntKind.i64.wrap ((Lf.length : Int) - 1) = (Lf.length : Int) - 1:=IntWalk.i64_in _ (by omega)
 have wm : 0 < Lm.length → IntKind.i64.wrap ((Lm.length : Int) - 1) = ((Lm.length - 1 : Nat) : Int):=fun h0=>by rw [IntWalk.i64_in _ (by omega)];omega
 have wh : IntKind.i64.wrap (h - 1) = h - 1:=IntWalk.i64_in _ (by omega)
 refine WF_body Tryz.func84 (by kernel_rfl) rfl Tryz.ntmps84 (by rw [Tryz.results84]) (of_decide_eq_true (by kernel_rfl)) ?_
 simp (maxSteps:=999999) only [ey,Nat.reduceBEq,reduceEqDiff,reduceLT,reduceCtorEq,reduceAdd,reduceLeDiff,hF.at,hF.hp,cF,cG,cI,cH,cs,ct,cm,cf,cw,hixi]
 generalize hH1 : HP H [Blk.row 27 4 [[vF,vG,vI,vH]] 0 0,Blk.row 31 6 [[.int .i64 st,vf,.int .i64 fut,vw,.bool sel,.str key]] 0 0,Blk.row 55 5 [[.int .i64 (fn : Int),.int .i64 p,vs,vt,vm]] 0 0] = H1
 have b0 : H1.blk H.next = some (.row 27 4 [[vF,vG,vI,vH]] 0 0):=by rw [← hH1,hp_blk0];rfl
 have b1 : H1.blk (H.next + 1) = some (.row 31 6 [[.int .i64 st,vf,.int .i64 fut,vw,.bool sel,.str key]] 0 0):=by rw [← hH1,hp_blk];rfl
 have b2 : H1.blk (H.next + 2) = some (.row 55 5 [[.int .i64 (fn : Int),.int .i64 p,vs,vt,vm]] 0 0):=by rw [← hH1,hp_blk];rfl
 have hF1 : Free H1:=hH1 ▸ hF.hpF _
 have hU1 : Up H H1:=hH1 ▸ hF.hpU _
 refine callStep (f70_ok hFv cG cI cH hc hv hL hL0 cs ct cm H1 hF1 _ (fun j c hp hcj H2 hU2 hF2=>?_) (fun hp H2 hU2 hF2=>?_))
 ·subst hp
  have hcm:=hL c (List.mem_of_getElem? hcj)
  obtain ⟨op,a,b,t,V,rfl,hV⟩:=hcm
  obtain ⟨d0,d1,d2,d3,d4,rfl⟩:=five hV.len
  have hVc:=hV.cells
  simp only [List.all_cons,List.all_nil,Bool.and_true,Bool.and_eq_true] at hVc
  obtain ⟨i0,i1,i2,i3,i4⟩:=hVc
  simp only [List.cons_append,List.nil_append] at hcj ⊢
  have hjl : j < L.length:=(List.getElem?_eq_some_iff.1 hcj).1
  have hgd : L.getD ((j : Int) + 1 - 1).toNat [] = [.int .i64 op,.int .i64 a,.int .i64 b,.str t,d0,d1,d2,d3,d4]:=by rw [show ((j : Int) + 1 - 1).toNat = j by omega,List.getD_eq_getElem?_getD,hcj];rfl
  have ho : opI (L.getD ((j : Int) + 1 - 1).toNat []) = op:=by rw [hgd];rfl
  have ha : aI (L.getD ((j : Int) + 1 - 1).toNat []) = a:=by rw [hgd];rfl
  have hbb : bI (L.getD ((j : Int) + 1 - 1).toNat []) = b:=by rw [hgd];rfl
  have hp1 : (1 : Int) ≤ (j : Int) + 1:=by omega
  have hp2 : (j : Int) + 1 ≤ (L.length : Int):=by omega
  have hb0:=hU2 _ _ b0
  have hb1:=hU2 _ _ b1
  have hb2:=hU2 _ _ b2
  simp (maxSteps:=999999) only [ey,Nat.reduceBEq,reduceEqDiff,reduceLT,reduceCtorEq,reduceAdd,reduceLeDiff,hF2.at,hF2.hp,hb0,hb1,hb2,i0,i1,i2,i3,i4]
  generalize hH3 : HP H2 [Blk.row 104 9 [[.int .i64 op,.int .i64 a,.int .i64 b,.str t,d0,d1,d2,d3,d4]] 0 0] = H3
  have g0 : H3.blk H2.next = some (.row 104 9 [[.int .i64 op,.int .i64 a,.int .i64 b,.str t,d0,d1,d2,d3,d4]] 0 0):=by rw [← hH3,hp_blk0];rfl
  have hF3 : Free H3:=hH3 ▸ hF2.hpF _
  have hU3 : Up H2 H3:=hH3 ▸ hF2.hpU _
  have k1:=hU3 _ _ hb1
  have k2:=hU3 _ _ hb2
  have hU:=hU1.trans (hU2.trans hU3)
  by_cases hlast : i + 1 = Lf.length
  ·have hdl : decide (i + 1 = Lf.length) = true:=decide_eq_true hlast
   have hlt : ((i : Int) < (Lf.length : Int) - 1) = False:=eq_false (by omega)
   rw [hdl] at hK
   by_cases hw0 : (Lw.length : Int) = 0
   ·simp (maxSteps:=999999) only [ey,Nat.reduceBEq,reduceEqDiff,reduceLT,reduceCtorEq,reduceAdd,reduceLeDiff,hb1,hb2,k1,k2,hlf,hlw,wl,hlt,show ((Lw.length : Int) == 0) = true from by rw [hw0];rfl]
    have:=hK _ hU hF3
    rw [opd_last h (if_pos hw0)] at this
    exact this
   have hwn : ((Lw.length : Int) == 0) = false:=by simpa using hw0
   by_cases o26 : op = 26
   ·subst o26
    cases sel with
    | true=>
     simp (maxSteps:=999999) only [ey,Nat.reduceBEq,reduceEqDiff,reduceLT,reduceCtorEq,reduceAdd,reduceLeDiff,k1,k2,g0,hlf,hlw,wl,hlt,hwn,wh,Int.reduceBEq,Bool.not_true,Bool.not_false]
     have:=hK _ hU hF3
     rw [opd_last (-1) (by rw [if_neg hw0,if_neg (by rw [ho];simp)])] at this
     exact this
    | false=>
     by_cases w1 : (Lw.length : Int) = 1
     ·have x1 : ((Lw.length : Int) == 1) = true:=by simpa using w1
      simp (maxSteps:=999999) only [ey,Nat.reduceBEq,reduceEqDiff,reduceLT,reduceCtorEq,reduceAdd,reduceLeDiff,k1,k2,g0,hlf,hlw,wl,hlt,hwn,wh,Int.reduceBEq,Bool.not_true,Bool.not_false,x1]
      have:=hK _ hU hF3
      rw [opd_last (h - 1) (by rw [if_neg hw0,if_pos ⟨hp1,hp2,.inl ⟨ho,rfl,w1⟩⟩])] at this
      exact this
     ·have x1 : ((Lw.length : Int) == 1) = false:=by simpa using w1
      simp (maxSteps:=999999) only [ey,Nat.reduceBEq,reduceEqDiff,reduceLT,reduceCtorEq,reduceAdd,reduceLeDiff,k1,k2,g0,hlf,hlw,wl,hlt,hwn,wh,Int.reduceBEq,Bool.not_true,Bool.not_false,x1]
      have:=hK _ hU hF3
      rw [opd_last (-1) (by rw [if_neg hw0,if_neg (fun q=>by rcases q.2.2 with q | q;exact w1 q.2.2;rw [ho] at q;exact absurd q.1 (by decide))])] at this
      exact this
   have x26 : (op == 26) = false:=by simpa using o26
   by_cases o27 : op = 27
   ·subst o27
    by_cases hb0 : b = 0
    ·subst hb0
     by_cases haw : a = (Lw.length : Int)
     ·have xa : (a == (Lw.length : Int)) = true:=by simpa using haw
      cases sel with
      | true=>
       simp (maxSteps:=999999) only [ey,Nat.reduceBEq,reduceEqDiff,reduceLT,reduceCtorEq,reduceAdd,reduceLeDiff,k1,k2,g0,hlf,hlw,wl,hlt,hwn,wh,Int.reduceBEq,Bool.not_true,Bool.not_false,x26,xa]
       have:=hK _ hU hF3
       rw [opd_last (h - 1) (by rw [if_neg hw0,if_pos ⟨hp1,hp2,.inr ⟨ho,hbb,ha.trans haw,rfl⟩⟩])] at this
       exact this
      | false=>
       simp (maxSteps:=999999) only [ey,Nat.reduceBEq,reduceEqDiff,reduceLT,reduceCtorEq,reduceAdd,reduceLeDiff,k1,k2,g0,hlf,hlw,wl,hlt,hwn,wh,Int.reduceBEq,Bool.not_true,Bool.not_false,x26,xa]
       have:=hK _ hU hF3
       rw [opd_last (-1) (by rw [if_neg hw0,if_neg (fun q=>by rcases q.2.2 with q | q;rw [ho] at q;exact absurd q.1 (by decide);exact absurd q.2.2.2 (by decide))])] at this
       exact this
     ·have xa : (a == (Lw.length : Int)) = false:=by simpa using haw
      simp (maxSteps:=999999) only [ey,Nat.reduceBEq,reduceEqDiff,reduceLT,reduceCtorEq,reduceAdd,reduceLeDiff,k1,k2,g0,hlf,hlw,wl,hlt,hwn,wh,Int.reduceBEq,Bool.not_true,Bool.not_false,x26,xa]
      have:=hK _ hU hF3
      rw [opd_last (-1) (by rw [if_neg hw0,if_neg (fun q=>by rcases q.2.2 with q | q;rw [ho] at q;exact absurd q.1 (by decide);exact haw (ha.symm.trans q.2.2.1))])] at this
      exact this
    ·have xb : (b == 0) = false:=by simpa using hb0
     simp (maxSteps:=999999) only [ey,Nat.reduceBEq,reduceEqDiff,reduceLT,reduceCtorEq,reduceAdd,reduceLeDiff,k1,k2,g0,hlf,hlw,wl,hlt,hwn,wh,Int.reduceBEq,Bool.not_true,Bool.not_false,x26,xb]
     have:=hK _ hU hF3
     rw [opd_last (-1) (by rw [if_neg hw0,if_neg (fun q=>by rcases q.2.2 with q | q;rw [ho] at q;exact absurd q.1 (by decide);exact hb0 (hbb.symm.trans q.2.1))])] at this
     exact this
   have x27 : (op == 27) = false:=by simpa using o27
   simp (maxSteps:=999999) only [ey,Nat.reduceBEq,reduceEqDiff,reduceLT,reduceCtorEq,reduceAdd,reduceLeDiff,k1,k2,g0,hlf,hlw,wl,hlt,hwn,wh,Int.reduceBEq,Bool.not_true,Bool.not_false,x26,x27]
   have:=hK _ hU hF3
   rw [opd_last (-1) (by rw [if_neg hw0,if_neg (fun q=>by rcases q.2.2 with q | q;exact o26 (ho.symm.trans q.1);exact o27 (ho.symm.trans q.1))])] at this
   exact this
  ·have hdl : decide (i + 1 = Lf.length) = false:=decide_eq_false hlast
   have hlt : ((i : Int) < (Lf.length : Int) - 1) = True:=eq_true (by omega)
   rw [hdl] at hK
   obtain ⟨c',hc'⟩ : ∃ c',Lf[i + 1]? = some c':=⟨_,List.getElem?_eq_getElem (show i + 1 < Lf.length by omega)⟩
   have hixn : ∀ G,evIndexAddr Tryz.prog G 28 vf (.int .i64 ((i : Int) + 1)) = some (.iptr c' 0):=fun G=>by have:=idx28 hf hc' G;rwa [Int.natCast_add] at this
   obtain ⟨f2,p2,vs2,vt2,vm2,_,_,_,rfl,_⟩:=hLf c' (List.mem_of_getElem? hc')
   have hnf : nI (Lf.getD (i + 1) []) 0 = f2:=by rw [List.getD_eq_getElem?_getD,hc'];rfl
   have wi : IntKind.i64.wrap ((i : Int) + 1) = (i : Int) + 1:=IntWalk.i64_in _ (by omega)
   rw [hnf] at hK
   rcases undo_cases hLm with ⟨u1,u2⟩ | ⟨u1,mk,mt,ms,mh,mu,m0,m1,m2,m3,m4,u3,u2⟩
   ·by_cases o17 : op = 17
    ·subst o17
     by_cases haf : a = f2
     ·have xa : (a == f2) = true:=by simpa using haf
      simp (maxSteps:=999999) only [ey,Nat.reduceBEq,reduceEqDiff,reduceLT,reduceCtorEq,reduceAdd,reduceLeDiff,k1,k2,g0,hlf,hlw,hlm,wl,hlt,wh,wi,hixn,Int.reduceBEq,u1,xa]
      refine drawStep [] [0,1,2,3,4,5,6,7,8,9,10,11,12,13,14,15,16,17] _ rfl (by kernel_rfl) ?_
      simp (maxSteps:=999999) only [ey,Nat.reduceBEq,reduceEqDiff,reduceLT,reduceCtorEq,reduceAdd,reduceLeDiff,k1,k2,g0,hlf,hlw,hlm,wl,hlt,wh,wi,hixn,Int.reduceBEq,u1,xa]
      have:=hK _ hU hF3
      rw [opd_inner (h - 1) (by rw [if_neg (by rw [u2];simp),if_pos ⟨hp1,hp2,ho,ha.trans haf⟩])] at this
      exact this
     ·have xa : (a == f2) = false:=by simpa using haf
      simp (maxSteps:=999999) only [ey,Nat.reduceBEq,reduceEqDiff,reduceLT,reduceCtorEq,reduceAdd,reduceLeDiff,k1,k2,g0,hlf,hlw,hlm,wl,hlt,wh,wi,hixn,Int.reduceBEq,u1,xa]
      refine drawStep [] [0,1,2,3,4,5,6,7,8,9,10,11,12,13,14,15,16,17] _ rfl (by kernel_rfl) ?_
      simp (maxSteps:=999999) only [ey,Nat.reduceBEq,reduceEqDiff,reduceLT,reduceCtorEq,reduceAdd,reduceLeDiff,k1,k2,g0,hlf,hlw,hlm,wl,hlt,wh,wi,hixn,Int.reduceBEq,u1,xa]
      have:=hK _ hU hF3
      rw [opd_inner (-1) (by rw [if_neg (by rw [u2];simp),if_neg (fun q=>haf (ha.symm.trans q.2.2.2))])] at this
      exact this
    ·have x17 : (op == 17) = false:=by simpa using o17
     simp (maxSteps:=999999) only [ey,Nat.reduceBEq,reduceEqDiff,reduceLT,reduceCtorEq,reduceAdd,reduceLeDiff,k1,k2,g0,hlf,hlw,hlm,wl,hlt,wh,wi,hixn,Int.reduceBEq,u1,x17]
     refine drawStep [] [0,1,2,3,4,5,6,7,8,9,10,11,12,13,14,15,16,17] _ rfl (by kernel_rfl) ?_
     simp (maxSteps:=999999) only [ey,Nat.reduceBEq,reduceEqDiff,reduceLT,reduceCtorEq,reduceAdd,reduceLeDiff,k1,k2,g0,hlf,hlw,hlm,wl,hlt,wh,wi,hixn,Int.reduceBEq,u1,x17]
     have:=hK _ hU hF3
     rw [opd_inner (-1) (by rw [if_neg (by rw [u2];simp),if_neg (fun q=>o17 (ho.symm.trans q.2.2.1))])] at this
     exact this
   ·have wm':=wm (by have:=of_eq_true u1;omega)
    have hixm:=idx53 hm u3
    by_cases k3 : mk = 3
    ·subst k3
     simp (maxSteps:=999999) only [ey,Nat.reduceBEq,reduceEqDiff,reduceLT,reduceCtorEq,reduceAdd,reduceLeDiff,hb1,hb2,k1,k2,g0,hlf,hlm,wl,hlt,u1,wm',hixm,Int.reduceBEq]
     have:=hK _ hU hF3
     rw [opd_inner (0) (by rw [if_pos (by rw [u2];rfl)])] at this
     exact this
    ·have x3 : (mk == 3) = false:=by simpa using k3
     by_cases o17 : op = 17
     ·subst o17
      by_cases haf : a = f2
      ·have xa : (a == f2) = true:=by simpa using haf
       simp (maxSteps:=999999) only [ey,Nat.reduceBEq,reduceEqDiff,reduceLT,reduceCtorEq,reduceAdd,reduceLeDiff,k1,k2,g0,hlf,hlw,hlm,wl,hlt,wh,wi,hixn,Int.reduceBEq,u1,wm',hixm,x3,xa]
       refine drawStep [] [0,1,2,3,4,5,6,7,8,9,10,11,12,13,14,15,16,17] _ rfl (by kernel_rfl) ?_
       simp (maxSteps:=999999) only [ey,Nat.reduceBEq,reduceEqDiff,reduceLT,reduceCtorEq,reduceAdd,reduceLeDiff,k1,k2,g0,hlf,hlw,hlm,wl,hlt,wh,wi,hixn,Int.reduceBEq,u1,wm',hixm,x3,xa]
       have:=hK _ hU hF3
       rw [opd_inner (h - 1) (by rw [if_neg (by rw [u2,x3];simp),if_pos ⟨hp1,hp2,ho,ha.trans haf⟩])] at this
       exact this
      ·have xa : (a == f2) = false:=by simpa using haf
       simp (maxSteps:=999999) only [ey,Nat.reduceBEq,reduceEqDiff,reduceLT,reduceCtorEq,reduceAdd,reduceLeDiff,k1,k2,g0,hlf,hlw,hlm,wl,hlt,wh,wi,hixn,Int.reduceBEq,u1,wm',hixm,x3,xa]
       refine drawStep [] [0,1,2,3,4,5,6,7,8,9,10,11,12,13,14,15,16,17] _ rfl (by kernel_rfl) ?_
       simp (maxSteps:=999999) only [ey,Nat.reduceBEq,reduceEqDiff,reduceLT,reduceCtorEq,reduceAdd,reduceLeDiff,k1,k2,g0,hlf,hlw,hlm,wl,hlt,wh,wi,hixn,Int.reduceBEq,u1,wm',hixm,x3,xa]
       have:=hK _ hU hF3
       rw [opd_inner (-1) (by rw [if_neg (by rw [u2,x3];simp),if_neg (fun q=>haf (ha.symm.trans q.2.2.2))])] at this
       exact this
     ·have x17 : (op == 17) = false:=by simpa using o17
      simp (maxSteps:=999999) only [ey,Nat.reduceBEq,reduceEqDiff,reduceLT,reduceCtorEq,reduceAdd,reduceLeDiff,k1,k2,g0,hlf,hlw,hlm,wl,hlt,wh,wi,hixn,Int.reduceBEq,u1,wm',hixm,x3,x17]
      refine drawStep [] [0,1,2,3,4,5,6,7,8,9,10,11,12,13,14,15,16,17] _ rfl (by kernel_rfl) ?_
      simp (maxSteps:=999999) only [ey,Nat.reduceBEq,reduceEqDiff,reduceLT,reduceCtorEq,reduceAdd,reduceLeDiff,k1,k2,g0,hlf,hlw,hlm,wl,hlt,wh,wi,hixn,Int.reduceBEq,u1,wm',hixm,x3,x17]
      have:=hK _ hU hF3
      rw [opd_inner (-1) (by rw [if_neg (by rw [u2,x3];simp),if_neg (fun q=>o17 (ho.symm.trans q.2.2.1))])] at this
      exact this
 ·have hb0:=hU2 _ _ b0
  have hb1:=hU2 _ _ b1
  have hb2:=hU2 _ _ b2
  simp (maxSteps:=999999) only [ey,Nat.reduceBEq,reduceEqDiff,reduceLT,reduceCtorEq,reduceAdd,reduceLeDiff,hF2.at,hF2.hp,hb0,hb1,hb2]
  generalize hH3 : HP H2 [Blk.row 104 9 [[.int .i64 0,.int .i64 0,.int .i64 0,.str [],.int .i64 0,.int .i64 0,.str [],.nilslice,.nilslice]] 0 0] = H3
  have g0 : H3.blk H2.next = some (.row 104 9 [[.int .i64 0,.int .i64 0,.int .i64 0,.str [],.int .i64 0,.int .i64 0,.str [],.nilslice,.nilslice]] 0 0):=by rw [← hH3,hp_blk0];rfl
  have hF3 : Free H3:=hH3 ▸ hF2.hpF _
  have hU3 : Up H2 H3:=hH3 ▸ hF2.hpU _
  have k1:=hU3 _ _ hb1
  have k2:=hU3 _ _ hb2
  have hU:=hU1.trans (hU2.trans hU3)
  by_cases hlast : i + 1 = Lf.length
  ·have hdl : decide (i + 1 = Lf.length) = true:=decide_eq_true hlast
   have hlt : ((i : Int) < (Lf.length : Int) - 1) = False:=eq_false (by omega)
   rw [hdl] at hK
   by_cases hw0 : (Lw.length : Int) = 0
   ·simp (maxSteps:=999999) only [ey,Nat.reduceBEq,reduceEqDiff,reduceLT,reduceCtorEq,reduceAdd,reduceLeDiff,hb1,hb2,k1,k2,hlf,hlw,wl,hlt,show ((Lw.length : Int) == 0) = true from by rw [hw0];rfl]
    have:=hK _ hU hF3
    rw [opd_last h (if_pos hw0)] at this
    exact this
   have hwn : ((Lw.length : Int) == 0) = false:=by simpa using hw0
   simp (maxSteps:=999999) only [ey,Nat.reduceBEq,reduceEqDiff,reduceLT,reduceCtorEq,reduceAdd,reduceLeDiff,k1,k2,g0,hlf,hlw,wl,hlt,hwn,wh,Int.reduceBEq,Bool.not_true,Bool.not_false]
   have:=hK _ hU hF3
   rw [opd_last (-1) (by rw [if_neg hw0,if_neg (by omega)])] at this
   exact this
  ·have hdl : decide (i + 1 = Lf.length) = false:=decide_eq_false hlast
   have hlt : ((i : Int) < (Lf.length : Int) - 1) = True:=eq_true (by omega)
   rw [hdl] at hK
   obtain ⟨c',hc'⟩ : ∃ c',Lf[i + 1]? = some c':=⟨_,List.getElem?_eq_getElem (show i + 1 < Lf.length by omega)⟩
   have hixn : ∀ G,evIndexAddr Tryz.prog G 28 vf (.int .i64 ((i : Int) + 1)) = some (.iptr c' 0):=fun G=>by have:=idx28 hf hc' G;rwa [Int.natCast_add] at this
   obtain ⟨f2,p2,vs2,vt2,vm2,_,_,_,rfl,_⟩:=hLf c' (List.mem_of_getElem? hc')
   have hnf : nI (Lf.getD (i + 1) []) 0 = f2:=by rw [List.getD_eq_getElem?_getD,hc'];rfl
   have wi : IntKind.i64.wrap ((i : Int) + 1) = (i : Int) + 1:=IntWalk.i64_in _ (by omega)
   rw [hnf] at hK
   rcases undo_cases hLm with ⟨u1,u2⟩ | ⟨u1,mk,mt,ms,mh,mu,m0,m1,m2,m3,m4,u3,u2⟩
   ·simp (maxSteps:=999999) only [ey,Nat.reduceBEq,reduceEqDiff,reduceLT,reduceCtorEq,reduceAdd,reduceLeDiff,k1,k2,g0,hlf,hlw,hlm,wl,hlt,wh,wi,hixn,Int.reduceBEq,u1]
    refine drawStep [] [0,1,2,3,4,5,6,7,8,9,10,11,12,13,14,15,16,17] _ rfl (by kernel_rfl) ?_
    simp (maxSteps:=999999) only [ey,Nat.reduceBEq,reduceEqDiff,reduceLT,reduceCtorEq,reduceAdd,reduceLeDiff,k1,k2,g0,hlf,hlw,hlm,wl,hlt,wh,wi,hixn,Int.reduceBEq,u1]
    have:=hK _ hU hF3
    rw [opd_inner (-1) (by rw [if_neg (by rw [u2];simp),if_neg (by omega)])] at this
    exact this
   ·have wm':=wm (by have:=of_eq_true u1;omega)
    have hixm:=idx53 hm u3
    by_cases k3 : mk = 3
    ·subst k3
     simp (maxSteps:=999999) only [ey,Nat.reduceBEq,reduceEqDiff,reduceLT,reduceCtorEq,reduceAdd,reduceLeDiff,hb1,hb2,k1,k2,g0,hlf,hlm,wl,hlt,u1,wm',hixm,Int.reduceBEq]
     have:=hK _ hU hF3
     rw [opd_inner (0) (by rw [if_pos (by rw [u2];rfl)])] at this
     exact this
    ·have x3 : (mk == 3) = false:=by simpa using k3
     simp (maxSteps:=999999) only [ey,Nat.reduceBEq,reduceEqDiff,reduceLT,reduceCtorEq,reduceAdd,reduceLeDiff,k1,k2,g0,hlf,hlw,hlm,wl,hlt,wh,wi,hixn,Int.reduceBEq,u1,wm',hixm,x3]
     refine drawStep [] [0,1,2,3,4,5,6,7,8,9,10,11,12,13,14,15,16,17] _ rfl (by kernel_rfl) ?_
     simp (maxSteps:=999999) only [ey,Nat.reduceBEq,reduceEqDiff,reduceLT,reduceCtorEq,reduceAdd,reduceLeDiff,k1,k2,g0,hlf,hlw,hlm,wl,hlt,wh,wi,hixn,Int.reduceBEq,u1,wm',hixm,x3]
     have:=hK _ hU hF3
     rw [opd_inner (-1) (by rw [if_neg (by rw [u2,x3];simp),if_neg (by omega)])] at this
     exact this
end Go.Proofs.T
