import Derived.Test.YtjlmgabhhodhfaaGreatDoorCUZ8
set_option linter.unusedVariables false
set_option linter.unusedSimpArgs false
set_option maxRecDepth 100000
namespace Go.Proofs.T
open Go.Ev
open Nat (reduceMul reducePow reduceSub reduceEqDiff reduceLT reduceAdd reduceLeDiff)
open UInt8 (reduceToNat)
theorem lt_last {i n : Nat} (h : i < n) : decide ((i : Int) < (n : Int) - 1) = !decide (i + 1 = n):=by
 by_cases q : i + 1 = n
 ·rw [decide_eq_true q,decide_eq_false (by omega)];rfl
 ·rw [decide_eq_false q,decide_eq_true (by omega)];rfl
set_option maxHeartbeats 16000000 in
theorem f46_ok {n i : Nat} {vF vG vI vH vs vt vm : AV} {f p : Int} {LF LG LI LH Lf Lw : List (List AV)} {vf vw : AV} {st fut : Int} {sel : Bool} {key : List Nat} (h : CodT n vF vG vI vH LF LG LI LH) (hr : rightC n LF LG LI LH = true) (hf : ∀ H,Holds H 5 vf Lf) (hLf : ∀ x ∈ Lf,FrmT n x) (nLf : Lf.length < 2 ^ 60) (hw : ∀ H,Holds H 1 vw Lw) (hi : Lf[i]? = some [.int .i64 f,.int .i64 p,vs,vt,vm]) (hsel : (Lw.length : Int) = 0 → sel = false) (H : Heap) (hF : Free H) (K : AV → Heap → Prop) (hK : ∀ H',Up H H' → Free H' → K (.bool (frmB LF Lf Lw.length sel i)) H') : WF Tryz.prog 46 [.agg [vF,vG,vI,vH],.agg [.int .i64 st,vf,.int .i64 fut,vw,.bool sel,.str key],.int .i64 (i : Int)] H K:=by
 obtain ⟨f',p',vs',vt',vm',Ls,Lt,Lm,e,hs,ht,hmk,fS,fT,fM,nS,nT,nM⟩:=hLf _ (List.mem_of_getElem? hi)
 simp only [List.cons.injEq,AV.int.injEq,true_and,and_true] at e
 obtain ⟨rfl,rfl,rfl,rfl,rfl⟩:=e
 have hlf : ∀ G,evBuiltin Tryz.prog G .len #[28] [vf] = some (.int .i64 Lf.length,G):=fun G=>(hf G).lenAt und28 G
 have hlF : ∀ G,evBuiltin Tryz.prog G .len #[22] [vF] = some (.int .i64 LF.length,G):=fun G=>(h.hF G).lenAt und22 G
 have hls : ∀ G,evBuiltin Tryz.prog G .len #[24] [vs] = some (.int .i64 Ls.length,G):=fun G=>(hs G).lenAt und24 G
 have hlt : ∀ G,evBuiltin Tryz.prog G .len #[24] [vt] = some (.int .i64 Lt.length,G):=fun G=>(ht G).lenAt und24 G
 have hlm : ∀ G,evBuiltin Tryz.prog G .len #[53] [vm] = some (.int .i64 Lm.length,G):=fun G=>(hmk G).lenAt und53 G
 have cf:=holds_cell (hf H)
 have cw:=holds_cell (hw H)
 have cs:=holds_cell (hs H)
 have ct:=holds_cell (ht H)
 have cm:=holds_cell (hmk H)
 have cF:=holds_cell (h.hF H)
 have cG:=holds_cell (h.hG H)
 have cI:=holds_cell (h.hI H)
 have cH:=holds_cell (h.hH H)
 have hixi:=idx28 hf hi
 have hil : i < Lf.length:=(List.getElem?_eq_some_iff.1 hi).1
 have wl : IntKind.i64.wrap ((Lf.length : Int) - 1) = (Lf.length : Int) - 1:=IntWalk.i64_in _ (by omega)
 have hld:=lt_last hil
 have stop : belowV f LF.length = false → frmB LF Lf Lw.length sel i = false:=fun q=>frm_out hi q
 refine WF_body Tryz.func46 (by kernel_rfl) rfl Tryz.ntmps46 (by rw [Tryz.results46]) (of_decide_eq_true (by kernel_rfl)) ?_
 simp (maxSteps:=999999) only [ey,Nat.reduceBEq,reduceEqDiff,reduceLT,reduceCtorEq,reduceAdd,reduceLeDiff,hF.at,hF.hp,cF,cG,cI,cH,cs,ct,cm,cf,cw,hixi]
 generalize hH1 : HP H [Blk.row 27 4 [[vF,vG,vI,vH]] 0 0,Blk.row 31 6 [[.int .i64 st,vf,.int .i64 fut,vw,.bool sel,.str key]] 0 0,Blk.row 55 5 [[.int .i64 f,.int .i64 p,vs,vt,vm]] 0 0] = H1
 have b0 : H1.blk H.next = some (.row 27 4 [[vF,vG,vI,vH]] 0 0):=by rw [← hH1,hp_blk0];rfl
 have b1 : H1.blk (H.next + 1) = some (.row 31 6 [[.int .i64 st,vf,.int .i64 fut,vw,.bool sel,.str key]] 0 0):=by rw [← hH1,hp_blk];rfl
 have b2 : H1.blk (H.next + 2) = some (.row 55 5 [[.int .i64 f,.int .i64 p,vs,vt,vm]] 0 0):=by rw [← hH1,hp_blk];rfl
 have hF1 : Free H1:=hH1 ▸ hF.hpF _
 have hU1 : Up H H1:=hH1 ▸ hF.hpU _
 refine drawStep [] [0,1,2,3,4,5,6,7,8,9,10,11,12,13,14,15,16,17,18,19,20,21,22,23] _ rfl (by kernel_rfl) ?_
 by_cases c1 : f < 0
 ·simp (maxSteps:=999999) only [ey,Nat.reduceBEq,reduceEqDiff,reduceLT,reduceCtorEq,reduceAdd,reduceLeDiff,b2,c1]
  have:=hK _ hU1 hF1
  rw [stop (below_neg c1)] at this
  exact this
 by_cases c2 : f ≥ (LF.length : Int)
 ·simp (maxSteps:=999999) only [ey,Nat.reduceBEq,reduceEqDiff,reduceLT,reduceCtorEq,reduceAdd,reduceLeDiff,b0,b2,c1,c2,hlF]
  have:=hK _ hU1 hF1
  rw [stop (below_ge c2)] at this
  exact this
 obtain ⟨fn,rfl⟩ : ∃ m : Nat,f = (m : Int):=⟨f.toNat,by omega⟩
 obtain ⟨c,hc⟩ : ∃ c,LF[fn]? = some c:=⟨_,List.getElem?_eq_getElem (show fn < LF.length by omega)⟩
 obtain ⟨nm,P,S,v,L,rfl,hv,hL,hLn⟩:=h.fF c (List.mem_of_getElem? hc)
 obtain ⟨hFi,hl1,hl2,hj⟩:=fn_fine hr hv hLn hc
 have hll : (htsL L).length = L.length:=(htsL_ok hFi).1
 have hix:=idx22 h.hF hc
 rw [frm_in hi hc hv hs ht hmk] at hK
 cases c3 : ((Ls.length : Int) == S) with
 | false=>
  simp (maxSteps:=999999) only [ey,Nat.reduceBEq,reduceEqDiff,reduceLT,reduceCtorEq,reduceAdd,reduceLeDiff,b0,b2,c1,c2,hlF,hls,hix,show ((Ls.length : Int) != S) = true from by rw [bne,c3];rfl]
  have:=hK _ hU1 hF1
  rw [c3,Bool.false_and] at this
  exact this
 | true=>
 rw [c3,Bool.true_and] at hK
 simp (maxSteps:=999999) only [ey,Nat.reduceBEq,reduceEqDiff,reduceLT,reduceCtorEq,reduceAdd,reduceLeDiff,b0,b2,c1,c2,hlF,hls,hix,show ((Ls.length : Int) != S) = false from by rw [bne,c3];rfl]
 refine callStep (f83_ok hv hL hj hl2 H1 hF1 _ (fun _ u H2 hU2 hF2 hO=>?_) (fun q=>absurd hFi q))
 obtain ⟨o1,o2,o3⟩:=own_plain hO
 have g0:=hU2 _ _ b0
 have g1:=hU2 _ _ b1
 have g2:=hU2 _ _ b2
 have hU02:=hU1.trans hU2
 have hlu : ∀ G,Up H2 G → evBuiltin Tryz.prog G .len #[29] [u] = some (.int .i64 L.length,G):=fun G hG=>by rw [← hll,← ic_len];exact (hO.holds.up hG).lenAt und29 G
 obtain ⟨hh1,hh2⟩:=hgt_bound hFi p
 simp (maxSteps:=999999) only [ey,Nat.reduceBEq,reduceEqDiff,reduceLT,reduceCtorEq,reduceAdd,reduceLeDiff,o1,o2,o3,g0,g1,g2,hlf,wl]
 refine cutGuard (fun env H'=>H2 = H' ∧ env.at (.tmp 2) = .int .i64 i ∧ env.at (.tmp 3) = .ptr H.next 0 0 0 ∧ env.at (.tmp 4) = .ptr (H.next + 1) 0 0 0 ∧ env.at (.tmp 7) = .ptr (H.next + 2) 0 0 0 ∧ env.at (.tmp 8) = u ∧ env.at (.tmp 10) = .bool (!decide (i + 1 = Lf.length) && undoingB Lm)) ?_ ?_
 ·have wm : 0 < Lm.length → IntKind.i64.wrap ((Lm.length : Int) - 1) = ((Lm.length - 1 : Nat) : Int):=fun h0=>by rw [IntWalk.i64_in _ (by omega)];omega
  by_cases hlast : i + 1 = Lf.length
  ·simp (maxSteps:=999999) only [ey,Nat.reduceBEq,reduceEqDiff,reduceLT,reduceCtorEq,reduceAdd,reduceLeDiff,cutQ_normal,hld,decide_eq_true hlast,Bool.not_true,Bool.false_and] <;> try trivial
  ·rcases undo_cases fM with ⟨u1,u2⟩ | ⟨u1,mk,mt,ms,mh,mu,m0,m1,m2,m3,m4,u3,u2⟩
   ·simp (maxSteps:=999999) only [ey,Nat.reduceBEq,reduceEqDiff,reduceLT,reduceCtorEq,reduceAdd,reduceLeDiff,cutQ_normal,hld,decide_eq_false hlast,Bool.not_false,u1,u2,g2,hlm,Bool.true_and] <;> try trivial
   ·simp (maxSteps:=999999) only [ey,Nat.reduceBEq,reduceEqDiff,reduceLT,reduceCtorEq,reduceAdd,reduceLeDiff,cutQ_normal,hld,decide_eq_false hlast,Bool.not_false,u1,u2,Bool.true_and,g2,hlm,wm (by have:=of_eq_true u1;omega),idx53 hmk u3] <;> try trivial
 rintro env _ ⟨rfl,e2,e3,e4,e7,e8,e10⟩
 generalize hund : (!decide (i + 1 = Lf.length) && undoingB Lm) = und at e10
 have fin : ∀ (b : Bool) H',Up H H' → Free H' → frmE LF L Ls.length Lm Lt.length p Lw.length sel (decide (i + 1 = Lf.length)) (nI (Lf.getD (i + 1) []) 0) = b → K (.bool b) H':=fun b H' q1 q2 q4=>by
  have:=hK H' q1 q2
  rw [q4] at this;exact this
 simp (maxSteps:=999999) only [ey,Nat.reduceBEq,reduceEqDiff,reduceLT,reduceCtorEq,reduceAdd,reduceLeDiff]
 refine drawStep [34] [0,1,2,3,4,5,6,7,8,9,10,11,12,13,14,15,16,17,18,19,20,21,22,23,24,25,26,27,28,29,30,31,32,33,34,35,36] _ rfl (by kernel_rfl) ?_
 by_cases c4 : p < 0
 ·simp (maxSteps:=999999) only [ey,Nat.reduceBEq,reduceEqDiff,reduceLT,reduceCtorEq,reduceAdd,reduceLeDiff,e2,e3,e4,e7,e8,e10,g2,c4]
  exact fin _ _ hU02 hF2 (by unfold frmE;rw [decide_eq_false (show ¬ 0 ≤ p by omega)];rfl)
 by_cases c5 : p ≥ (L.length : Int)
 ·simp (maxSteps:=999999) only [ey,Nat.reduceBEq,reduceEqDiff,reduceLT,reduceCtorEq,reduceAdd,reduceLeDiff,e2,e3,e4,e7,e8,e10,g2,c4,c5,hlu H2 (Up.refl _)]
  exact fin _ _ hU02 hF2 (by unfold frmE;rw [decide_eq_false (show ¬ p < (L.length : Int) by omega),Bool.and_false];rfl)
 have d1 : decide (0 ≤ p) = true:=decide_eq_true (by omega)
 have d2 : decide (p < (L.length : Int)) = true:=decide_eq_true (by omega)
 obtain ⟨p,rfl⟩ : ∃ m : Nat,p = (m : Int):=⟨p.toNat,by omega⟩
 have hat0:=hgt_at (L:=L) (t:=p) (by omega)
 obtain ⟨q,hq,hlq,_⟩:=hO.holds.index (P:=Tryz.prog) und29 sz3 .i64 (i:=p) (cs:=[.int .i64 (hgtB L p)]) (by rw [hat0];exact ic_at (by omega))
 generalize hhg : hgtB L p = hg at *
 have fin2 : ∀ (z w : Bool),(!decide (hg < 0) || und) = z → ((Lt.length : Int) == opnV (decide (i + 1 = Lf.length)) Lm L p (nI (Lf.getD (i + 1) []) 0) Lw.length sel hg) = w → ∀ (b : Bool) H',Up H H' → Free H' → (z && (List.range Lm.length).all (fun j=>markB LF L Ls.length (!decide (i + 1 = Lf.length) && decide (j + 1 = Lm.length)) (Lm.getD j [])) && w) = b → K (.bool b) H':=fun z w hz hw' b H' q1 q2 q4=>fin b H' q1 q2 (by
  unfold frmE
  rw [hhg,d1,d2,hund,hz,Bool.true_and,Bool.true_and,← q4,← hw']
  congr 1
  by_cases hlast : i + 1 = Lf.length
  ·rw [decide_eq_true hlast,if_pos rfl,opd_waits (by omega) (by omega) hsel]
  ·rw [decide_eq_false hlast,if_neg (by simp),opd_outer (by omega) (by omega)])
 simp (maxSteps:=999999) only [ey,Nat.reduceBEq,reduceEqDiff,reduceLT,reduceCtorEq,reduceAdd,reduceLeDiff,e2,e3,e4,e7,e8,e10,g0,g1,g2,c4,c5,hlu H2 (Up.refl _),hq,hlq _ (Up.refl _)]
 refine cutGuard (fun env' H'=>Up H2 H' ∧ Free H' ∧ env'.at (.tmp 2) = .int .i64 i ∧ env'.at (.tmp 3) = .ptr H.next 0 0 0 ∧ env'.at (.tmp 4) = .ptr (H.next + 1) 0 0 0 ∧ env'.at (.tmp 7) = .ptr (H.next + 2) 0 0 0 ∧ env'.at (.tmp 8) = u ∧ env'.at (.tmp 111) = .bool (!((!decide (hg < 0) || und) && ((Lt.length : Int) == opnV (decide (i + 1 = Lf.length)) Lm L p (nI (Lf.getD (i + 1) []) 0) Lw.length sel hg)))) ?_ ?_
 ·have go : ∀ x y : Int,(x != y) = !(x == y):=fun _ _=>rfl
  by_cases hn : hg < 0
  ·cases und with
   | false=>simp (maxSteps:=999999) only [ey,Nat.reduceBEq,reduceEqDiff,reduceLT,reduceCtorEq,reduceAdd,reduceLeDiff,cutQ_normal,e2,e3,e4,e7,e8,e10,hn,decide_true,Bool.not_true,Bool.not_false,Bool.false_or,Bool.false_and];exact ⟨Up.refl _,hF2⟩
   | true=>
    simp (maxSteps:=999999) only [ey,Nat.reduceBEq,reduceEqDiff,reduceLT,reduceCtorEq,reduceAdd,reduceLeDiff,cutQ_normal,e2,e3,e4,e7,e8,e10,hn,decide_true,Bool.not_true,Bool.not_false,g0,g1,g2,hlt,hq,hlq _ (Up.refl _)]
    refine callStep_flag (f84_ok (Lt:=Lt) h.hF cG cI cH hc hv hL hLn cs ct cm hmk fM nM hf hLf nLf hw hi hh1 hh2 H2 hF2 _ fun H3 hU3 hF3=>⟨hU3,?_⟩)
    simp (maxSteps:=999999) only [ey,Nat.reduceBEq,reduceEqDiff,reduceLT,reduceCtorEq,reduceAdd,reduceLeDiff,cutQ_normal,e2,e3,e4,e7,e8,go,Bool.not_true,Bool.false_or,Bool.true_and]
    exact ⟨hU3,hF3⟩
  ·simp (maxSteps:=999999) only [ey,Nat.reduceBEq,reduceEqDiff,reduceLT,reduceCtorEq,reduceAdd,reduceLeDiff,cutQ_normal,e2,e3,e4,e7,e8,e10,hn,decide_false,Bool.not_true,Bool.not_false,g0,g1,g2,hlt,hq,hlq _ (Up.refl _)]
   refine callStep_flag (f84_ok (Lt:=Lt) h.hF cG cI cH hc hv hL hLn cs ct cm hmk fM nM hf hLf nLf hw hi hh1 hh2 H2 hF2 _ fun H3 hU3 hF3=>⟨hU3,?_⟩)
   simp (maxSteps:=999999) only [ey,Nat.reduceBEq,reduceEqDiff,reduceLT,reduceCtorEq,reduceAdd,reduceLeDiff,cutQ_normal,e2,e3,e4,e7,e8,go,Bool.not_false,Bool.true_or,Bool.true_and]
   exact ⟨hU3,hF3⟩
 clear e2 e3 e4 e7 e8 e10
 rintro env H3 ⟨hU3,hF3,e2,e3,e4,e7,e8,e111⟩
 have hU03:=hU02.trans hU3
 have k0:=hU3 _ _ g0
 have k1:=hU3 _ _ g1
 have k2:=hU3 _ _ g2
 generalize hz : (!decide (hg < 0) || und) = z at *
 generalize hww : ((Lt.length : Int) == opnV (decide (i + 1 = Lf.length)) Lm L p (nI (Lf.getD (i + 1) []) 0) Lw.length sel hg) = w at *
 cases hzw : (z && w) with
 | false=>
  rw [hzw] at e111
  simp (maxSteps:=999999) only [ey,Nat.reduceBEq,reduceEqDiff,reduceLT,reduceCtorEq,reduceAdd,reduceLeDiff,e111,Bool.not_false]
  refine fin2 _ _ rfl rfl _ _ hU03 hF3 ?_
  cases z <;> cases w <;> simp_all
 | true=>
 rw [hzw] at e111
 simp only [Bool.and_eq_true] at hzw
 have fin3 : ∀ (b : Bool) H',Up H H' → Free H' → (List.range Lm.length).all (fun j=>markB LF L Ls.length (!decide (i + 1 = Lf.length) && decide (j + 1 = Lm.length)) (Lm.getD j [])) = b → K (.bool b) H':=fun b H' q1 q2 q3=>fin2 _ _ rfl rfl _ _ q1 q2 (by rw [hzw.1,hzw.2,q3,Bool.true_and,Bool.and_true])
 simp (maxSteps:=999999) only [ey,Nat.reduceBEq,reduceEqDiff,reduceLT,reduceCtorEq,reduceAdd,reduceLeDiff,e111,e2,e3,e4,e7,e8,Bool.not_true]
 refine loopStep' (fun env' H'=>Up H3 H' ∧ Free H' ∧ ∃ j : Nat,j ≤ Lm.length ∧ env'.at (.tmp 11) = .int .i64 j ∧ env'.at (.tmp 2) = .int .i64 i ∧ env'.at (.tmp 3) = .ptr H.next 0 0 0 ∧ env'.at (.tmp 4) = .ptr (H.next + 1) 0 0 0 ∧ env'.at (.tmp 7) = .ptr (H.next + 2) 0 0 0 ∧ env'.at (.tmp 8) = u ∧ ∀ k,k < j → markB LF L Ls.length (!decide (i + 1 = Lf.length) && decide (k + 1 = Lm.length)) (Lm.getD k []) = true)
  (fun env' H'=>match env'.at (.tmp 11) with | .int _ j=>((Lm.length : Int) - j).toNat | _=>0) ?_ ?_
 ·exact ⟨Up.refl _,hF3,0,Nat.zero_le _,by simp only [ey,Nat.reduceBEq,reduceEqDiff,reduceLT,reduceCtorEq,reduceAdd,reduceLeDiff];rfl,by simp only [ey,Nat.reduceBEq,reduceEqDiff,reduceLT,reduceCtorEq,reduceAdd,reduceLeDiff,e2],by simp only [ey,Nat.reduceBEq,reduceEqDiff,reduceLT,reduceCtorEq,reduceAdd,reduceLeDiff,e3],by simp only [ey,Nat.reduceBEq,reduceEqDiff,reduceLT,reduceCtorEq,reduceAdd,reduceLeDiff,e4],by simp only [ey,Nat.reduceBEq,reduceEqDiff,reduceLT,reduceCtorEq,reduceAdd,reduceLeDiff,e7],by simp only [ey,Nat.reduceBEq,reduceEqDiff,reduceLT,reduceCtorEq,reduceAdd,reduceLeDiff,e8],fun k hk=>by omega⟩
 clear e2 e3 e4 e7 e8 e111
 rintro env2 H4 ⟨hU4,hF4,j,hj1,e11,e2,e3,e4,e7,e8,hall⟩
 have k0:=hU4 _ _ k0
 have k1:=hU4 _ _ k1
 have k2:=hU4 _ _ k2
 have hU04:=hU03.trans hU4
 by_cases hlt' : j < Lm.length
 ·obtain ⟨cm',hcm⟩ : ∃ c,Lm[j]? = some c:=⟨_,List.getElem?_eq_getElem hlt'⟩
  have hgd : Lm.getD j [] = cm':=by rw [List.getD_eq_getElem?_getD,hcm];rfl
  simp (maxSteps:=999999) only [ey,Nat.reduceBEq,reduceEqDiff,reduceLT,reduceCtorEq,reduceAdd,reduceLeDiff,e11,e2,e3,e4,e7,e8,k0,k1,k2,hlm,lt_true hlt',hlf,wl,hld]
  refine callStep (f85_ok h.hF cG cI cH h.fun hs ct hmk fM nM (u:=u) (inner:=!decide (i + 1 = Lf.length)) hcm hll H4 hF4 (hO.holds.up (hU3.trans hU4)) _ fun H5 hU5 hF5=>?_)
  cases hb : markB LF L Ls.length (!decide (i + 1 = Lf.length) && decide (j + 1 = Lm.length)) cm' with
  | false=>
   simp (maxSteps:=999999) only [ey,Nat.reduceBEq,reduceEqDiff,reduceLT,reduceCtorEq,reduceAdd,reduceLeDiff,Bool.not_false]
   exact fin3 _ _ (hU04.trans hU5) hF5 (all_upto hlt' (by rw [hgd];exact hb))
  | true=>
   simp (maxSteps:=999999) only [ey,Nat.reduceBEq,reduceEqDiff,reduceLT,reduceCtorEq,reduceAdd,reduceLeDiff,Bool.not_true,e11,e2,e3,e4,e7,e8,wrap_succ (i:=j) (by omega)]
   refine ⟨⟨hU4.trans hU5,hF5,j + 1,hlt',rfl,fun k hk=>?_⟩,by omega⟩
   by_cases hkj : k = j
   ·rw [hkj,hgd];exact hb
   ·exact hall k (by omega)
 ·obtain rfl : j = Lm.length:=by omega
  simp (maxSteps:=999999) only [ey,Nat.reduceBEq,reduceEqDiff,reduceLT,reduceCtorEq,reduceAdd,reduceLeDiff,e11,e2,e3,e4,e7,e8,k2,hlm,lt_false hlt']
  exact fin3 _ _ hU04 hF4 (List.all_eq_true.2 fun k hk=>hall k (List.mem_range.1 hk))
theorem spl5c (a0 a1 a2 a3 a4 b0 b1 b2 b3 : AV) : splice [a0,a1,a2,a3,a4] 0 [b0,b1,b2,b3] = [b0,b1,b2,b3,a4]:=rfl
theorem spl5d (a0 a1 a2 a3 a4 b0 : AV) : splice [a0,a1,a2,a3,a4] 4 [b0] = [a0,a1,a2,a3,b0]:=rfl
def bad1 (rc : Bool) (st nF : Int) : Bool:=!rc || decide (st < 1) || decide (st > 3) || !((nF == 0) == (st == 3)) || decide (nF > 50)
def bad2 (st nW : Int) (sel : Bool) : Bool:=((st == 3) && decide (nW > 0)) || ((st == 2) && (nW == 0)) || (sel && (nW == 0))
noncomputable def corB (n : Nat) (LF LG LI LH Lf : List (List AV)) (st nW : Int) (sel : Bool) : Bool:=
 !bad1 (rightC n LF LG LI LH) st Lf.length && !bad2 st nW sel && (List.range Lf.length).all (frmB LF Lf nW sel)
theorem bad2_sel {st nW : Int} {sel : Bool} (h : bad2 st nW sel = false) : nW = 0 → sel = false:=fun h0=>by
 cases sel
 ·rfl
 ·simp [bad2,h0] at h
theorem cor_bad1 {n : Nat} {LF LG LI LH Lf : List (List AV)} {st nW : Int} {sel : Bool} (h : bad1 (rightC n LF LG LI LH) st Lf.length = true) : corB n LF LG LI LH Lf st nW sel = false:=by
 unfold corB;rw [h];rfl
theorem cor_bad2 {n : Nat} {LF LG LI LH Lf : List (List AV)} {st nW : Int} {sel : Bool} (h : bad2 st nW sel = true) : corB n LF LG LI LH Lf st nW sel = false:=by
 unfold corB;rw [h,Bool.not_true,Bool.and_false];rfl
theorem cor_good {n : Nat} {LF LG LI LH Lf : List (List AV)} {st nW : Int} {sel : Bool} (h1 : bad1 (rightC n LF LG LI LH) st Lf.length = false) (h2 : bad2 st nW sel = false) : corB n LF LG LI LH Lf st nW sel = (List.range Lf.length).all (frmB LF Lf nW sel):=by
 unfold corB;rw [h1,h2];rfl
theorem good_rc {n : Nat} {LF LG LI LH Lf : List (List AV)} {st : Int} (h1 : bad1 (rightC n LF LG LI LH) st Lf.length = false) : rightC n LF LG LI LH = true:=by
 unfold bad1 at h1
 cases h : rightC n LF LG LI LH
 ·rw [h] at h1;cases h1
 ·rfl
set_option maxHeartbeats 16000000 in
theorem f40_ok {n : Nat} {vF vG vI vH vf vw : AV} {LF LG LI LH Lf Lw : List (List AV)} {st fut : Int} {sel : Bool} {key : List Nat} (h : CodT n vF vG vI vH LF LG LI LH) (hf : ∀ H,Holds H 5 vf Lf) (hLf : ∀ x ∈ Lf,FrmT n x) (nLf : Lf.length < 2 ^ 60) (hw : ∀ H,Holds H 1 vw Lw) (H : Heap) (hF : Free H) (K : AV → Heap → Prop) (hK : ∀ H',Up H H' → Free H' → K (.bool (corB n LF LG LI LH Lf st Lw.length sel)) H') : WF Tryz.prog 40 [.agg [vF,vG,vI,vH],.agg [.int .i64 st,vf,.int .i64 fut,vw,.bool sel,.str key]] H K:=by
 have hlf : ∀ G,evBuiltin Tryz.prog G .len #[28] [vf] = some (.int .i64 Lf.length,G):=fun G=>(hf G).lenAt und28 G
 have hlw : ∀ G,evBuiltin Tryz.prog G .len #[29] [vw] = some (.int .i64 Lw.length,G):=fun G=>(hw G).lenAt und29 G
 have cf:=holds_cell (hf H)
 have cw:=holds_cell (hw H)
 have cF:=holds_cell (h.hF H)
 have cG:=holds_cell (h.hG H)
 have cI:=holds_cell (h.hI H)
 have cH:=holds_cell (h.hH H)
 refine WF_body Tryz.func40 (by kernel_rfl) rfl Tryz.ntmps40 (by rw [Tryz.results40]) (of_decide_eq_true (by kernel_rfl)) ?_
 simp (maxSteps:=999999) only [ey,implies_true,reduceMul,reducePow,reduceSub,Nat.reduceBEq,reduceToNat,reduceEqDiff,reduceLT,reduceCtorEq,reduceAdd,reduceLeDiff,hF.at,hF.hp,cF,cG,cI,cH,cf,cw]
 generalize hH1 : HP H [Blk.row 27 4 [[vF,vG,vI,vH]] 0 0,Blk.row 31 6 [[.int .i64 st,vf,.int .i64 fut,vw,.bool sel,.str key]] 0 0] = H1
 have b0 : H1.blk H.next = some (.row 27 4 [[vF,vG,vI,vH]] 0 0):=by rw [← hH1,hp_blk0];rfl
 have b1 : H1.blk (H.next + 1) = some (.row 31 6 [[.int .i64 st,vf,.int .i64 fut,vw,.bool sel,.str key]] 0 0):=by rw [← hH1,hp_blk];rfl
 have hF1 : Free H1:=hH1 ▸ hF.hpF _
 have hU1 : Up H H1:=hH1 ▸ hF.hpU _
 refine callStep (f60_ok h H1 hF1 _ fun H2 hU2 hF2=>?_)
 have g0:=hU2 _ _ b0
 have g1:=hU2 _ _ b1
 have hU02:=hU1.trans hU2
 simp (maxSteps:=999999) only [ey,implies_true,reduceMul,reducePow,reduceSub,Nat.reduceBEq,reduceToNat,reduceEqDiff,reduceLT,reduceCtorEq,reduceAdd,reduceLeDiff]
 refine cutGuard (fun env H'=>H2 = H' ∧ env.at (.tmp 2) = .ptr H.next 0 0 0 ∧ env.at (.tmp 3) = .ptr (H.next + 1) 0 0 0 ∧ env.at (.tmp 5) = .bool (st == 3) ∧ env.at (.tmp 37) = .bool (bad1 (rightC n LF LG LI LH) st Lf.length)) ?_ ?_
 ·cases hrc : rightC n LF LG LI LH with
  | false=>
   have q : bad1 false st Lf.length = true:=by unfold bad1;simp only [Bool.true_and,Bool.false_and,Bool.and_true,Bool.and_false,Bool.true_or,Bool.false_or,Bool.or_true,Bool.or_false,Bool.not_true,Bool.not_false,bne,beq_self_eq_true,BEq.rfl,decide_true,decide_false]
   simp (maxSteps:=999999) only [ey,implies_true,reduceMul,reducePow,reduceSub,Nat.reduceBEq,reduceToNat,reduceEqDiff,reduceLT,reduceCtorEq,reduceAdd,reduceLeDiff,cutQ_normal,g0,g1,hlf,q,hrc,eqOk,eqA4,Option.map_some,beq_self_eq_true,BEq.rfl,Bool.not_true,Bool.not_false,show ((true == false) : Bool) = false from rfl,show ((false == true) : Bool) = false from rfl] <;> try trivial
  | true=>
  by_cases c1 : st < 1
  ·skip
   have q : bad1 true st Lf.length = true:=by unfold bad1;simp only [c1,Bool.true_and,Bool.false_and,Bool.and_true,Bool.and_false,Bool.true_or,Bool.false_or,Bool.or_true,Bool.or_false,Bool.not_true,Bool.not_false,bne,beq_self_eq_true,BEq.rfl,decide_true,decide_false]
   simp (maxSteps:=999999) only [ey,implies_true,reduceMul,reducePow,reduceSub,Nat.reduceBEq,reduceToNat,reduceEqDiff,reduceLT,reduceCtorEq,reduceAdd,reduceLeDiff,cutQ_normal,g0,g1,hlf,q,hrc,c1,eqOk,eqA4,Option.map_some,beq_self_eq_true,BEq.rfl,Bool.not_true,Bool.not_false,show ((true == false) : Bool) = false from rfl,show ((false == true) : Bool) = false from rfl] <;> try trivial
  by_cases c2 : st > 3
  ·skip
   have q : bad1 true st Lf.length = true:=by unfold bad1;simp only [c1,c2,Bool.true_and,Bool.false_and,Bool.and_true,Bool.and_false,Bool.true_or,Bool.false_or,Bool.or_true,Bool.or_false,Bool.not_true,Bool.not_false,bne,beq_self_eq_true,BEq.rfl,decide_true,decide_false]
   simp (maxSteps:=999999) only [ey,implies_true,reduceMul,reducePow,reduceSub,Nat.reduceBEq,reduceToNat,reduceEqDiff,reduceLT,reduceCtorEq,reduceAdd,reduceLeDiff,cutQ_normal,g0,g1,hlf,q,hrc,c1,c2,eqOk,eqA4,Option.map_some,beq_self_eq_true,BEq.rfl,Bool.not_true,Bool.not_false,show ((true == false) : Bool) = false from rfl,show ((false == true) : Bool) = false from rfl] <;> try trivial
  cases c3 : (st == 3) with
  | false=>
   cases c4 : ((Lf.length : Int) == 0) with
   | true=>
    have q : bad1 true st Lf.length = true:=by unfold bad1;simp only [c1,c2,c3,c4,show ((true == false) : Bool) = false from rfl,Bool.true_and,Bool.false_and,Bool.and_true,Bool.and_false,Bool.true_or,Bool.false_or,Bool.or_true,Bool.or_false,Bool.not_true,Bool.not_false,bne,beq_self_eq_true,BEq.rfl,decide_true,decide_false]
    simp (maxSteps:=999999) only [ey,implies_true,reduceMul,reducePow,reduceSub,Nat.reduceBEq,reduceToNat,reduceEqDiff,reduceLT,reduceCtorEq,reduceAdd,reduceLeDiff,cutQ_normal,g0,g1,hlf,q,hrc,c1,c2,c3,c4,show ((true == false) : Bool) = false from rfl,eqOk,eqA4,Option.map_some,beq_self_eq_true,BEq.rfl,Bool.not_true,Bool.not_false,show ((true == false) : Bool) = false from rfl,show ((false == true) : Bool) = false from rfl] <;> try trivial
   | false=>
    by_cases c5 : (Lf.length : Int) > 50
    ·skip
     have q : bad1 true st Lf.length = true:=by unfold bad1;simp only [c1,c2,c3,c4,c5,Bool.true_and,Bool.false_and,Bool.and_true,Bool.and_false,Bool.true_or,Bool.false_or,Bool.or_true,Bool.or_false,Bool.not_true,Bool.not_false,bne,beq_self_eq_true,BEq.rfl,decide_true,decide_false]
     simp (maxSteps:=999999) only [ey,implies_true,reduceMul,reducePow,reduceSub,Nat.reduceBEq,reduceToNat,reduceEqDiff,reduceLT,reduceCtorEq,reduceAdd,reduceLeDiff,cutQ_normal,g0,g1,hlf,q,hrc,c1,c2,c3,c4,c5,eqOk,eqA4,Option.map_some,beq_self_eq_true,BEq.rfl,Bool.not_true,Bool.not_false,show ((true == false) : Bool) = false from rfl,show ((false == true) : Bool) = false from rfl] <;> try trivial
    ·skip
     have q : bad1 true st Lf.length = false:=by unfold bad1;simp only [c1,c2,c3,c4,c5,Bool.true_and,Bool.false_and,Bool.and_true,Bool.and_false,Bool.true_or,Bool.false_or,Bool.or_true,Bool.or_false,Bool.not_true,Bool.not_false,bne,beq_self_eq_true,BEq.rfl,decide_true,decide_false]
     simp (maxSteps:=999999) only [ey,implies_true,reduceMul,reducePow,reduceSub,Nat.reduceBEq,reduceToNat,reduceEqDiff,reduceLT,reduceCtorEq,reduceAdd,reduceLeDiff,cutQ_normal,g0,g1,hlf,q,hrc,c1,c2,c3,c4,c5,eqOk,eqA4,Option.map_some,beq_self_eq_true,BEq.rfl,Bool.not_true,Bool.not_false,show ((true == false) : Bool) = false from rfl,show ((false == true) : Bool) = false from rfl] <;> try trivial
  | true=>
   cases c4 : ((Lf.length : Int) == 0) with
   | false=>
    have q : bad1 true st Lf.length = true:=by unfold bad1;simp only [c1,c2,c3,c4,show ((false == true) : Bool) = false from rfl,Bool.true_and,Bool.false_and,Bool.and_true,Bool.and_false,Bool.true_or,Bool.false_or,Bool.or_true,Bool.or_false,Bool.not_true,Bool.not_false,bne,beq_self_eq_true,BEq.rfl,decide_true,decide_false]
    simp (maxSteps:=999999) only [ey,implies_true,reduceMul,reducePow,reduceSub,Nat.reduceBEq,reduceToNat,reduceEqDiff,reduceLT,reduceCtorEq,reduceAdd,reduceLeDiff,cutQ_normal,g0,g1,hlf,q,hrc,c1,c2,c3,c4,show ((false == true) : Bool) = false from rfl,eqOk,eqA4,Option.map_some,beq_self_eq_true,BEq.rfl,Bool.not_true,Bool.not_false,show ((true == false) : Bool) = false from rfl,show ((false == true) : Bool) = false from rfl] <;> try trivial
   | true=>
    have c5 : ¬ (Lf.length : Int) > 50:=by
     have : (Lf.length : Int) = 0:=by simpa using c4
     omega
    have q : bad1 true st Lf.length = false:=by unfold bad1;simp only [c1,c2,c3,c4,c5,Bool.true_and,Bool.false_and,Bool.and_true,Bool.and_false,Bool.true_or,Bool.false_or,Bool.or_true,Bool.or_false,Bool.not_true,Bool.not_false,bne,beq_self_eq_true,BEq.rfl,decide_true,decide_false]
    simp (maxSteps:=999999) only [ey,implies_true,reduceMul,reducePow,reduceSub,Nat.reduceBEq,reduceToNat,reduceEqDiff,reduceLT,reduceCtorEq,reduceAdd,reduceLeDiff,cutQ_normal,g0,g1,hlf,q,hrc,c1,c2,c3,c4,c5,eqOk,eqA4,Option.map_some,beq_self_eq_true,BEq.rfl,Bool.not_true,Bool.not_false,show ((true == false) : Bool) = false from rfl,show ((false == true) : Bool) = false from rfl] <;> try trivial
 rintro env _ ⟨rfl,e2,e3,e5,e37⟩
 cases hb1 : bad1 (rightC n LF LG LI LH) st Lf.length with
 | true=>
  rw [hb1] at e37
  simp (maxSteps:=999999) only [ey,implies_true,reduceMul,reducePow,reduceSub,Nat.reduceBEq,reduceToNat,reduceEqDiff,reduceLT,reduceCtorEq,reduceAdd,reduceLeDiff,e37]
  have:=hK _ hU02 hF2
  rw [cor_bad1 hb1] at this
  exact this
 | false=>
 have hr:=good_rc hb1
 rw [hb1] at e37
 simp (maxSteps:=999999) only [ey,implies_true,reduceMul,reducePow,reduceSub,Nat.reduceBEq,reduceToNat,reduceEqDiff,reduceLT,reduceCtorEq,reduceAdd,reduceLeDiff,e2,e3,e5,e37]
 refine cutGuard (fun env H'=>H2 = H' ∧ env.at (.tmp 2) = .ptr H.next 0 0 0 ∧ env.at (.tmp 3) = .ptr (H.next + 1) 0 0 0 ∧ env.at (.tmp 65) = .bool (bad2 st Lw.length sel)) ?_ ?_
 ·cases a1 : (st == 3) with
  | true=>
   have a3 : (st == 2) = false:=by
    have : st = 3:=by simpa using a1
    subst this;rfl
   by_cases a2 : (Lw.length : Int) > 0
   ·skip
    have q : bad2 st Lw.length sel = true:=by unfold bad2;simp only [a1,a2,a3,Bool.true_and,Bool.false_and,Bool.and_true,Bool.and_false,Bool.true_or,Bool.false_or,Bool.or_true,Bool.or_false,Bool.not_true,Bool.not_false,bne,beq_self_eq_true,BEq.rfl,decide_true,decide_false]
    simp (maxSteps:=999999) only [ey,implies_true,reduceMul,reducePow,reduceSub,Nat.reduceBEq,reduceToNat,reduceEqDiff,reduceLT,reduceCtorEq,reduceAdd,reduceLeDiff,cutQ_normal,e2,e3,e5,g0,g1,hlw,q,a1,a2,a3,eqOk,eqA4,Option.map_some,beq_self_eq_true,BEq.rfl,Bool.not_true,Bool.not_false,show ((true == false) : Bool) = false from rfl,show ((false == true) : Bool) = false from rfl] <;> try trivial
   ·have a4 : ((Lw.length : Int) == 0) = true:=by rw [show (Lw.length : Int) = 0 by omega];rfl
    cases sel with
    | true=>
     have q : bad2 st Lw.length true = true:=by unfold bad2;simp only [a1,a2,a3,a4,Bool.true_and,Bool.false_and,Bool.and_true,Bool.and_false,Bool.true_or,Bool.false_or,Bool.or_true,Bool.or_false,Bool.not_true,Bool.not_false,bne,beq_self_eq_true,BEq.rfl,decide_true,decide_false]
     simp (maxSteps:=999999) only [ey,implies_true,reduceMul,reducePow,reduceSub,Nat.reduceBEq,reduceToNat,reduceEqDiff,reduceLT,reduceCtorEq,reduceAdd,reduceLeDiff,cutQ_normal,e2,e3,e5,g0,g1,hlw,q,a1,a2,a3,a4,eqOk,eqA4,Option.map_some,beq_self_eq_true,BEq.rfl,Bool.not_true,Bool.not_false,show ((true == false) : Bool) = false from rfl,show ((false == true) : Bool) = false from rfl] <;> try trivial
    | false=>
     have q : bad2 st Lw.length false = false:=by unfold bad2;simp only [a1,a2,a3,a4,Bool.true_and,Bool.false_and,Bool.and_true,Bool.and_false,Bool.true_or,Bool.false_or,Bool.or_true,Bool.or_false,Bool.not_true,Bool.not_false,bne,beq_self_eq_true,BEq.rfl,decide_true,decide_false]
     simp (maxSteps:=999999) only [ey,implies_true,reduceMul,reducePow,reduceSub,Nat.reduceBEq,reduceToNat,reduceEqDiff,reduceLT,reduceCtorEq,reduceAdd,reduceLeDiff,cutQ_normal,e2,e3,e5,g0,g1,hlw,q,a1,a2,a3,a4,eqOk,eqA4,Option.map_some,beq_self_eq_true,BEq.rfl,Bool.not_true,Bool.not_false,show ((true == false) : Bool) = false from rfl,show ((false == true) : Bool) = false from rfl] <;> try trivial
  | false=>
  cases a4 : ((Lw.length : Int) == 0) with
  | true=>
   cases a3 : (st == 2) with
   | true=>
    have q : bad2 st Lw.length sel = true:=by unfold bad2;simp only [a1,a3,a4,Bool.true_and,Bool.false_and,Bool.and_true,Bool.and_false,Bool.true_or,Bool.false_or,Bool.or_true,Bool.or_false,Bool.not_true,Bool.not_false,bne,beq_self_eq_true,BEq.rfl,decide_true,decide_false]
    simp (maxSteps:=999999) only [ey,implies_true,reduceMul,reducePow,reduceSub,Nat.reduceBEq,reduceToNat,reduceEqDiff,reduceLT,reduceCtorEq,reduceAdd,reduceLeDiff,cutQ_normal,e2,e3,e5,g0,g1,hlw,q,a1,a3,a4,eqOk,eqA4,Option.map_some,beq_self_eq_true,BEq.rfl,Bool.not_true,Bool.not_false,show ((true == false) : Bool) = false from rfl,show ((false == true) : Bool) = false from rfl] <;> try trivial
   | false=>
    cases sel with
    | true=>
     have q : bad2 st Lw.length true = true:=by unfold bad2;simp only [a1,a3,a4,Bool.true_and,Bool.false_and,Bool.and_true,Bool.and_false,Bool.true_or,Bool.false_or,Bool.or_true,Bool.or_false,Bool.not_true,Bool.not_false,bne,beq_self_eq_true,BEq.rfl,decide_true,decide_false]
     simp (maxSteps:=999999) only [ey,implies_true,reduceMul,reducePow,reduceSub,Nat.reduceBEq,reduceToNat,reduceEqDiff,reduceLT,reduceCtorEq,reduceAdd,reduceLeDiff,cutQ_normal,e2,e3,e5,g0,g1,hlw,q,a1,a3,a4,eqOk,eqA4,Option.map_some,beq_self_eq_true,BEq.rfl,Bool.not_true,Bool.not_false,show ((true == false) : Bool) = false from rfl,show ((false == true) : Bool) = false from rfl] <;> try trivial
    | false=>
     have q : bad2 st Lw.length false = false:=by unfold bad2;simp only [a1,a3,a4,Bool.true_and,Bool.false_and,Bool.and_true,Bool.and_false,Bool.true_or,Bool.false_or,Bool.or_true,Bool.or_false,Bool.not_true,Bool.not_false,bne,beq_self_eq_true,BEq.rfl,decide_true,decide_false]
     simp (maxSteps:=999999) only [ey,implies_true,reduceMul,reducePow,reduceSub,Nat.reduceBEq,reduceToNat,reduceEqDiff,reduceLT,reduceCtorEq,reduceAdd,reduceLeDiff,cutQ_normal,e2,e3,e5,g0,g1,hlw,q,a1,a3,a4,eqOk,eqA4,Option.map_some,beq_self_eq_true,BEq.rfl,Bool.not_true,Bool.not_false,show ((true == false) : Bool) = false from rfl,show ((false == true) : Bool) = false from rfl] <;> try trivial
  | false=>
   cases a3 : (st == 2) with
   | true=>
    cases sel with
    | true=>
     have q : bad2 st Lw.length true = false:=by unfold bad2;simp only [a1,a3,a4,Bool.true_and,Bool.false_and,Bool.and_true,Bool.and_false,Bool.true_or,Bool.false_or,Bool.or_true,Bool.or_false,Bool.not_true,Bool.not_false,bne,beq_self_eq_true,BEq.rfl,decide_true,decide_false]
     simp (maxSteps:=999999) only [ey,implies_true,reduceMul,reducePow,reduceSub,Nat.reduceBEq,reduceToNat,reduceEqDiff,reduceLT,reduceCtorEq,reduceAdd,reduceLeDiff,cutQ_normal,e2,e3,e5,g0,g1,hlw,q,a1,a3,a4,eqOk,eqA4,Option.map_some,beq_self_eq_true,BEq.rfl,Bool.not_true,Bool.not_false,show ((true == false) : Bool) = false from rfl,show ((false == true) : Bool) = false from rfl] <;> try trivial
    | false=>
     have q : bad2 st Lw.length false = false:=by unfold bad2;simp only [a1,a3,a4,Bool.true_and,Bool.false_and,Bool.and_true,Bool.and_false,Bool.true_or,Bool.false_or,Bool.or_true,Bool.or_false,Bool.not_true,Bool.not_false,bne,beq_self_eq_true,BEq.rfl,decide_true,decide_false]
     simp (maxSteps:=999999) only [ey,implies_true,reduceMul,reducePow,reduceSub,Nat.reduceBEq,reduceToNat,reduceEqDiff,reduceLT,reduceCtorEq,reduceAdd,reduceLeDiff,cutQ_normal,e2,e3,e5,g0,g1,hlw,q,a1,a3,a4,eqOk,eqA4,Option.map_some,beq_self_eq_true,BEq.rfl,Bool.not_true,Bool.not_false,show ((true == false) : Bool) = false from rfl,show ((false == true) : Bool) = false from rfl] <;> try trivial
   | false=>
    cases sel with
    | true=>
     have q : bad2 st Lw.length true = false:=by unfold bad2;simp only [a1,a3,a4,Bool.true_and,Bool.false_and,Bool.and_true,Bool.and_false,Bool.true_or,Bool.false_or,Bool.or_true,Bool.or_false,Bool.not_true,Bool.not_false,bne,beq_self_eq_true,BEq.rfl,decide_true,decide_false]
     simp (maxSteps:=999999) only [ey,implies_true,reduceMul,reducePow,reduceSub,Nat.reduceBEq,reduceToNat,reduceEqDiff,reduceLT,reduceCtorEq,reduceAdd,reduceLeDiff,cutQ_normal,e2,e3,e5,g0,g1,hlw,q,a1,a3,a4,eqOk,eqA4,Option.map_some,beq_self_eq_true,BEq.rfl,Bool.not_true,Bool.not_false,show ((true == false) : Bool) = false from rfl,show ((false == true) : Bool) = false from rfl] <;> try trivial
    | false=>
     have q : bad2 st Lw.length false = false:=by unfold bad2;simp only [a1,a3,a4,Bool.true_and,Bool.false_and,Bool.and_true,Bool.and_false,Bool.true_or,Bool.false_or,Bool.or_true,Bool.or_false,Bool.not_true,Bool.not_false,bne,beq_self_eq_true,BEq.rfl,decide_true,decide_false]
     simp (maxSteps:=999999) only [ey,implies_true,reduceMul,reducePow,reduceSub,Nat.reduceBEq,reduceToNat,reduceEqDiff,reduceLT,reduceCtorEq,reduceAdd,reduceLeDiff,cutQ_normal,e2,e3,e5,g0,g1,hlw,q,a1,a3,a4,eqOk,eqA4,Option.map_some,beq_self_eq_true,BEq.rfl,Bool.not_true,Bool.not_false,show ((true == false) : Bool) = false from rfl,show ((false == true) : Bool) = false from rfl] <;> try trivial
 clear e2 e3 e5 e37
 rintro env _ ⟨rfl,e2,e3,e65⟩
 cases hb2 : bad2 st Lw.length sel with
 | true=>
  rw [hb2] at e65
  simp (maxSteps:=999999) only [ey,implies_true,reduceMul,reducePow,reduceSub,Nat.reduceBEq,reduceToNat,reduceEqDiff,reduceLT,reduceCtorEq,reduceAdd,reduceLeDiff,e65]
  have:=hK _ hU02 hF2
  rw [cor_bad2 hb2] at this
  exact this
 | false=>
 rw [hb2] at e65
 rw [cor_good hb1 hb2] at hK
 simp (maxSteps:=999999) only [ey,implies_true,reduceMul,reducePow,reduceSub,Nat.reduceBEq,reduceToNat,reduceEqDiff,reduceLT,reduceCtorEq,reduceAdd,reduceLeDiff,e2,e3,e65,g0,g1,hF2.at,hF2.hp,spl5c,spl5d,cF,cG,cI,cH,List.length_cons,List.length_nil,show ∀ b,(AV.map b).isUndef = false from fun _=>rfl,show ∀ b,(AV.map b).cells = [AV.map b] from fun _=>rfl,show ∀ b,(AV.map b).isCell = true from fun _=>rfl]
 generalize hH3 : HP H2 [Blk.map [] 0,Blk.row 134 5 [[vF,vG,vI,vH,.map H2.next]] 0 0] = H3
 have k0 : H3.blk H2.next = some (.map [] 0):=by rw [← hH3,hp_blk0];rfl
 have k1 : H3.blk (H2.next + 1) = some (.row 134 5 [[vF,vG,vI,vH,.map H2.next]] 0 0):=by rw [← hH3,hp_blk];rfl
 have hF3 : Free H3:=hH3 ▸ hF2.hpF _
 have hU3 : Up H2 H3:=hH3 ▸ hF2.hpU _
 have hm3 : MapR H3 H2.next LF:=mapR_nil k0
 have g3:=hU3 _ _ g1
 have hHd : Up H (hbut H3 (some H2.next)):=fun c x hx=>by
  have:=hF2.lt (hU02 _ _ hx)
  rw [but_blk (fun e=>by injection e with e;omega)]
  exact (hU02.trans hU3) _ _ hx
 simp (maxSteps:=999999) only [ey,implies_true,reduceMul,reducePow,reduceSub,Nat.reduceBEq,reduceToNat,reduceEqDiff,reduceLT,reduceCtorEq,reduceAdd,reduceLeDiff,g3,hlf]
 refine loopStep' (fun env' H'=>Up (hbut H3 (some H2.next)) H' ∧ Free H' ∧ MapR H' H2.next LF ∧ ∃ j : Nat,j ≤ Lf.length ∧ env'.at (.tmp 73) = .int .i64 j ∧ env'.at (.tmp 72) = .int .i64 Lf.length ∧ env'.at (.tmp 6) = .ptr (H2.next + 1) 0 0 0 ∧ env'.at (.tmp 3) = .ptr (H.next + 1) 0 0 0 ∧ ∀ k,k < j → frmB LF Lf Lw.length sel k = true)
  (fun env' H'=>match env'.at (.tmp 73) with | .int _ j=>((Lf.length : Int) - j).toNat | _=>0) ?_ ?_
 ·exact ⟨but_up,hF3,hm3,0,Nat.zero_le _,by simp only [ey,implies_true,reduceMul,reducePow,reduceSub,Nat.reduceBEq,reduceToNat,reduceEqDiff,reduceLT,reduceCtorEq,reduceAdd,reduceLeDiff];rfl,by simp only [ey,implies_true,reduceMul,reducePow,reduceSub,Nat.reduceBEq,reduceToNat,reduceEqDiff,reduceLT,reduceCtorEq,reduceAdd,reduceLeDiff],by simp only [ey,implies_true,reduceMul,reducePow,reduceSub,Nat.reduceBEq,reduceToNat,reduceEqDiff,reduceLT,reduceCtorEq,reduceAdd,reduceLeDiff],by simp only [ey,implies_true,reduceMul,reducePow,reduceSub,Nat.reduceBEq,reduceToNat,reduceEqDiff,reduceLT,reduceCtorEq,reduceAdd,reduceLeDiff,e3],fun k hk=>by omega⟩
 clear e2 e3 e65
 rintro env H4 ⟨hU4,hF4,hm4,j,hj,e73,e72,e6,e3,hall⟩
 have g4:=(not_map hm3 hU4 g3 (fun _ _=>by simp)).2
 have x4:=(not_map hm3 hU4 k1 (fun _ _=>by simp)).2
 by_cases hlt : j < Lf.length
 ·obtain ⟨c,hc⟩ : ∃ c,Lf[j]? = some c:=⟨_,List.getElem?_eq_getElem hlt⟩
  have hFr:=hLf c (List.mem_of_getElem? hc)
  obtain ⟨f,p,vs,vt,vm,_,_,_,rfl,_⟩:=hFr
  simp (maxSteps:=999999) only [ey,implies_true,reduceMul,reducePow,reduceSub,Nat.reduceBEq,reduceToNat,reduceEqDiff,reduceLT,reduceCtorEq,reduceAdd,reduceLeDiff,e73,e72,e6,e3,lt_true hlt,g4]
  refine callStep (f79_ok h hr hf hLf nLf hw hc (H2.next + 1) H2.next H4 hF4 x4 hm4 _ fun H5 hU5 hF5 hm5=>?_)
  cases hb : frmB LF Lf Lw.length sel j with
  | false=>
   simp (maxSteps:=999999) only [ey,implies_true,reduceMul,reducePow,reduceSub,Nat.reduceBEq,reduceToNat,reduceEqDiff,reduceLT,reduceCtorEq,reduceAdd,reduceLeDiff,Bool.not_false]
   have:=hK _ (hHd.trans (but_trans hU4 hU5)) hF5
   rw [all_upto hlt hb] at this
   exact this
  | true=>
   simp (maxSteps:=999999) only [ey,implies_true,reduceMul,reducePow,reduceSub,Nat.reduceBEq,reduceToNat,reduceEqDiff,reduceLT,reduceCtorEq,reduceAdd,reduceLeDiff,Bool.not_true,e73,e72,e6,e3,wrap_succ (i:=j) (by omega)]
   refine ⟨⟨but_trans hU4 hU5,hF5,hm5,j + 1,hlt,rfl,fun k hk=>?_⟩,by omega⟩
   by_cases hkj : k = j
   ·rw [hkj];exact hb
   ·exact hall k (by omega)
 ·obtain rfl : j = Lf.length:=by omega
  simp (maxSteps:=999999) only [ey,implies_true,reduceMul,reducePow,reduceSub,Nat.reduceBEq,reduceToNat,reduceEqDiff,reduceLT,reduceCtorEq,reduceAdd,reduceLeDiff,e73,e72,e6,e3,lt_false hlt]
  have:=hK _ (hHd.trans hU4) hF4
  rw [List.all_eq_true.2 fun k hk=>hall k (List.mem_range.1 hk)] at this
  exact this
set_option maxHeartbeats 16000000 in
theorem f13_ok {n : Nat} {vF vG vI vH vf vw : AV} {LF LG LI LH Lf Lw : List (List AV)} {st fut : Int} {sel : Bool} {key : List Nat} (h : CodT n vF vG vI vH LF LG LI LH) (hf : ∀ H,Holds H 5 vf Lf) (hLf : ∀ x ∈ Lf,FrmT n x) (nLf : Lf.length < 2 ^ 60) (hw : ∀ H,Holds H 1 vw Lw) (H : Heap) (hF : Free H) (K : AV → Heap → Prop) (hK : ∀ H',Up H H' → Free H' → K (.bool (corB n LF LG LI LH Lf st Lw.length sel)) H') : WF Tryz.prog 13 [.agg [vF,vG,vI,vH],.agg [.int .i64 st,vf,.int .i64 fut,vw,.bool sel,.str key]] H K:=by
 have hlf : ∀ G,evBuiltin Tryz.prog G .len #[28] [vf] = some (.int .i64 Lf.length,G):=fun G=>(hf G).lenAt und28 G
 have hlw : ∀ G,evBuiltin Tryz.prog G .len #[29] [vw] = some (.int .i64 Lw.length,G):=fun G=>(hw G).lenAt und29 G
 have cf:=holds_cell (hf H)
 have cw:=holds_cell (hw H)
 have cF:=holds_cell (h.hF H)
 have cG:=holds_cell (h.hG H)
 have cI:=holds_cell (h.hI H)
 have cH:=holds_cell (h.hH H)
 refine WF_body Tryz.func13 (by kernel_rfl) rfl Tryz.ntmps13 (by rw [Tryz.results13]) (of_decide_eq_true (by kernel_rfl)) ?_
 simp (maxSteps:=999999) only [ey,implies_true,reduceMul,reducePow,reduceSub,Nat.reduceBEq,reduceToNat,reduceEqDiff,reduceLT,reduceCtorEq,reduceAdd,reduceLeDiff,hF.at,hF.hp,cF,cG,cI,cH,cf,cw]
 generalize hH1 : HP H [Blk.row 27 4 [[vF,vG,vI,vH]] 0 0,Blk.row 31 6 [[.int .i64 st,vf,.int .i64 fut,vw,.bool sel,.str key]] 0 0] = H1
 have b0 : H1.blk H.next = some (.row 27 4 [[vF,vG,vI,vH]] 0 0):=by rw [← hH1,hp_blk0];rfl
 have b1 : H1.blk (H.next + 1) = some (.row 31 6 [[.int .i64 st,vf,.int .i64 fut,vw,.bool sel,.str key]] 0 0):=by rw [← hH1,hp_blk];rfl
 have hF1 : Free H1:=hH1 ▸ hF.hpF _
 have hU1 : Up H H1:=hH1 ▸ hF.hpU _
 refine callStep (f41_ok h H1 hF1 _ fun H2 hU2 hF2=>?_)
 have g0:=hU2 _ _ b0
 have g1:=hU2 _ _ b1
 have hU02:=hU1.trans hU2
 simp (maxSteps:=999999) only [ey,implies_true,reduceMul,reducePow,reduceSub,Nat.reduceBEq,reduceToNat,reduceEqDiff,reduceLT,reduceCtorEq,reduceAdd,reduceLeDiff]
 refine cutGuard (fun env H'=>H2 = H' ∧ env.at (.tmp 2) = .ptr H.next 0 0 0 ∧ env.at (.tmp 3) = .ptr (H.next + 1) 0 0 0 ∧ env.at (.tmp 34) = .bool (bad1 (rightC n LF LG LI LH) st Lf.length)) ?_ ?_
 ·cases hrc : rightC n LF LG LI LH with
  | false=>
   have q : bad1 false st Lf.length = true:=by unfold bad1;simp only [Bool.true_and,Bool.false_and,Bool.and_true,Bool.and_false,Bool.true_or,Bool.false_or,Bool.or_true,Bool.or_false,Bool.not_true,Bool.not_false,bne,beq_self_eq_true,BEq.rfl,decide_true,decide_false]
   simp (maxSteps:=999999) only [ey,implies_true,reduceMul,reducePow,reduceSub,Nat.reduceBEq,reduceToNat,reduceEqDiff,reduceLT,reduceCtorEq,reduceAdd,reduceLeDiff,cutQ_normal,g0,g1,hlf,q,hrc,eqOk,eqA4,Option.map_some,beq_self_eq_true,BEq.rfl,Bool.not_true,Bool.not_false,show ((true == false) : Bool) = false from rfl,show ((false == true) : Bool) = false from rfl] <;> try trivial
  | true=>
  by_cases c1 : st < 1
  ·skip
   have q : bad1 true st Lf.length = true:=by unfold bad1;simp only [c1,Bool.true_and,Bool.false_and,Bool.and_true,Bool.and_false,Bool.true_or,Bool.false_or,Bool.or_true,Bool.or_false,Bool.not_true,Bool.not_false,bne,beq_self_eq_true,BEq.rfl,decide_true,decide_false]
   simp (maxSteps:=999999) only [ey,implies_true,reduceMul,reducePow,reduceSub,Nat.reduceBEq,reduceToNat,reduceEqDiff,reduceLT,reduceCtorEq,reduceAdd,reduceLeDiff,cutQ_normal,g0,g1,hlf,q,hrc,c1,eqOk,eqA4,Option.map_some,beq_self_eq_true,BEq.rfl,Bool.not_true,Bool.not_false,show ((true == false) : Bool) = false from rfl,show ((false == true) : Bool) = false from rfl] <;> try trivial
  by_cases c2 : st > 3
  ·skip
   have q : bad1 true st Lf.length = true:=by unfold bad1;simp only [c1,c2,Bool.true_and,Bool.false_and,Bool.and_true,Bool.and_false,Bool.true_or,Bool.false_or,Bool.or_true,Bool.or_false,Bool.not_true,Bool.not_false,bne,beq_self_eq_true,BEq.rfl,decide_true,decide_false]
   simp (maxSteps:=999999) only [ey,implies_true,reduceMul,reducePow,reduceSub,Nat.reduceBEq,reduceToNat,reduceEqDiff,reduceLT,reduceCtorEq,reduceAdd,reduceLeDiff,cutQ_normal,g0,g1,hlf,q,hrc,c1,c2,eqOk,eqA4,Option.map_some,beq_self_eq_true,BEq.rfl,Bool.not_true,Bool.not_false,show ((true == false) : Bool) = false from rfl,show ((false == true) : Bool) = false from rfl] <;> try trivial
  cases c3 : (st == 3) with
  | false=>
   cases c4 : ((Lf.length : Int) == 0) with
   | true=>
    have q : bad1 true st Lf.length = true:=by unfold bad1;simp only [c1,c2,c3,c4,show ((true == false) : Bool) = false from rfl,Bool.true_and,Bool.false_and,Bool.and_true,Bool.and_false,Bool.true_or,Bool.false_or,Bool.or_true,Bool.or_false,Bool.not_true,Bool.not_false,bne,beq_self_eq_true,BEq.rfl,decide_true,decide_false]
    simp (maxSteps:=999999) only [ey,implies_true,reduceMul,reducePow,reduceSub,Nat.reduceBEq,reduceToNat,reduceEqDiff,reduceLT,reduceCtorEq,reduceAdd,reduceLeDiff,cutQ_normal,g0,g1,hlf,q,hrc,c1,c2,c3,c4,show ((true == false) : Bool) = false from rfl,eqOk,eqA4,Option.map_some,beq_self_eq_true,BEq.rfl,Bool.not_true,Bool.not_false,show ((true == false) : Bool) = false from rfl,show ((false == true) : Bool) = false from rfl] <;> try trivial
   | false=>
    by_cases c5 : (Lf.length : Int) > 50
    ·skip
     have q : bad1 true st Lf.length = true:=by unfold bad1;simp only [c1,c2,c3,c4,c5,Bool.true_and,Bool.false_and,Bool.and_true,Bool.and_false,Bool.true_or,Bool.false_or,Bool.or_true,Bool.or_false,Bool.not_true,Bool.not_false,bne,beq_self_eq_true,BEq.rfl,decide_true,decide_false]
     simp (maxSteps:=999999) only [ey,implies_true,reduceMul,reducePow,reduceSub,Nat.reduceBEq,reduceToNat,reduceEqDiff,reduceLT,reduceCtorEq,reduceAdd,reduceLeDiff,cutQ_normal,g0,g1,hlf,q,hrc,c1,c2,c3,c4,c5,eqOk,eqA4,Option.map_some,beq_self_eq_true,BEq.rfl,Bool.not_true,Bool.not_false,show ((true == false) : Bool) = false from rfl,show ((false == true) : Bool) = false from rfl] <;> try trivial
    ·skip
     have q : bad1 true st Lf.length = false:=by unfold bad1;simp only [c1,c2,c3,c4,c5,Bool.true_and,Bool.false_and,Bool.and_true,Bool.and_false,Bool.true_or,Bool.false_or,Bool.or_true,Bool.or_false,Bool.not_true,Bool.not_false,bne,beq_self_eq_true,BEq.rfl,decide_true,decide_false]
     simp (maxSteps:=999999) only [ey,implies_true,reduceMul,reducePow,reduceSub,Nat.reduceBEq,reduceToNat,reduceEqDiff,reduceLT,reduceCtorEq,reduceAdd,reduceLeDiff,cutQ_normal,g0,g1,hlf,q,hrc,c1,c2,c3,c4,c5,eqOk,eqA4,Option.map_some,beq_self_eq_true,BEq.rfl,Bool.not_true,Bool.not_false,show ((true == false) : Bool) = false from rfl,show ((false == true) : Bool) = false from rfl] <;> try trivial
  | true=>
   cases c4 : ((Lf.length : Int) == 0) with
   | false=>
    have q : bad1 true st Lf.length = true:=by unfold bad1;simp only [c1,c2,c3,c4,show ((false == true) : Bool) = false from rfl,Bool.true_and,Bool.false_and,Bool.and_true,Bool.and_false,Bool.true_or,Bool.false_or,Bool.or_true,Bool.or_false,Bool.not_true,Bool.not_false,bne,beq_self_eq_true,BEq.rfl,decide_true,decide_false]
    simp (maxSteps:=999999) only [ey,implies_true,reduceMul,reducePow,reduceSub,Nat.reduceBEq,reduceToNat,reduceEqDiff,reduceLT,reduceCtorEq,reduceAdd,reduceLeDiff,cutQ_normal,g0,g1,hlf,q,hrc,c1,c2,c3,c4,show ((false == true) : Bool) = false from rfl,eqOk,eqA4,Option.map_some,beq_self_eq_true,BEq.rfl,Bool.not_true,Bool.not_false,show ((true == false) : Bool) = false from rfl,show ((false == true) : Bool) = false from rfl] <;> try trivial
   | true=>
    have c5 : ¬ (Lf.length : Int) > 50:=by
     have : (Lf.length : Int) = 0:=by simpa using c4
     omega
    have q : bad1 true st Lf.length = false:=by unfold bad1;simp only [c1,c2,c3,c4,c5,Bool.true_and,Bool.false_and,Bool.and_true,Bool.and_false,Bool.true_or,Bool.false_or,Bool.or_true,Bool.or_false,Bool.not_true,Bool.not_false,bne,beq_self_eq_true,BEq.rfl,decide_true,decide_false]
    simp (maxSteps:=999999) only [ey,implies_true,reduceMul,reducePow,reduceSub,Nat.reduceBEq,reduceToNat,reduceEqDiff,reduceLT,reduceCtorEq,reduceAdd,reduceLeDiff,cutQ_normal,g0,g1,hlf,q,hrc,c1,c2,c3,c4,c5,eqOk,eqA4,Option.map_some,beq_self_eq_true,BEq.rfl,Bool.not_true,Bool.not_false,show ((true == false) : Bool) = false from rfl,show ((false == true) : Bool) = false from rfl] <;> try trivial
 rintro env _ ⟨rfl,e2,e3,e37⟩
 cases hb1 : bad1 (rightC n LF LG LI LH) st Lf.length with
 | true=>
  rw [hb1] at e37
  simp (maxSteps:=999999) only [ey,implies_true,reduceMul,reducePow,reduceSub,Nat.reduceBEq,reduceToNat,reduceEqDiff,reduceLT,reduceCtorEq,reduceAdd,reduceLeDiff,e37]
  have:=hK _ hU02 hF2
  rw [cor_bad1 hb1] at this
  exact this
 | false=>
 have hr:=good_rc hb1
 rw [hb1] at e37
 simp (maxSteps:=999999) only [ey,implies_true,reduceMul,reducePow,reduceSub,Nat.reduceBEq,reduceToNat,reduceEqDiff,reduceLT,reduceCtorEq,reduceAdd,reduceLeDiff,e2,e3,e37,g1]
 refine cutGuard (fun env H'=>H2 = H' ∧ env.at (.tmp 2) = .ptr H.next 0 0 0 ∧ env.at (.tmp 3) = .ptr (H.next + 1) 0 0 0 ∧ env.at (.tmp 64) = .bool (bad2 st Lw.length sel)) ?_ ?_
 ·cases a1 : (st == 3) with
  | true=>
   have a3 : (st == 2) = false:=by
    have : st = 3:=by simpa using a1
    subst this;rfl
   by_cases a2 : (Lw.length : Int) > 0
   ·skip
    have q : bad2 st Lw.length sel = true:=by unfold bad2;simp only [a1,a2,a3,Bool.true_and,Bool.false_and,Bool.and_true,Bool.and_false,Bool.true_or,Bool.false_or,Bool.or_true,Bool.or_false,Bool.not_true,Bool.not_false,bne,beq_self_eq_true,BEq.rfl,decide_true,decide_false]
    simp (maxSteps:=999999) only [ey,implies_true,reduceMul,reducePow,reduceSub,Nat.reduceBEq,reduceToNat,reduceEqDiff,reduceLT,reduceCtorEq,reduceAdd,reduceLeDiff,cutQ_normal,e2,e3,g0,g1,hlw,q,a1,a2,a3,eqOk,eqA4,Option.map_some,beq_self_eq_true,BEq.rfl,Bool.not_true,Bool.not_false,show ((true == false) : Bool) = false from rfl,show ((false == true) : Bool) = false from rfl] <;> try trivial
   ·have a4 : ((Lw.length : Int) == 0) = true:=by rw [show (Lw.length : Int) = 0 by omega];rfl
    cases sel with
    | true=>
     have q : bad2 st Lw.length true = true:=by unfold bad2;simp only [a1,a2,a3,a4,Bool.true_and,Bool.false_and,Bool.and_true,Bool.and_false,Bool.true_or,Bool.false_or,Bool.or_true,Bool.or_false,Bool.not_true,Bool.not_false,bne,beq_self_eq_true,BEq.rfl,decide_true,decide_false]
     simp (maxSteps:=999999) only [ey,implies_true,reduceMul,reducePow,reduceSub,Nat.reduceBEq,reduceToNat,reduceEqDiff,reduceLT,reduceCtorEq,reduceAdd,reduceLeDiff,cutQ_normal,e2,e3,g0,g1,hlw,q,a1,a2,a3,a4,eqOk,eqA4,Option.map_some,beq_self_eq_true,BEq.rfl,Bool.not_true,Bool.not_false,show ((true == false) : Bool) = false from rfl,show ((false == true) : Bool) = false from rfl] <;> try trivial
    | false=>
     have q : bad2 st Lw.length false = false:=by unfold bad2;simp only [a1,a2,a3,a4,Bool.true_and,Bool.false_and,Bool.and_true,Bool.and_false,Bool.true_or,Bool.false_or,Bool.or_true,Bool.or_false,Bool.not_true,Bool.not_false,bne,beq_self_eq_true,BEq.rfl,decide_true,decide_false]
     simp (maxSteps:=999999) only [ey,implies_true,reduceMul,reducePow,reduceSub,Nat.reduceBEq,reduceToNat,reduceEqDiff,reduceLT,reduceCtorEq,reduceAdd,reduceLeDiff,cutQ_normal,e2,e3,g0,g1,hlw,q,a1,a2,a3,a4,eqOk,eqA4,Option.map_some,beq_self_eq_true,BEq.rfl,Bool.not_true,Bool.not_false,show ((true == false) : Bool) = false from rfl,show ((false == true) : Bool) = false from rfl] <;> try trivial
  | false=>
  cases a4 : ((Lw.length : Int) == 0) with
  | true=>
   cases a3 : (st == 2) with
   | true=>
    have q : bad2 st Lw.length sel = true:=by unfold bad2;simp only [a1,a3,a4,Bool.true_and,Bool.false_and,Bool.and_true,Bool.and_false,Bool.true_or,Bool.false_or,Bool.or_true,Bool.or_false,Bool.not_true,Bool.not_false,bne,beq_self_eq_true,BEq.rfl,decide_true,decide_false]
    simp (maxSteps:=999999) only [ey,implies_true,reduceMul,reducePow,reduceSub,Nat.reduceBEq,reduceToNat,reduceEqDiff,reduceLT,reduceCtorEq,reduceAdd,reduceLeDiff,cutQ_normal,e2,e3,g0,g1,hlw,q,a1,a3,a4,eqOk,eqA4,Option.map_some,beq_self_eq_true,BEq.rfl,Bool.not_true,Bool.not_false,show ((true == false) : Bool) = false from rfl,show ((false == true) : Bool) = false from rfl] <;> try trivial
   | false=>
    cases sel with
    | true=>
     have q : bad2 st Lw.length true = true:=by unfold bad2;simp only [a1,a3,a4,Bool.true_and,Bool.false_and,Bool.and_true,Bool.and_false,Bool.true_or,Bool.false_or,Bool.or_true,Bool.or_false,Bool.not_true,Bool.not_false,bne,beq_self_eq_true,BEq.rfl,decide_true,decide_false]
     simp (maxSteps:=999999) only [ey,implies_true,reduceMul,reducePow,reduceSub,Nat.reduceBEq,reduceToNat,reduceEqDiff,reduceLT,reduceCtorEq,reduceAdd,reduceLeDiff,cutQ_normal,e2,e3,g0,g1,hlw,q,a1,a3,a4,eqOk,eqA4,Option.map_some,beq_self_eq_true,BEq.rfl,Bool.not_true,Bool.not_false,show ((true == false) : Bool) = false from rfl,show ((false == true) : Bool) = false from rfl] <;> try trivial
    | false=>
     have q : bad2 st Lw.length false = false:=by unfold bad2;simp only [a1,a3,a4,Bool.true_and,Bool.false_and,Bool.and_true,Bool.and_false,Bool.true_or,Bool.false_or,Bool.or_true,Bool.or_false,Bool.not_true,Bool.not_false,bne,beq_self_eq_true,BEq.rfl,decide_true,decide_false]
     simp (maxSteps:=999999) only [ey,implies_true,reduceMul,reducePow,reduceSub,Nat.reduceBEq,reduceToNat,reduceEqDiff,reduceLT,reduceCtorEq,reduceAdd,reduceLeDiff,cutQ_normal,e2,e3,g0,g1,hlw,q,a1,a3,a4,eqOk,eqA4,Option.map_some,beq_self_eq_true,BEq.rfl,Bool.not_true,Bool.not_false,show ((true == false) : Bool) = false from rfl,show ((false == true) : Bool) = false from rfl] <;> try trivial
  | false=>
   cases a3 : (st == 2) with
   | true=>
    cases sel with
    | true=>
     have q : bad2 st Lw.length true = false:=by unfold bad2;simp only [a1,a3,a4,Bool.true_and,Bool.false_and,Bool.and_true,Bool.and_false,Bool.true_or,Bool.false_or,Bool.or_true,Bool.or_false,Bool.not_true,Bool.not_false,bne,beq_self_eq_true,BEq.rfl,decide_true,decide_false]
     simp (maxSteps:=999999) only [ey,implies_true,reduceMul,reducePow,reduceSub,Nat.reduceBEq,reduceToNat,reduceEqDiff,reduceLT,reduceCtorEq,reduceAdd,reduceLeDiff,cutQ_normal,e2,e3,g0,g1,hlw,q,a1,a3,a4,eqOk,eqA4,Option.map_some,beq_self_eq_true,BEq.rfl,Bool.not_true,Bool.not_false,show ((true == false) : Bool) = false from rfl,show ((false == true) : Bool) = false from rfl] <;> try trivial
    | false=>
     have q : bad2 st Lw.length false = false:=by unfold bad2;simp only [a1,a3,a4,Bool.true_and,Bool.false_and,Bool.and_true,Bool.and_false,Bool.true_or,Bool.false_or,Bool.or_true,Bool.or_false,Bool.not_true,Bool.not_false,bne,beq_self_eq_true,BEq.rfl,decide_true,decide_false]
     simp (maxSteps:=999999) only [ey,implies_true,reduceMul,reducePow,reduceSub,Nat.reduceBEq,reduceToNat,reduceEqDiff,reduceLT,reduceCtorEq,reduceAdd,reduceLeDiff,cutQ_normal,e2,e3,g0,g1,hlw,q,a1,a3,a4,eqOk,eqA4,Option.map_some,beq_self_eq_true,BEq.rfl,Bool.not_true,Bool.not_false,show ((true == false) : Bool) = false from rfl,show ((false == true) : Bool) = false from rfl] <;> try trivial
   | false=>
    cases sel with
    | true=>
     have q : bad2 st Lw.length true = false:=by unfold bad2;simp only [a1,a3,a4,Bool.true_and,Bool.false_and,Bool.and_true,Bool.and_false,Bool.true_or,Bool.false_or,Bool.or_true,Bool.or_false,Bool.not_true,Bool.not_false,bne,beq_self_eq_true,BEq.rfl,decide_true,decide_false]
     simp (maxSteps:=999999) only [ey,implies_true,reduceMul,reducePow,reduceSub,Nat.reduceBEq,reduceToNat,reduceEqDiff,reduceLT,reduceCtorEq,reduceAdd,reduceLeDiff,cutQ_normal,e2,e3,g0,g1,hlw,q,a1,a3,a4,eqOk,eqA4,Option.map_some,beq_self_eq_true,BEq.rfl,Bool.not_true,Bool.not_false,show ((true == false) : Bool) = false from rfl,show ((false == true) : Bool) = false from rfl] <;> try trivial
    | false=>
     have q : bad2 st Lw.length false = false:=by unfold bad2;simp only [a1,a3,a4,Bool.true_and,Bool.false_and,Bool.and_true,Bool.and_false,Bool.true_or,Bool.false_or,Bool.or_true,Bool.or_false,Bool.not_true,Bool.not_false,bne,beq_self_eq_true,BEq.rfl,decide_true,decide_false]
     simp (maxSteps:=999999) only [ey,implies_true,reduceMul,reducePow,reduceSub,Nat.reduceBEq,reduceToNat,reduceEqDiff,reduceLT,reduceCtorEq,reduceAdd,reduceLeDiff,cutQ_normal,e2,e3,g0,g1,hlw,q,a1,a3,a4,eqOk,eqA4,Option.map_some,beq_self_eq_true,BEq.rfl,Bool.not_true,Bool.not_false,show ((true == false) : Bool) = false from rfl,show ((false == true) : Bool) = false from rfl] <;> try trivial
 clear e2 e3 e37
 rintro env _ ⟨rfl,e2,e3,e65⟩
 cases hb2 : bad2 st Lw.length sel with
 | true=>
  rw [hb2] at e65
  simp (maxSteps:=999999) only [ey,implies_true,reduceMul,reducePow,reduceSub,Nat.reduceBEq,reduceToNat,reduceEqDiff,reduceLT,reduceCtorEq,reduceAdd,reduceLeDiff,e65]
  have:=hK _ hU02 hF2
  rw [cor_bad2 hb2] at this
  exact this
 | false=>
 rw [hb2] at e65
 rw [cor_good hb1 hb2] at hK
 simp (maxSteps:=999999) only [ey,implies_true,reduceMul,reducePow,reduceSub,Nat.reduceBEq,reduceToNat,reduceEqDiff,reduceLT,reduceCtorEq,reduceAdd,reduceLeDiff,e2,e3,e65]
 refine loopStep' (fun env' H'=>Up H2 H' ∧ Free H' ∧ ∃ j : Nat,j ≤ Lf.length ∧ env'.at (.tmp 5) = .int .i64 j ∧ env'.at (.tmp 2) = .ptr H.next 0 0 0 ∧ env'.at (.tmp 3) = .ptr (H.next + 1) 0 0 0 ∧ ∀ k,k < j → frmB LF Lf Lw.length sel k = true)
  (fun env' H'=>match env'.at (.tmp 5) with | .int _ j=>((Lf.length : Int) - j).toNat | _=>0) ?_ ?_
 ·exact ⟨Up.refl _,hF2,0,Nat.zero_le _,by simp only [ey,implies_true,reduceMul,reducePow,reduceSub,Nat.reduceBEq,reduceToNat,reduceEqDiff,reduceLT,reduceCtorEq,reduceAdd,reduceLeDiff];rfl,by simp only [ey,implies_true,reduceMul,reducePow,reduceSub,Nat.reduceBEq,reduceToNat,reduceEqDiff,reduceLT,reduceCtorEq,reduceAdd,reduceLeDiff,e2],by simp only [ey,implies_true,reduceMul,reducePow,reduceSub,Nat.reduceBEq,reduceToNat,reduceEqDiff,reduceLT,reduceCtorEq,reduceAdd,reduceLeDiff,e3],fun k hk=>by omega⟩
 clear e2 e3 e65
 rintro env H4 ⟨hU4,hF4,j,hj,e5,e2,e3,hall⟩
 have k0:=hU4 _ _ g0
 have k1:=hU4 _ _ g1
 by_cases hlt : j < Lf.length
 ·obtain ⟨c,hc⟩ : ∃ c,Lf[j]? = some c:=⟨_,List.getElem?_eq_getElem hlt⟩
  have hFr:=hLf c (List.mem_of_getElem? hc)
  obtain ⟨f,p,vs,vt,vm,_,_,_,rfl,_⟩:=hFr
  simp (maxSteps:=999999) only [ey,implies_true,reduceMul,reducePow,reduceSub,Nat.reduceBEq,reduceToNat,reduceEqDiff,reduceLT,reduceCtorEq,reduceAdd,reduceLeDiff,e5,e2,e3,k0,k1,hlf,lt_true hlt]
  refine callStep (f46_ok h hr hf hLf nLf hw hc (bad2_sel hb2) H4 hF4 _ fun H5 hU5 hF5=>?_)
  cases hb : frmB LF Lf Lw.length sel j with
  | false=>
   simp (maxSteps:=999999) only [ey,implies_true,reduceMul,reducePow,reduceSub,Nat.reduceBEq,reduceToNat,reduceEqDiff,reduceLT,reduceCtorEq,reduceAdd,reduceLeDiff,Bool.not_false]
   have:=hK _ (hU02.trans (hU4.trans hU5)) hF5
   rw [all_upto hlt hb] at this
   exact this
  | true=>
   simp (maxSteps:=999999) only [ey,implies_true,reduceMul,reducePow,reduceSub,Nat.reduceBEq,reduceToNat,reduceEqDiff,reduceLT,reduceCtorEq,reduceAdd,reduceLeDiff,Bool.not_true,e5,e2,e3,wrap_succ (i:=j) (by omega)]
   refine ⟨⟨hU4.trans hU5,hF5,j + 1,hlt,rfl,fun k hk=>?_⟩,by omega⟩
   by_cases hkj : k = j
   ·rw [hkj];exact hb
   ·exact hall k (by omega)
 ·obtain rfl : j = Lf.length:=by omega
  simp (maxSteps:=999999) only [ey,implies_true,reduceMul,reducePow,reduceSub,Nat.reduceBEq,reduceToNat,reduceEqDiff,reduceLT,reduceCtorEq,reduceAdd,reduceLeDiff,e5,e2,e3,k1,hlf,lt_false hlt]
  have:=hK _ (hU02.trans hU4) hF4
  rw [List.all_eq_true.2 fun k hk=>hall k (List.mem_range.1 hk)] at this
  exact this
end Go.Proofs.T
