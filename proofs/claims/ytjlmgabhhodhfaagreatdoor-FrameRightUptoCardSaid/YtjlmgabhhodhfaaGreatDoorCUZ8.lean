import Derived.Test.YtjlmgabhhodhfaaGreatDoorEvQGT
import Derived.Test.YtjlmgabhhodhfaaGreatDoorZ1Z7
import Derived.Test.YtjlmgabhhodhfaaGreatDoorY12Y16
set_option linter.unusedVariables false
set_option linter.unusedSimpArgs false
namespace Go.Ev
variable {P : Program} {n : Nat}
theorem WS_mono {Kp : Kept} (ops : Array Oper) (l : List (Oper × Bool)) {env : Env} {H : Heap} {K K' : Env → Heap → Prop} (hk : ∀ env H,K env H → K' env H) (h : WS P Kp n ops l env H K) : WS P Kp n ops l env H K':=by
 revert env H K K'
 induction l with
 | nil=>intro env H K K' hk h;exact hk _ _ h
 | cons p l ih=>
  obtain ⟨o,fl⟩:=p
  intro env H K K' hk h
  simp only [WS] at h ⊢
  split at h
  ·exact ih hk h
  ·split at h
   ·unfold WCall at h ⊢
    split at h
    ·obtain ⟨r,H1,h1,h2,h3⟩:=h;exact ⟨r,H1,h1,h2,ih hk h3⟩
    ·exact h
   ·split at h
    ·exact ⟨h.1,h.2.1,ih hk h.2.2⟩
    ·exact h
  ·exact h
def CutQ (J : Env → Heap → Prop) (ex : Ex) (env : Env) (H : Heap) : Prop:=match ex with
 | .normal=>J env H
 | _=>False
theorem cutQ_normal {J : Env → Heap → Prop} {env : Env} {H : Heap} : CutQ J .normal env H = J env H:=rfl
theorem cutGuard {Kp : Kept} {ops : Array Oper} {o : Oper} {fl : Bool} {w : Option Bool} {l : List (Oper × Bool)} {ks : List KItem} {env : Env} {H : Heap} {Q : Ex → Env → Heap → Prop} (J : Env → Heap → Prop) (h1 : GuardStep P Kp n ops o fl w l [] env H (CutQ J)) (h2 : ∀ env H,J env H → After P n ks .normal env H Q) : GuardStep P Kp n ops o fl w l ks env H Q:=by
 cases w with
 | none=>exact h1
 | some b=>
  cases b with
  | false=>exact WS_mono ops l h2 h1
  | true=>exact WS_mono ops _ h2 h1
end Go.Ev
set_option linter.unusedVariables false
set_option linter.unusedSimpArgs false
set_option maxRecDepth 100000
namespace Go.Proofs.T
open Go.Ev
open Nat (reduceMul reducePow reduceSub reduceEqDiff reduceLT reduceAdd reduceLeDiff)
open UInt8 (reduceToNat)
noncomputable def frmE (LF L : List (List AV)) (nS : Int) (Lm : List (List AV)) (nT p nW : Int) (sel last : Bool) (nf : Int) : Bool:=
 decide (0 ≤ p) && decide (p < (L.length : Int)) && (!decide (hgtB L p < 0) || (!last && undoingB Lm)) && (List.range Lm.length).all (fun j=>markB LF L nS (!last && decide (j + 1 = Lm.length)) (Lm.getD j [])) && (if last = true then waitsB L p nT nW sel (hgtB L p) else outerB Lm L p nT nf (hgtB L p))
noncomputable def frmD (LF : List (List AV)) (F : List AV) (nW : Int) (sel last : Bool) (nf : Int) (c : List AV) : Bool:=
 (((itm (c.getD 2 .undef)).length : Int) == nI F 2) && frmE LF (itm (F.getD 3 .undef)) (itm (c.getD 2 .undef)).length (itm (c.getD 4 .undef)) (itm (c.getD 3 .undef)).length (nI c 1) nW sel last nf
noncomputable def frmB (LF Lf : List (List AV)) (nW : Int) (sel : Bool) (i : Nat) : Bool:=
 belowV (nI (Lf.getD i []) 0) LF.length && frmD LF (LF.getD (nI (Lf.getD i []) 0).toNat []) nW sel (decide (i + 1 = Lf.length)) (nI (Lf.getD (i + 1) []) 0) (Lf.getD i [])
section
variable {vs vt vm v : AV} {LF Lf L Ls Lt Lm : List (List AV)} {nW f p P S : Int} {sel : Bool} {i fn : Nat} {nm : List Nat}
theorem frm_out (hi : Lf[i]? = some [.int .i64 f,.int .i64 p,vs,vt,vm]) (h : belowV f LF.length = false) : frmB LF Lf nW sel i = false:=by
 unfold frmB
 rw [show Lf.getD i [] = [.int .i64 f,.int .i64 p,vs,vt,vm] by rw [List.getD_eq_getElem?_getD,hi];rfl,show nI [.int .i64 f,.int .i64 p,vs,vt,vm] 0 = f from rfl,h,Bool.false_and]
theorem frm_in (hi : Lf[i]? = some [.int .i64 (fn : Int),.int .i64 p,vs,vt,vm]) (hc : LF[fn]? = some [.str nm,.int .i64 P,.int .i64 S,v]) (hv : ∀ H,Holds H 9 v L) (hs : ∀ H,Holds H 5 vs Ls) (ht : ∀ H,Holds H 5 vt Lt) (hm : ∀ H,Holds H 10 vm Lm) : frmB LF Lf nW sel i = (((Ls.length : Int) == S) && frmE LF L Ls.length Lm Lt.length p nW sel (decide (i + 1 = Lf.length)) (nI (Lf.getD (i + 1) []) 0)):=by
 have hfn : fn < LF.length:=(List.getElem?_eq_some_iff.1 hc).1
 unfold frmB
 rw [show Lf.getD i [] = [.int .i64 (fn : Int),.int .i64 p,vs,vt,vm] by rw [List.getD_eq_getElem?_getD,hi];rfl,show nI [.int .i64 (fn : Int),.int .i64 p,vs,vt,vm] 0 = (fn : Int) from rfl,below_in (by omega) (by omega),Bool.true_and,Int.toNat_natCast,show LF.getD fn [] = [.str nm,.int .i64 P,.int .i64 S,v] by rw [List.getD_eq_getElem?_getD,hc];rfl,← itm_eq hv,← itm_eq hs,← itm_eq ht,← itm_eq hm];rfl
end
theorem fn_fine {n : Nat} {LF LG LI LH : List (List AV)} (hr : rightC n LF LG LI LH = true) {nm : List Nat} {P S : Int} {v : AV} {L : List (List AV)} (hv : ∀ H,Holds H 9 v L) (hL : L.length < 2 ^ 60) {i : Nat} (hc : LF[i]? = some [.str nm,.int .i64 P,.int .i64 S,v]) : FineL L ∧ 1 ≤ L.length ∧ L.length ≤ 10000 ∧ ∀ c ∈ L,JmpOk c:=by
 have h:=(fun_bounds hr hv hc).1
 unfold funB at h
 simp only [Bool.and_eq_true,decide_eq_true_eq] at h
 obtain ⟨⟨⟨_,h3⟩,h4⟩,h5⟩:=h
 refine ⟨fineB_iff.1 h5,by omega,by omega,jmp_all (n:=n) (LF:=LF) (nG:=LG.length) (S:=S) hL fun j hj=>List.all_eq_true.1 h4 j (List.mem_range.2 hj)⟩
theorem hgt_bound {L : List (List AV)} (hF : FineL L) (a : Int) : -1 ≤ hgtB L a ∧ hgtB L a < 2 ^ 60:=by
 unfold hgtB
 split
 ·omega
 ·rcases (htsL_ok hF).2 a.toNat with ⟨h0,hr⟩ | ⟨h0,_⟩
  ·obtain ⟨_,hc,_⟩:=hF _ _ hr
   unfold chkL chkI at hc
   simp only [Bool.and_eq_true,decide_eq_true_eq] at hc
   omega
  ·omega
theorem not_map {G G' : Heap} {mb : Nat} {LF : List (List AV)} (hm : MapR G mb LF) (hU : Up (hbut G (some mb)) G') {b : Nat} {x : Blk} (hb : G.blk b = some x) (hx : ∀ l c,x ≠ .map l c) : b ≠ mb ∧ G'.blk b = some x:=by
 have hne : b ≠ mb:=fun e=>by
  obtain ⟨l,cl,hq,_⟩:=hm
  rw [e,hq] at hb
  cases hb
  exact hx _ _ rfl
 exact ⟨hne,hU _ _ (by rw [but_blk (fun e=>hne (by injection e with e;exact e.symm))];exact hb)⟩
theorem all_upto {p : Nat → Bool} {n j : Nat} (hj : j < n) (h : p j = false) : (List.range n).all p = false:=by
 rw [List.all_eq_false]
 exact ⟨j,List.mem_range.2 hj,by rw [h];simp⟩
set_option maxHeartbeats 16000000 in
theorem f79_ok {n i : Nat} {vF vG vI vH vs vt vm : AV} {f p : Int} {LF LG LI LH Lf Lw : List (List AV)} {vf vw : AV} {st fut : Int} {sel : Bool} {key : List Nat} (h : CodT n vF vG vI vH LF LG LI LH) (hr : rightC n LF LG LI LH = true) (hf : ∀ H,Holds H 5 vf Lf) (hLf : ∀ x ∈ Lf,FrmT n x) (nLf : Lf.length < 2 ^ 60) (hw : ∀ H,Holds H 1 vw Lw) (hi : Lf[i]? = some [.int .i64 f,.int .i64 p,vs,vt,vm]) (bx mb : Nat) (H : Heap) (hF : Free H) (hx : H.blk bx = some (.row 134 5 [[vF,vG,vI,vH,.map mb]] 0 0)) (hm : MapR H mb LF) (K : AV → Heap → Prop) (hK : ∀ H',Up (hbut H (some mb)) H' → Free H' → MapR H' mb LF → K (.bool (frmB LF Lf Lw.length sel i)) H') : WF Tryz.prog 79 [.ptr bx 0 0 0,.agg [.int .i64 st,vf,.int .i64 fut,vw,.bool sel,.str key],.int .i64 (i : Int)] H K:=by
 obtain ⟨f',p',vs',vt',vm',Ls,Lt,Lm,e,hs,ht,hmk,fS,fT,fM,nS,nT,nM⟩:=hLf _ (List.mem_of_getElem? hi)
 simp only [List.cons.injEq,AV.int.injEq,true_and,and_true] at e
 obtain ⟨rfl,rfl,rfl,rfl,rfl⟩:=e
 have hlf : ∀ G,evBuiltin Tryz.prog G .len #[28] [vf] = some (.int .i64 Lf.length,G):=fun G=>(hf G).lenAt und28 G
 have hlF : ∀ G,evBuiltin Tryz.prog G .len #[22] [vF] = some (.int .i64 LF.length,G):=fun G=>(h.hF G).lenAt und22 G
 have hls : ∀ G,evBuiltin Tryz.prog G .len #[24] [vs] = some (.int .i64 Ls.length,G):=fun G=>(hs G).lenAt und24 G
 have hlm : ∀ G,evBuiltin Tryz.prog G .len #[53] [vm] = some (.int .i64 Lm.length,G):=fun G=>(hmk G).lenAt und53 G
 have cf:=holds_cell (hf H)
 have cw:=holds_cell (hw H)
 have cs:=holds_cell (hs H)
 have ct:=holds_cell (ht H)
 have cm:=holds_cell (hmk H)
 have cG:=holds_cell (h.hG H)
 have cI:=holds_cell (h.hI H)
 have cH:=holds_cell (h.hH H)
 have hixi:=idx28 hf hi
 have hil : i < Lf.length:=(List.getElem?_eq_some_iff.1 hi).1
 have wl : IntKind.i64.wrap ((Lf.length : Int) - 1) = (Lf.length : Int) - 1:=IntWalk.i64_in _ (by omega)
 obtain ⟨last,hla⟩ : ∃ b,decide (i + 1 = Lf.length) = b:=⟨_,rfl⟩
 have hlst : ((i : Int) == (Lf.length : Int) - 1) = last:=by
  rw [← hla]
  by_cases q : i + 1 = Lf.length
  ·rw [decide_eq_true q];simp;omega
  ·rw [decide_eq_false q];simp;omega
 have stop : belowV f LF.length = false → frmB LF Lf Lw.length sel i = false:=fun q=>frm_out hi q
 refine WF_body Tryz.func79 (by kernel_rfl) rfl Tryz.ntmps79 (by rw [Tryz.results79]) (of_decide_eq_true (by kernel_rfl)) ?_
 simp (maxSteps:=999999) only [ey,Nat.reduceBEq,reduceEqDiff,reduceLT,reduceCtorEq,reduceAdd,reduceLeDiff,hF.at,hF.hp,cf,cw]
 generalize hH1 : HP H [Blk.row 31 6 [[.int .i64 st,vf,.int .i64 fut,vw,.bool sel,.str key]] 0 0] = H1
 have b0 : H1.blk H.next = some (.row 31 6 [[.int .i64 st,vf,.int .i64 fut,vw,.bool sel,.str key]] 0 0):=by rw [← hH1,hp_blk0];rfl
 have hF1 : Free H1:=hH1 ▸ hF.hpF _
 have hU1 : Up H H1:=hH1 ▸ hF.hpU _
 have hx1:=hU1 _ _ hx
 have hm1:=hm.up hU1
 refine drawStepK (fun b=>H1.blk b ≠ none) [7,8,12] [0,1,2,3,4,5,6,7,8,9,10,11,12,13] _ rfl (by kernel_rfl) ?_
 simp (maxSteps:=999999) only [ey,Nat.reduceBEq,reduceEqDiff,reduceLT,reduceCtorEq,reduceAdd,reduceLeDiff,hereStep_K,b0,hixi]
 refine opStepK_read vf (fun G m hG=>?_) ?_
 ·have hg:=hG _ _ (show H1.blk H.next ≠ none by rw [b0];simp) b0
  simp (maxSteps:=999999) only [ey,Nat.reduceBEq,reduceEqDiff,reduceLT,reduceCtorEq,reduceAdd,reduceLeDiff,hg]
 simp (maxSteps:=999999) only [ey,Nat.reduceBEq,reduceEqDiff,reduceLT,reduceCtorEq,reduceAdd,reduceLeDiff,hereStep_K]
 refine opStepK_read (.int .i64 Lf.length) (fun G m hG=>?_) ?_
 ·simp (maxSteps:=999999) only [ey,Nat.reduceBEq,reduceEqDiff,reduceLT,reduceCtorEq,reduceAdd,reduceLeDiff,hlf]
 simp (maxSteps:=999999) only [ey,Nat.reduceBEq,reduceEqDiff,reduceLT,reduceCtorEq,reduceAdd,reduceLeDiff,hereStep_K,hF1.at,hF1.hp,wl,hlst]
 refine opStepK_put .undef (HP H1 [Blk.row 55 5 [[.int .i64 f,.int .i64 p,vs,vt,vm]] 0 0]) ?_ rfl (by simp [opKind]) rfl ?_ ?_
 ·simp (maxSteps:=999999) only [ey,Nat.reduceBEq,reduceEqDiff,reduceLT,reduceCtorEq,reduceAdd,reduceLeDiff,hereStep_K,cs,ct,cm]
 ·intro b z hz hbz
  cases hq : H1.blk b with
  | none=>exact absurd hq hz
  | some q=>
   have h1:=hF1.hpU [Blk.row 55 5 [[.int .i64 0,.int .i64 0,.nilslice,.nilslice,.nilslice]] 0 0] _ _ hq
   have h2:=hF1.hpU [Blk.row 55 5 [[.int .i64 f,.int .i64 p,vs,vt,vm]] 0 0] _ _ hq
   rw [h1] at hbz
   rw [h2];exact hbz
 simp (maxSteps:=999999) only [ey,Nat.reduceBEq,reduceEqDiff,reduceLT,reduceCtorEq,reduceAdd,reduceLeDiff,hereStep_K]
 generalize hH2 : HP H1 [Blk.row 55 5 [[.int .i64 f,.int .i64 p,vs,vt,vm]] 0 0] = H2
 have g0 : H2.blk H1.next = some (.row 55 5 [[.int .i64 f,.int .i64 p,vs,vt,vm]] 0 0):=by rw [← hH2,hp_blk0];rfl
 have hF2 : Free H2:=hH2 ▸ hF1.hpF _
 have hU2 : Up H1 H2:=hH2 ▸ hF1.hpU _
 have hU02:=hU1.trans hU2
 have hx2:=hU2 _ _ hx1
 have hm2:=hm1.up hU2
 have hb2:=hU2 _ _ b0
 refine drawStep [] [0,1,2,3,4,5,6,7,8,9,10,11,12,13,14,15,16,17,18,19,20,21,22,23,24,25,26,27,28,29] _ rfl (by kernel_rfl) ?_
 by_cases c1 : f < 0
 ·simp (maxSteps:=999999) only [ey,Nat.reduceBEq,reduceEqDiff,reduceLT,reduceCtorEq,reduceAdd,reduceLeDiff,g0,c1]
  have:=hK _ (but_up.trans hU02) hF2 hm2
  rw [stop (below_neg c1)] at this
  exact this
 by_cases c2 : f ≥ (LF.length : Int)
 ·simp (maxSteps:=999999) only [ey,Nat.reduceBEq,reduceEqDiff,reduceLT,reduceCtorEq,reduceAdd,reduceLeDiff,g0,c1,c2,hx2,hlF]
  have:=hK _ (but_up.trans hU02) hF2 hm2
  rw [stop (below_ge c2)] at this
  exact this
 obtain ⟨fn,rfl⟩ : ∃ m : Nat,f = (m : Int):=⟨f.toNat,by omega⟩
 obtain ⟨c,hc⟩ : ∃ c,LF[fn]? = some c:=⟨_,List.getElem?_eq_getElem (show fn < LF.length by omega)⟩
 obtain ⟨nm,P,S,v,L,rfl,hv,hL,hLn⟩:=h.fF c (List.mem_of_getElem? hc)
 obtain ⟨hFi,hl1,hl2,hj⟩:=fn_fine hr hv hLn hc
 have hix:=idx22 h.hF hc
 have hlv : ∀ G,evBuiltin Tryz.prog G .len #[83] [v] = some (.int .i64 L.length,G):=fun G=>(hv G).lenAt und83 G
 rw [frm_in hi hc hv hs ht hmk,hla] at hK
 cases c3 : ((Ls.length : Int) == S) with
 | false=>
  simp (maxSteps:=999999) only [ey,Nat.reduceBEq,reduceEqDiff,reduceLT,reduceCtorEq,reduceAdd,reduceLeDiff,g0,c1,c2,hx2,hlF,hls,hix,show ((Ls.length : Int) != S) = true from by rw [bne,c3];rfl]
  have:=hK _ (but_up.trans hU02) hF2 hm2
  rw [c3,Bool.false_and] at this
  exact this
 | true=>
 rw [c3,Bool.true_and] at hK
 simp (maxSteps:=999999) only [ey,Nat.reduceBEq,reduceEqDiff,reduceLT,reduceCtorEq,reduceAdd,reduceLeDiff,g0,c1,c2,hx2,hlF,hls,hix,show ((Ls.length : Int) != S) = false from by rw [bne,c3];rfl]
 refine drawStepK (fun b=>H2.blk b ≠ none ∧ b ≠ mb) [5,7,8] [0,1,2,3,4,6,7,8,5,9,10] _ rfl (by kernel_rfl) ?_
 simp (maxSteps:=999999) only [ey,Nat.reduceBEq,reduceEqDiff,reduceLT,reduceCtorEq,reduceAdd,reduceLeDiff,hereStep_K,g0]
 have hfm : H1.next ≠ mb:=(not_map hm2 but_up g0 (fun _ _=>by simp)).1
 refine opStepK_read vm (fun G m hG=>?_) ?_
 ·have hg:=hG _ _ ⟨show H2.blk H1.next ≠ none by rw [g0];simp,hfm⟩ g0
  simp (maxSteps:=999999) only [ey,Nat.reduceBEq,reduceEqDiff,reduceLT,reduceCtorEq,reduceAdd,reduceLeDiff,hg]
 simp (maxSteps:=999999) only [ey,Nat.reduceBEq,reduceEqDiff,reduceLT,reduceCtorEq,reduceAdd,reduceLeDiff,hereStep_K,g0]
 refine opStepK_read (.int .i64 Lm.length) (fun G m hG=>?_) ?_
 ·simp (maxSteps:=999999) only [ey,Nat.reduceBEq,reduceEqDiff,reduceLT,reduceCtorEq,reduceAdd,reduceLeDiff,hlm]
 simp (maxSteps:=999999) only [ey,Nat.reduceBEq,reduceEqDiff,reduceLT,reduceCtorEq,reduceAdd,reduceLeDiff,hereStep_K,g0]
 refine callStep_flag (f147_ok h.hF hc hv hL hj hl1 hl2 hFi bx mb H2 hF2 hx2 hm2 p _ fun H3 hU3 hF3 hm3=>⟨fun b x hb hx=>hU3 _ _ (by rw [but_blk (fun e=>hb.2 (by injection e with e;exact e.symm))];exact hx),?_⟩)
 have g3:=(not_map hm2 hU3 g0 (fun _ _=>by simp)).2
 have hb3:=(not_map hm2 hU3 hb2 (fun _ _=>by simp)).2
 have hx3:=(not_map hm2 hU3 hx2 (fun _ _=>by simp)).2
 have hU03:=up_but hU02 hU3
 obtain ⟨hh1,hh2⟩:=hgt_bound hFi p
 generalize hhg : hgtB L p = hg at *
 unfold frmE at hK
 rw [hhg] at hK
 simp (maxSteps:=999999) only [ey,Nat.reduceBEq,reduceEqDiff,reduceLT,reduceCtorEq,reduceAdd,reduceLeDiff,hereStep_K,g3,hb3]
 refine cutGuard (fun env H'=>H3 = H' ∧ env.at (.tmp 0) = .ptr bx 0 0 0 ∧ env.at (.tmp 2) = .int .i64 i ∧ env.at (.tmp 4) = .ptr H.next 0 0 0 ∧ env.at (.tmp 7) = .ptr H1.next 0 0 0 ∧ env.at (.tmp 8) = .bool last ∧ env.at (.tmp 9) = .int .i64 hg ∧ env.at (.tmp 11) = .bool (!last && undoingB Lm)) ?_ ?_
 ·have wm : 0 < Lm.length → IntKind.i64.wrap ((Lm.length : Int) - 1) = ((Lm.length - 1 : Nat) : Int):=fun h0=>by rw [IntWalk.i64_in _ (by omega)];omega
  cases last with
  | true=>simp (maxSteps:=999999) only [ey,Nat.reduceBEq,reduceEqDiff,reduceLT,reduceCtorEq,reduceAdd,reduceLeDiff,Bool.not_true,cutQ_normal,Bool.false_and] <;> try trivial
  | false=>
   rcases undo_cases fM with ⟨u1,u2⟩ | ⟨u1,mk,mt,ms,mh,mu,m0,m1,m2,m3,m4,u3,u2⟩
   ·simp (maxSteps:=999999) only [ey,Nat.reduceBEq,reduceEqDiff,reduceLT,reduceCtorEq,reduceAdd,reduceLeDiff,Bool.not_false,cutQ_normal,u1,u2,Bool.true_and] <;> try trivial
   ·simp (maxSteps:=999999) only [ey,Nat.reduceBEq,reduceEqDiff,reduceLT,reduceCtorEq,reduceAdd,reduceLeDiff,Bool.not_false,cutQ_normal,u1,u2,Bool.true_and,g3,wm (by have:=of_eq_true u1;omega),idx53 hmk u3] <;> try trivial
 rintro env _ ⟨rfl,e0,e2,e4,e7,e8,e9,e11⟩
 have fin : ∀ (b : Bool) H',Up (hbut H (some mb)) H' → Free H' → MapR H' mb LF → frmE LF L Ls.length Lm Lt.length p Lw.length sel last (nI (Lf.getD (i + 1) []) 0) = b → K (.bool b) H':=fun b H' q1 q2 q3 q4=>by
  have:=hK H' q1 q2 q3
  rw [← q4];unfold frmE;rw [hhg];exact this
 simp (maxSteps:=999999) only [ey,Nat.reduceBEq,reduceEqDiff,reduceLT,reduceCtorEq,reduceAdd,reduceLeDiff]
 refine drawStep [] [0,1,2,3,4,5,6,7,8,9,10,11,12,13,14,15,16,17,18,19,20,21,22,23,24,25,26] _ rfl (by kernel_rfl) ?_
 by_cases c4 : p < 0
 ·simp (maxSteps:=999999) only [ey,Nat.reduceBEq,reduceEqDiff,reduceLT,reduceCtorEq,reduceAdd,reduceLeDiff,e0,e2,e4,e7,e8,e9,e11,g3,c4]
  exact fin _ _ hU03 hF3 hm3 (by unfold frmE;rw [decide_eq_false (show ¬ 0 ≤ p by omega)];rfl)
 by_cases c5 : p ≥ (L.length : Int)
 ·simp (maxSteps:=999999) only [ey,Nat.reduceBEq,reduceEqDiff,reduceLT,reduceCtorEq,reduceAdd,reduceLeDiff,e0,e2,e4,e7,e8,e9,e11,g3,c4,c5,hx3,hix,hlv]
  exact fin _ _ hU03 hF3 hm3 (by unfold frmE;rw [decide_eq_false (show ¬ p < (L.length : Int) by omega),Bool.and_false];rfl)
 have d1 : decide (0 ≤ p) = true:=decide_eq_true (by omega)
 have d2 : decide (p < (L.length : Int)) = true:=decide_eq_true (by omega)
 have fin2 : ∀ (z : Bool),(!decide (hg < 0) || (!last && undoingB Lm)) = z → ∀ (b : Bool) H',Up (hbut H (some mb)) H' → Free H' → MapR H' mb LF → (z && (List.range Lm.length).all (fun j=>markB LF L Ls.length (!last && decide (j + 1 = Lm.length)) (Lm.getD j [])) && (if last = true then waitsB L p Lt.length Lw.length sel hg else outerB Lm L p Lt.length (nI (Lf.getD (i + 1) []) 0) hg)) = b → K (.bool b) H':=fun z hz b H' q1 q2 q3 q4=>fin b H' q1 q2 q3 (by unfold frmE;rw [hhg,d1,d2,hz];exact q4)
 simp (maxSteps:=999999) only [ey,Nat.reduceBEq,reduceEqDiff,reduceLT,reduceCtorEq,reduceAdd,reduceLeDiff,e0,e2,e4,e7,e8,e9,e11,g3,c4,c5,hx3,hix,hlv]
 refine cutGuard (fun env' H'=>H3 = H' ∧ env'.at (.tmp 0) = .ptr bx 0 0 0 ∧ env'.at (.tmp 2) = .int .i64 i ∧ env'.at (.tmp 4) = .ptr H.next 0 0 0 ∧ env'.at (.tmp 7) = .ptr H1.next 0 0 0 ∧ env'.at (.tmp 8) = .bool last ∧ env'.at (.tmp 9) = .int .i64 hg ∧ env'.at (.tmp 106) = .bool (!(!decide (hg < 0) || (!last && undoingB Lm)))) ?_ ?_
 ·by_cases hn : hg < 0
  ·simp (maxSteps:=999999) only [ey,Nat.reduceBEq,reduceEqDiff,reduceLT,reduceCtorEq,reduceAdd,reduceLeDiff,cutQ_normal,e0,e2,e4,e7,e8,e9,e11,hn,decide_true,Bool.not_true,Bool.false_or] <;> try trivial
  ·simp (maxSteps:=999999) only [ey,Nat.reduceBEq,reduceEqDiff,reduceLT,reduceCtorEq,reduceAdd,reduceLeDiff,cutQ_normal,e0,e2,e4,e7,e8,e9,e11,hn,decide_false,Bool.not_false,Bool.true_or,Bool.not_true] <;> try trivial
 clear e0 e2 e4 e7 e8 e9 e11
 rintro env _ ⟨rfl,e0,e2,e4,e7,e8,e9,e106⟩
 cases hz : (!decide (hg < 0) || (!last && undoingB Lm)) with
 | false=>
  rw [hz] at e106
  simp (maxSteps:=999999) only [ey,Nat.reduceBEq,reduceEqDiff,reduceLT,reduceCtorEq,reduceAdd,reduceLeDiff,e0,e2,e4,e7,e8,e9,e106,Bool.not_false]
  exact fin2 _ hz _ _ hU03 hF3 hm3 rfl
 | true=>
 rw [hz] at e106
 simp (maxSteps:=999999) only [ey,Nat.reduceBEq,reduceEqDiff,reduceLT,reduceCtorEq,reduceAdd,reduceLeDiff,e0,e2,e4,e7,e8,e9,e106,Bool.not_true,g3,hlm]
 have gb : ∀ H',Up (hbut H3 (some mb)) H' → H'.blk H1.next = some (.row 55 5 [[.int .i64 (fn : Int),.int .i64 p,vs,vt,vm]] 0 0) ∧ H'.blk H.next = some (.row 31 6 [[.int .i64 st,vf,.int .i64 fut,vw,.bool sel,.str key]] 0 0) ∧ H'.blk bx = some (.row 134 5 [[vF,vG,vI,vH,.map mb]] 0 0):=fun H' hU=>⟨(not_map hm3 hU g3 (fun _ _=>by simp)).2,(not_map hm3 hU hb3 (fun _ _=>by simp)).2,(not_map hm3 hU hx3 (fun _ _=>by simp)).2⟩
 refine loopStep' (fun env' H'=>Up (hbut H3 (some mb)) H' ∧ Free H' ∧ MapR H' mb LF ∧ ∃ j : Nat,j ≤ Lm.length ∧ env'.at (.tmp 110) = .int .i64 j ∧ env'.at (.tmp 109) = .int .i64 Lm.length ∧ env'.at (.tmp 108) = vm ∧ env'.at (.tmp 0) = .ptr bx 0 0 0 ∧ env'.at (.tmp 2) = .int .i64 i ∧ env'.at (.tmp 4) = .ptr H.next 0 0 0 ∧ env'.at (.tmp 7) = .ptr H1.next 0 0 0 ∧ env'.at (.tmp 8) = .bool last ∧ env'.at (.tmp 9) = .int .i64 hg ∧ ∀ k,k < j → markB LF L Ls.length (!last && decide (k + 1 = Lm.length)) (Lm.getD k []) = true)
  (fun env' H'=>match env'.at (.tmp 110) with | .int _ j=>((Lm.length : Int) - j).toNat | _=>0) ?_ ?_
 ·exact ⟨but_up,hF3,hm3,0,Nat.zero_le _,by simp only [ey,Nat.reduceBEq,reduceEqDiff,reduceLT,reduceCtorEq,reduceAdd,reduceLeDiff];rfl,by simp only [ey,Nat.reduceBEq,reduceEqDiff,reduceLT,reduceCtorEq,reduceAdd,reduceLeDiff],by simp only [ey,Nat.reduceBEq,reduceEqDiff,reduceLT,reduceCtorEq,reduceAdd,reduceLeDiff],by simp only [ey,Nat.reduceBEq,reduceEqDiff,reduceLT,reduceCtorEq,reduceAdd,reduceLeDiff,e0],by simp only [ey,Nat.reduceBEq,reduceEqDiff,reduceLT,reduceCtorEq,reduceAdd,reduceLeDiff,e2],by simp only [ey,Nat.reduceBEq,reduceEqDiff,reduceLT,reduceCtorEq,reduceAdd,reduceLeDiff,e4],by simp only [ey,Nat.reduceBEq,reduceEqDiff,reduceLT,reduceCtorEq,reduceAdd,reduceLeDiff,e7],by simp only [ey,Nat.reduceBEq,reduceEqDiff,reduceLT,reduceCtorEq,reduceAdd,reduceLeDiff,e8],by simp only [ey,Nat.reduceBEq,reduceEqDiff,reduceLT,reduceCtorEq,reduceAdd,reduceLeDiff,e9],fun k hk=>by omega⟩
 clear e0 e2 e4 e7 e8 e9 e106
 rintro env2 H4 ⟨hU4,hF4,hm4,j,hj1,e110,e109,e108,e0,e2,e4,e7,e8,e9,hall⟩
 obtain ⟨g4,k4,x4⟩:=gb H4 hU4
 have hU04:=but_trans hU03 hU4
 by_cases hlt : j < Lm.length
 ·obtain ⟨cm',hcm⟩ : ∃ c,Lm[j]? = some c:=⟨_,List.getElem?_eq_getElem hlt⟩
  have hgd : Lm.getD j [] = cm':=by rw [List.getD_eq_getElem?_getD,hcm];rfl
  have hMr:=fM cm' (List.mem_of_getElem? hcm)
  have hixm:=idx53 hmk hcm
  have hMc : cm'.all AV.isCell = true:=by
   obtain ⟨k,t,s,h,vu,Lu,a0,a1,a2,a3,a4,rfl,hu,_,_,hV⟩:=hMr
   have cu:=holds_cell (hu H)
   have hVc:=hV.cells
   simp only [List.all_cons,List.all_nil,Bool.and_true,Bool.and_eq_true] at hVc ⊢
   exact ⟨rfl,rfl,rfl,rfl,cu,hVc⟩
  have hMl : cm'.length = 10:=hMr.len
  have hMt : cm'.take 10 = cm':=List.take_of_length_le (by omega)
  have wj : IntKind.i64.wrap ((Lm.length : Int) - 1) = (Lm.length : Int) - 1:=IntWalk.i64_in _ (by omega)
  have hjl : ((j : Int) == (Lm.length : Int) - 1) = decide (j + 1 = Lm.length):=by
   by_cases q : j + 1 = Lm.length
   ·rw [decide_eq_true q];simp;omega
   ·rw [decide_eq_false q];simp;omega
  simp (maxSteps:=999999) only [ey,Nat.reduceBEq,reduceEqDiff,reduceLT,reduceCtorEq,reduceAdd,reduceLeDiff,e110,e109,e108,e0,e2,e4,e7,e8,e9,lt_true hlt,hixm,hF4.at,hF4.hp,hMc,hMl,hMt,g4,k4]
  generalize hH5 : HP H4 [Blk.row 92 10 [cm'] 0 0] = H5
  have n5 : H5.blk H4.next = some (.row 92 10 [cm'] 0 0):=by rw [← hH5,hp_blk0];rfl
  have hF5 : Free H5:=hH5 ▸ hF4.hpF _
  have hU5 : Up H4 H5:=hH5 ▸ hF4.hpU _
  have g5:=hU5 _ _ g4
  have x5:=hU5 _ _ x4
  have hm5:=hm4.up hU5
  have go : ∀ b,b = markB LF L Ls.length (!last && decide (j + 1 = Lm.length)) cm' → ∀ H6,Up (hbut H5 (some mb)) H6 → Up (hbut H3 (some mb)) H6 ∧ Up (hbut H (some mb)) H6:=fun b _ H6 hU6=>⟨but_trans (hU4.trans hU5) hU6,but_trans (hU04.trans hU5) hU6⟩
  have bad : markB LF L Ls.length (!last && decide (j + 1 = Lm.length)) cm' = false → ∀ H',Up (hbut H (some mb)) H' → Free H' → MapR H' mb LF → K (.bool false) H':=fun q H' q1 q2 q3=>fin2 _ hz _ H' q1 q2 q3 (by rw [all_upto hlt (by rw [hgd];exact q)];rfl)
  have nxt : markB LF L Ls.length (!last && decide (j + 1 = Lm.length)) cm' = true → ∀ k,k < j + 1 → markB LF L Ls.length (!last && decide (k + 1 = Lm.length)) (Lm.getD k []) = true:=fun q k hk=>by
   by_cases hkj : k = j
   ·rw [hkj,hgd];exact q
   ·exact hall k (by omega)
  cases last with
  | true=>
   simp (maxSteps:=999999) only [ey,Nat.reduceBEq,reduceEqDiff,reduceLT,reduceCtorEq,reduceAdd,reduceLeDiff,e8,g5,n5,x5,e0,e7,Bool.not_true,Bool.not_false,hMl,hMt,hlm,wj,hjl]
   refine callStep (f148_ok h.hF h.fun hc hv hL hj hl1 hl2 hFi hs ct cm (inner:=false) hMr bx mb H5 hF5 x5 hm5 _ fun H6 hU6 hF6 hm6=>?_)
   have hU36:=but_trans (hU4.trans hU5) hU6
   have hU06:=but_trans (hU04.trans hU5) hU6
   cases hb : markB LF L Ls.length (false) cm' with
   | false=>
    simp (maxSteps:=999999) only [ey,Nat.reduceBEq,reduceEqDiff,reduceLT,reduceCtorEq,reduceAdd,reduceLeDiff,Bool.not_false]
    exact bad (by exact hb) _ hU06 hF6 hm6
   | true=>
    simp (maxSteps:=999999) only [ey,Nat.reduceBEq,reduceEqDiff,reduceLT,reduceCtorEq,reduceAdd,reduceLeDiff,Bool.not_true,e110,e109,e108,e0,e2,e4,e7,e8,e9,wrap_succ (i:=j) (by omega)]
    exact ⟨⟨hU36,hF6,hm6,j + 1,hlt,rfl,nxt (by exact hb)⟩,by omega⟩
  | false=>
   simp (maxSteps:=999999) only [ey,Nat.reduceBEq,reduceEqDiff,reduceLT,reduceCtorEq,reduceAdd,reduceLeDiff,e8,g5,n5,x5,e0,e7,Bool.not_true,Bool.not_false,hMl,hMt,hlm,wj,hjl]
   refine callStep (f148_ok h.hF h.fun hc hv hL hj hl1 hl2 hFi hs ct cm (inner:=decide (j + 1 = Lm.length)) hMr bx mb H5 hF5 x5 hm5 _ fun H6 hU6 hF6 hm6=>?_)
   have hU36:=but_trans (hU4.trans hU5) hU6
   have hU06:=but_trans (hU04.trans hU5) hU6
   cases hb : markB LF L Ls.length (decide (j + 1 = Lm.length)) cm' with
   | false=>
    simp (maxSteps:=999999) only [ey,Nat.reduceBEq,reduceEqDiff,reduceLT,reduceCtorEq,reduceAdd,reduceLeDiff,Bool.not_false]
    exact bad (by rw [Bool.not_false,Bool.true_and];exact hb) _ hU06 hF6 hm6
   | true=>
    simp (maxSteps:=999999) only [ey,Nat.reduceBEq,reduceEqDiff,reduceLT,reduceCtorEq,reduceAdd,reduceLeDiff,Bool.not_true,e110,e109,e108,e0,e2,e4,e7,e8,e9,wrap_succ (i:=j) (by omega)]
    exact ⟨⟨hU36,hF6,hm6,j + 1,hlt,rfl,nxt (by rw [Bool.not_false,Bool.true_and];exact hb)⟩,by omega⟩
 ·obtain rfl : j = Lm.length:=by omega
  have hal : (List.range Lm.length).all (fun j=>markB LF L Ls.length (!last && decide (j + 1 = Lm.length)) (Lm.getD j [])) = true:=List.all_eq_true.2 fun k hk=>hall k (List.mem_range.1 hk)
  rw [hal] at fin2
  simp (maxSteps:=999999) only [ey,Nat.reduceBEq,reduceEqDiff,reduceLT,reduceCtorEq,reduceAdd,reduceLeDiff,e110,e109,e108,e0,e2,e4,e7,e8,e9,lt_false hlt]
  cases last with
  | true=>
   simp (maxSteps:=999999) only [ey,Nat.reduceBEq,reduceEqDiff,reduceLT,reduceCtorEq,reduceAdd,reduceLeDiff,e0,e4,e7,e9,g4,k4]
   refine callStep (f149_ok h.hF cG cI cH hc hv hL hLn ht hw cf cs ct cm hh1 hh2 (by omega) bx mb H4 hF4 x4 _ fun H5 hU5 hF5=>?_)
   simp (maxSteps:=999999) only [ey,Nat.reduceBEq,reduceEqDiff,reduceLT,reduceCtorEq,reduceAdd,reduceLeDiff]
   exact fin2 _ hz _ _ (hU04.trans hU5) hF5 (hm4.up hU5) rfl
  | false=>
   have hne : i + 1 ≠ Lf.length:=of_decide_eq_false hla
   obtain ⟨c',hc'⟩ : ∃ c',Lf[i + 1]? = some c':=⟨_,List.getElem?_eq_getElem (show i + 1 < Lf.length by omega)⟩
   have hixn : ∀ G,evIndexAddr Tryz.prog G 28 vf (.int .i64 ((i : Int) + 1)) = some (.iptr c' 0):=fun G=>by have:=idx28 hf hc' G;rwa [Int.natCast_add] at this
   obtain ⟨f2,p2,vs2,vt2,vm2,Ls2,Lt2,Lm2,rfl,hs2,ht2,hm2,_⟩:=hLf c' (List.mem_of_getElem? hc')
   have hnf : nI (Lf.getD (i + 1) []) 0 = f2:=by rw [List.getD_eq_getElem?_getD,hc'];rfl
   have wi : IntKind.i64.wrap ((i : Int) + 1) = (i : Int) + 1:=IntWalk.i64_in _ (by omega)
   simp (maxSteps:=999999) only [ey,Nat.reduceBEq,reduceEqDiff,reduceLT,reduceCtorEq,reduceAdd,reduceLeDiff]
   refine drawStep [] [0,1,2,3,4,5,6,7,8,9,10] _ rfl (by kernel_rfl) ?_
   simp (maxSteps:=999999) only [ey,Nat.reduceBEq,reduceEqDiff,reduceLT,reduceCtorEq,reduceAdd,reduceLeDiff,e0,e2,e4,e7,e9,g4,k4,wi,hixn]
   refine callStep (f150_ok h.hF cG cI cH hc hv hL hLn ht hmk fM nM cs (holds_cell (hs2 H)) (holds_cell (ht2 H)) (holds_cell (hm2 H)) hh1 hh2 (by omega) bx mb H4 hF4 x4 _ fun H5 hU5 hF5=>?_)
   simp (maxSteps:=999999) only [ey,Nat.reduceBEq,reduceEqDiff,reduceLT,reduceCtorEq,reduceAdd,reduceLeDiff]
   exact fin2 _ hz _ _ (hU04.trans hU5) hF5 (hm4.up hU5) (by rw [hnf];rfl)
end Go.Proofs.T
