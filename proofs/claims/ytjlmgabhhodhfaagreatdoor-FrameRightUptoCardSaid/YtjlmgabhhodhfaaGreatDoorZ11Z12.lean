import Derived.Test.YtjlmgabhhodhfaaGreatDoorZ9Z10
import Derived.Test.YtjlmgabhhodhfaaGreatDoorY12Y16
import Derived.Test.YtjlmgabhhodhfaaGreatDoorWa2WaF
set_option linter.unusedVariables false
set_option linter.unusedSimpArgs false
set_option maxRecDepth 100000
namespace Go.Proofs.T
open Go.Ev
open Nat (reduceMul reducePow reduceSub reduceEqDiff reduceLT reduceAdd reduceLeDiff)
open UInt8 (reduceToNat)
def undN (c : List AV) : Nat:=(itm (c.getD 1 .undef)).length
def mrkN (c : List AV) : Nat:=1 + ((itm (c.getD 4 .undef)).map undN).sum
def frmN (c : List AV) : Nat:=(itm (c.getD 2 .undef)).length + (itm (c.getD 3 .undef)).length + ((itm (c.getD 4 .undef)).map mrkN).sum
theorem sum_at {α : Type} (f : α → Nat) : ∀ {L : List α} {i : Nat} {c : α},L[i]? = some c → ((L.take (i + 1)).map f).sum = ((L.take i).map f).sum + f c ∧ ((L.take (i + 1)).map f).sum ≤ (L.map f).sum
 | [],_,_,h=>by simp at h
 | a :: l,0,c,h=>by simp at h;subst h;simp
 | a :: l,i + 1,c,h=>by
  have:=sum_at f (L:=l) (i:=i) (c:=c) (by simpa using h)
  simp only [List.take_succ_cons,List.map_cons,List.sum_cons]
  omega
theorem frm_n {f p : Int} {vs vt vm : AV} {Ls Lt Lm : List (List AV)} (hs : ∀ H,Holds H 5 vs Ls) (ht : ∀ H,Holds H 5 vt Lt) (hm : ∀ H,Holds H 10 vm Lm) : frmN [.int .i64 f,.int .i64 p,vs,vt,vm] = Ls.length + Lt.length + (Lm.map mrkN).sum:=by rw [← itm_eq hs,← itm_eq ht,← itm_eq hm];rfl
theorem mrk_n {k t s h : Int} {vu a0 a1 a2 a3 a4 : AV} {Lu : List (List AV)} (hu : ∀ H,Holds H 2 vu Lu) : mrkN [.int .i64 k,.int .i64 t,.int .i64 s,.int .i64 h,vu,a0,a1,a2,a3,a4] = 1 + (Lu.map undN).sum:=by rw [← itm_eq hu];rfl
theorem und_n {f : Int} {va : AV} {La : List (List AV)} (ha : ∀ H,Holds H 5 va La) : undN [.int .i64 f,va] = La.length:=by rw [← itm_eq ha];rfl
theorem spl5e (a b c d e w : AV) : splice [a,b,c,d,e] 3 [w] = [a,b,c,w,e]:=rfl
theorem f44_heap {n : Nat} {u : AV} {L : List (List AV)} (z : Int) (H : Heap) (hF : Free H) (hu : Holds H 5 u L) (hn : L.length < 2 ^ 60) (hL : ∀ c ∈ L,VT n c) (cu : u.isCell = true) (K : AV → Heap → Prop) (hK : ∀ (x : Int) H',Up H H' → Free H' → K (.int .i64 x) H') : WF Tryz.prog 44 [.agg [.int .i64 0,.int .i64 0,.str [],u,.nilslice],.int .i64 z] H K:=by
 refine WF_body Tryz.func44 (by kernel_rfl) rfl Tryz.ntmps44 (by rw [Tryz.results44]) (of_decide_eq_true (by kernel_rfl)) ?_
 simp (maxSteps:=999999) only [ey,implies_true,reduceMul,reducePow,reduceSub,Nat.reduceBEq,reduceToNat,reduceEqDiff,reduceLT,reduceCtorEq,reduceAdd,reduceLeDiff,hF.at,hF.hp,cu]
 generalize hH1 : HP H [Blk.row 34 5 [[.int .i64 0,.int .i64 0,.str [],u,.nilslice]] 0 0] = H1
 have hb : H1.blk H.next = some (.row 34 5 [[.int .i64 0,.int .i64 0,.str [],u,.nilslice]] 0 0):=by rw [← hH1,hp_blk0];rfl
 have hF1 : Free H1:=hH1 ▸ hF.hpF _
 have hU1 : Up H H1:=hH1 ▸ hF.hpU _
 refine loopStep' (fun env H'=>Up H1 H' ∧ Free H' ∧ ∃ (i : Nat) (x : Int),i ≤ L.length ∧ env.at (.tmp 5) = .int .i64 i ∧ env.at (.tmp 2) = .ptr H.next 0 0 0 ∧ env.at (.tmp 1) = .int .i64 x)
  (fun env H'=>match env.at (.tmp 5) with | .int _ i=>((L.length : Int) - i).toNat | _=>0) ?_ ?_
 ·exact ⟨Up.refl _,hF1,0,IntKind.i64.wrap (z - 1),Nat.zero_le _,by simp only [ey,implies_true,reduceMul,reducePow,reduceSub,Nat.reduceBEq,reduceToNat,reduceEqDiff,reduceLT,reduceCtorEq,reduceAdd,reduceLeDiff];rfl,by simp only [ey,implies_true,reduceMul,reducePow,reduceSub,Nat.reduceBEq,reduceToNat,reduceEqDiff,reduceLT,reduceCtorEq,reduceAdd,reduceLeDiff],by simp only [ey,implies_true,reduceMul,reducePow,reduceSub,Nat.reduceBEq,reduceToNat,reduceEqDiff,reduceLT,reduceCtorEq,reduceAdd,reduceLeDiff]⟩
 ·rintro env H2 ⟨hU2,hF2,i,x,hi,e5,e2,e1⟩
  have hb2:=hU2 _ _ hb
  have hu2:=hu.up (hU1.trans hU2)
  have hlen : evBuiltin Tryz.prog H2 .len #[24] [u] = some (.int .i64 L.length,H2):=hu2.lenAt und24 H2
  by_cases hlt : i < L.length
  ·by_cases hx : x ≥ 0
   ·obtain ⟨c,hc⟩ : ∃ c,L[i]? = some c:=⟨_,List.getElem?_eq_getElem hlt⟩
    have hcm:=hL c (List.mem_of_getElem? hc)
    obtain ⟨p,hp,hl,_⟩:=hu2.index (P:=Tryz.prog) und24 sz34 .i64 (i:=i) (cs:=c) hc
    simp (maxSteps:=999999) only [ey,implies_true,reduceMul,reducePow,reduceSub,Nat.reduceBEq,reduceToNat,reduceEqDiff,reduceLT,reduceCtorEq,reduceAdd,reduceLeDiff,e5,e2,e1,hb2,hlen,lt_true hlt,hx,hp,hl _ (Up.refl _),hcm.len,hcm.tk]
    refine callStep (f44_ok n c hcm x H2 hF2 _ fun y H3 hU3 hF3=>?_)
    simp (maxSteps:=999999) only [ey,implies_true,reduceMul,reducePow,reduceSub,Nat.reduceBEq,reduceToNat,reduceEqDiff,reduceLT,reduceCtorEq,reduceAdd,reduceLeDiff,e5,e2,wrap_succ (i:=i) (by omega)]
    exact ⟨⟨hU2.trans hU3,hF3,i + 1,y,hlt,rfl,rfl⟩,by omega⟩
   ·simp (maxSteps:=999999) only [ey,implies_true,reduceMul,reducePow,reduceSub,Nat.reduceBEq,reduceToNat,reduceEqDiff,reduceLT,reduceCtorEq,reduceAdd,reduceLeDiff,e5,e2,e1,hb2,hlen,lt_true hlt,hx]
    exact hK _ _ (hU1.trans hU2) hF2
  ·simp (maxSteps:=999999) only [ey,implies_true,reduceMul,reducePow,reduceSub,Nat.reduceBEq,reduceToNat,reduceEqDiff,reduceLT,reduceCtorEq,reduceAdd,reduceLeDiff,e5,e2,e1,hb2,hlen,lt_false hlt]
   exact hK _ _ (hU1.trans hU2) hF2
theorem f11_heap {n : Nat} {u : AV} {L : List (List AV)} (z : Int) (H : Heap) (hF : Free H) (hu : Holds H 5 u L) (hn : L.length < 2 ^ 60) (hL : ∀ c ∈ L,VT n c) (cu : u.isCell = true) (K : AV → Heap → Prop) (hK : ∀ (b : Bool) H',Up H H' → Free H' → K (.bool b) H') : WF Tryz.prog 11 [.agg [.int .i64 0,.int .i64 0,.str [],u,.nilslice],.int .i64 z] H K:=by
 refine WF_body Tryz.func11 (by kernel_rfl) rfl Tryz.ntmps11 (by rw [Tryz.results11]) (of_decide_eq_true (by kernel_rfl)) ?_
 simp (maxSteps:=999999) only [ey,implies_true,reduceMul,reducePow,reduceSub,Nat.reduceBEq,reduceToNat,reduceEqDiff,reduceLT,reduceCtorEq,reduceAdd,reduceLeDiff,hF.at,hF.hp,cu]
 refine callStep (f44_heap z _ (hF.hpF _) (hu.up (hF.hpU _)) hn hL cu _ fun x H2 hU2 hF2=>?_)
 simp (maxSteps:=999999) only [ey,implies_true,reduceMul,reducePow,reduceSub,Nat.reduceBEq,reduceToNat,reduceEqDiff,reduceLT,reduceCtorEq,reduceAdd,reduceLeDiff]
 exact hK _ _ ((hF.hpU _).trans hU2) hF2
set_option maxHeartbeats 16000000 in
theorem f45_ok {n : Nat} {vf vw : AV} {Lf Lw : List (List AV)} {st fut : Int} {sel : Bool} {key : List Nat} (hf : ∀ H,Holds H 5 vf Lf) (hLf : ∀ x ∈ Lf,FrmT n x) (nLf : Lf.length < 2 ^ 60) (hw : ∀ H,Holds H 1 vw Lw) (hN : (Lf.map frmN).sum ≤ 1048576) (H : Heap) (hF : Free H) (K : AV → Heap → Prop) (hK : ∀ (b : Bool) H',Up H H' → Free H' → K (.bool b) H') : WF Tryz.prog 45 [.agg [.int .i64 st,vf,.int .i64 fut,vw,.bool sel,.str key]] H K:=by
 have hlf : ∀ G,evBuiltin Tryz.prog G .len #[28] [vf] = some (.int .i64 Lf.length,G):=fun G=>(hf G).lenAt und28 G
 have hlw : ∀ G,evBuiltin Tryz.prog G .len #[29] [vw] = some (.int .i64 Lw.length,G):=fun G=>(hw G).lenAt und29 G
 have cf:=holds_cell (hf H)
 have cw:=holds_cell (hw H)
 refine WF_body Tryz.func45 (by kernel_rfl) rfl Tryz.ntmps45 (by rw [Tryz.results45]) (of_decide_eq_true (by kernel_rfl)) ?_
 by_cases c1 : (Lf.length : Int) > 60
 ·simp (maxSteps:=999999) only [ey,implies_true,reduceMul,reducePow,reduceSub,Nat.reduceBEq,reduceToNat,reduceEqDiff,reduceLT,reduceCtorEq,reduceAdd,reduceLeDiff,hF.at,hF.hp,cf,cw,hlf,c1]
  exact hK _ _ (hF.hpU _) (hF.hpF _)
 by_cases c2 : (Lw.length : Int) > 20
 ·simp (maxSteps:=999999) only [ey,implies_true,reduceMul,reducePow,reduceSub,Nat.reduceBEq,reduceToNat,reduceEqDiff,reduceLT,reduceCtorEq,reduceAdd,reduceLeDiff,hF.at,hF.hp,cf,cw,hlf,hlw,c1,c2]
  exact hK _ _ (hF.hpU _) (hF.hpF _)
 simp (maxSteps:=999999) only [ey,implies_true,reduceMul,reducePow,reduceSub,Nat.reduceBEq,reduceToNat,reduceEqDiff,reduceLT,reduceCtorEq,reduceAdd,reduceLeDiff,hF.at,hF.hp,cf,cw,hlf,hlw,c1,c2]
 have eHP : HP H [Blk.row 31 6 [[.int .i64 st,vf,.int .i64 fut,vw,.bool sel,.str key]] 0 0,Blk.row 34 5 [[.int .i64 0,.int .i64 0,.str [],.nilslice,.nilslice]] 0 0] = HP (HP H [Blk.row 31 6 [[.int .i64 st,vf,.int .i64 fut,vw,.bool sel,.str key]] 0 0]) [Blk.row 34 5 [[.int .i64 0,.int .i64 0,.str [],.nilslice,.nilslice]] 0 0]:=by
  rw [← (hF.hpF _).hp,hp_push];rfl
 rw [eHP]
 have eN : (HP H [Blk.row 31 6 [[.int .i64 st,vf,.int .i64 fut,vw,.bool sel,.str key]] 0 0]).next = H.next + 1:=rfl
 generalize hH1 : HP H [Blk.row 31 6 [[.int .i64 st,vf,.int .i64 fut,vw,.bool sel,.str key]] 0 0] = H1 at *
 have b0 : H1.blk H.next = some (.row 31 6 [[.int .i64 st,vf,.int .i64 fut,vw,.bool sel,.str key]] 0 0):=by rw [← hH1,hp_blk0];rfl
 have hF1 : Free H1:=hH1 ▸ hF.hpF _
 have hU1 : Up H H1:=hH1 ▸ hF.hpU _
 have T0:=TB.start (G:=H1) hF1 (Own.stk (ty:=34) (esz:=5) (Own.nil)) (Blk.row 34 5 [[.int .i64 0,.int .i64 0,.str [],.nilslice,.nilslice]] 0 0)
 rw [← eN]
 generalize hHb : HP H1 [Blk.row 34 5 [[.int .i64 0,.int .i64 0,.str [],.nilslice,.nilslice]] 0 0] = Hb at *
 have hbF : (hbut H1 (rowOf .nilslice)).blk H.next = some (.row 31 6 [[.int .i64 st,vf,.int .i64 fut,vw,.bool sel,.str key]] 0 0):=by rw [but_blk (fun e=>by cases e)];exact b0
 have hHF : Up H (hbut H1 (rowOf .nilslice)):=fun c x hx=>by rw [but_blk (fun e=>by cases e)];exact hU1 _ _ hx
 generalize hbut Hb (rowOf .nilslice) = N at *
 generalize hbut H1 (rowOf .nilslice) = F at *
 generalize H1.next = b at *
 refine loopStep' (fun env H'=>∃ (i : Nat) (u : AV) (L : List (List AV)),i ≤ Lf.length ∧ TB F N b 5 H' u L (.row 34 5 [[.int .i64 0,.int .i64 0,.str [],u,.nilslice]] 0 0) ∧ (∀ c ∈ L,VT n c) ∧ L.length ≤ ((Lf.take i).map frmN).sum ∧ env.at (.tmp 1) = .ptr H.next 0 0 0 ∧ env.at (.tmp 3) = .ptr b 0 0 0 ∧ env.at (.tmp 4) = .int .i64 i)
  (fun env H'=>match env.at (.tmp 4) with | .int _ j=>((Lf.length : Int) - j).toNat | _=>0) ?_ ?_
 ·exact ⟨0,.nilslice,[],Nat.zero_le _,T0,fun c hc=>(by cases hc),Nat.zero_le _,by simp only [ey,implies_true,reduceMul,reducePow,reduceSub,Nat.reduceBEq,reduceToNat,reduceEqDiff,reduceLT,reduceCtorEq,reduceAdd,reduceLeDiff],by simp only [ey,implies_true,reduceMul,reducePow,reduceSub,Nat.reduceBEq,reduceToNat,reduceEqDiff,reduceLT,reduceCtorEq,reduceAdd,reduceLeDiff],by simp only [ey,implies_true,reduceMul,reducePow,reduceSub,Nat.reduceBEq,reduceToNat,reduceEqDiff,reduceLT,reduceCtorEq,reduceAdd,reduceLeDiff];rfl⟩
 rintro env H2 ⟨i,u,L,hi,T,hVT,hLl,e1,e3,e4⟩
 have hbT:=T.up _ _ hbF
 by_cases hlt : i < Lf.length
 ·obtain ⟨c,hc⟩ : ∃ c,Lf[i]? = some c:=⟨_,List.getElem?_eq_getElem hlt⟩
  have hixi:=idx28 hf hc
  obtain ⟨f,p,vs,vt,vm,Ls,Lt,Lm,rfl,hs,ht,hm,fS,fT,fM,nS,nT,nM⟩:=hLf c (List.mem_of_getElem? hc)
  have hls:=hs
  obtain ⟨hs1,hs2⟩:=sum_at frmN hc
  rw [frm_n hs ht hm] at hs1
  have cs:=holds_cell (hs H)
  have hlm : ∀ G,evBuiltin Tryz.prog G .len #[53] [vm] = some (.int .i64 Lm.length,G):=fun G=>(hm G).lenAt und53 G
  have bnd : ∀ k : Nat,k ≤ 1048576 → k * 80 ≤ maxBytes ∧ k ≤ maxBytes:=fun k hk=>by unfold maxBytes;omega
  simp (maxSteps:=999999) only [ey,implies_true,reduceMul,reducePow,reduceSub,Nat.reduceBEq,reduceToNat,reduceEqDiff,reduceLT,reduceCtorEq,reduceAdd,reduceLeDiff,e1,e3,e4,hbT,hlf,lt_true hlt]
  refine drawStep [] [0,1,2,3,4,5,6,7,8,9,10] _ rfl (by kernel_rfl) ?_
  simp (maxSteps:=999999) only [ey,implies_true,reduceMul,reducePow,reduceSub,Nat.reduceBEq,reduceToNat,reduceEqDiff,reduceLT,reduceCtorEq,reduceAdd,reduceLeDiff,e1,e3,e4,hbT,T.row,hixi]
  refine opStep_push app24s T.stk.but T.free but_up (hs _) (fun cs hcs=>(fS cs hcs).cells) (by first | exact (bnd _ (by omega)).1 | exact (bnd _ (by omega)).2) (by first | exact (bnd _ (by omega)).1 | exact (bnd _ (by omega)).2) (fun u2 K2 hS2 hU2 hF2=>?_)
  have T5:=T.push hS2 hU2 hF2
  obtain ⟨q1,q2,q3⟩:=T5.stk.plain
  have T6:=T5.store (.row 34 5 [[.int .i64 0,.int .i64 0,.str [],u2,.nilslice]] 0 0)
  simp (maxSteps:=999999) only [ey,implies_true,reduceMul,reducePow,reduceSub,Nat.reduceBEq,reduceToNat,reduceEqDiff,reduceLT,reduceCtorEq,reduceAdd,reduceLeDiff,e1,e3,e4,T5.row,q1,q2,q3,spl5e]
  have hbT6:=T6.up _ _ hbF
  generalize hK6 : K2.set b (Blk.row 34 5 [[.int .i64 0,.int .i64 0,.str [],u2,.nilslice]] 0 0) = H6 at *
  clear hK6 T5 q1 q2 q3 hS2 hU2 hF2
  refine drawStep [] [0,1,2,3,4,5,6,7,8,9,10] _ rfl (by kernel_rfl) ?_
  simp (maxSteps:=999999) only [ey,implies_true,reduceMul,reducePow,reduceSub,Nat.reduceBEq,reduceToNat,reduceEqDiff,reduceLT,reduceCtorEq,reduceAdd,reduceLeDiff,e1,e3,e4,hbT6,T6.row,hixi]
  refine opStep_push app24s T6.stk.but T6.free but_up (ht _) (fun cs hcs=>(fT cs hcs).cells) (by first | exact (bnd _ (by rw [List.length_append];omega)).1 | exact (bnd _ (by rw [List.length_append];omega)).2) (by first | exact (bnd _ (by rw [List.length_append];omega)).1 | exact (bnd _ (by rw [List.length_append];omega)).2) (fun u3 K3 hS3 hU3 hF3=>?_)
  have T7:=T6.push hS3 hU3 hF3
  obtain ⟨q1,q2,q3⟩:=T7.stk.plain
  have T8:=T7.store (.row 34 5 [[.int .i64 0,.int .i64 0,.str [],u3,.nilslice]] 0 0)
  simp (maxSteps:=999999) only [ey,implies_true,reduceMul,reducePow,reduceSub,Nat.reduceBEq,reduceToNat,reduceEqDiff,reduceLT,reduceCtorEq,reduceAdd,reduceLeDiff,e1,e3,e4,T7.row,q1,q2,q3,spl5e]
  generalize hK8 : K3.set b (Blk.row 34 5 [[.int .i64 0,.int .i64 0,.str [],u3,.nilslice]] 0 0) = H8 at *
  clear hK8 T7 q1 q2 q3 hS3 hU3 hF3
  have hl8 : (L ++ Ls ++ Lt).length = L.length + Ls.length + Lt.length:=by simp only [List.length_append]
  have hV8 : ∀ c ∈ L ++ Ls ++ Lt,VT n c:=fun c hc=>by
   rcases List.mem_append.1 hc with hc | hc
   ·rcases List.mem_append.1 hc with hc | hc
    ·exact hVT c hc
    ·exact fS c hc
   ·exact fT c hc
  generalize L ++ Ls ++ Lt = L8 at *
  refine loopStep' (fun env H'=>∃ (j : Nat) (u : AV) (M : List (List AV)),j ≤ Lm.length ∧ TB F N b 5 H' u M (.row 34 5 [[.int .i64 0,.int .i64 0,.str [],u,.nilslice]] 0 0) ∧ (∀ c ∈ M,VT n c) ∧ M.length ≤ L8.length + ((Lm.take j).map mrkN).sum ∧ env.at (.tmp 1) = .ptr H.next 0 0 0 ∧ env.at (.tmp 3) = .ptr b 0 0 0 ∧ env.at (.tmp 4) = .int .i64 i ∧ env.at (.tmp 5) = .int .i64 j)
   (fun env H'=>match env.at (.tmp 5) with | .int _ j=>((Lm.length : Int) - j).toNat | _=>0) ?_ ?_
  ·exact ⟨0,u3,L8,Nat.zero_le _,T8,hV8,Nat.le_add_right _ _,by simp only [ey,implies_true,reduceMul,reducePow,reduceSub,Nat.reduceBEq,reduceToNat,reduceEqDiff,reduceLT,reduceCtorEq,reduceAdd,reduceLeDiff,e1],by simp only [ey,implies_true,reduceMul,reducePow,reduceSub,Nat.reduceBEq,reduceToNat,reduceEqDiff,reduceLT,reduceCtorEq,reduceAdd,reduceLeDiff,e3],by simp only [ey,implies_true,reduceMul,reducePow,reduceSub,Nat.reduceBEq,reduceToNat,reduceEqDiff,reduceLT,reduceCtorEq,reduceAdd,reduceLeDiff,e4],by simp only [ey,implies_true,reduceMul,reducePow,reduceSub,Nat.reduceBEq,reduceToNat,reduceEqDiff,reduceLT,reduceCtorEq,reduceAdd,reduceLeDiff];rfl⟩
  clear T8 T6 T hVT u u2 u3
  rintro env H3 ⟨j,u,M,hj,T,hVT,hMl,e1,e3,e4,e5⟩
  have hbT:=T.up _ _ hbF
  by_cases hlj : j < Lm.length
  ·obtain ⟨cm,hcm⟩ : ∃ c,Lm[j]? = some c:=⟨_,List.getElem?_eq_getElem hlj⟩
   have hixm:=idx53 hm hcm
   obtain ⟨k,t,s,h,vu,Lu,a0,a1,a2,a3,a4,rfl,hu,hLu,nLu,hV⟩:=fM cm (List.mem_of_getElem? hcm)
   obtain ⟨hm1,hm2⟩:=sum_at mrkN hcm
   rw [mrk_n hu] at hm1
   have hlu : ∀ G,evBuiltin Tryz.prog G .len #[90] [vu] = some (.int .i64 Lu.length,G):=fun G=>(hu G).lenAt und90 G
   have cu:=holds_cell (hu H)
   have hVc:=hV.cells
   have hVa:=hVc
   simp only [List.all_cons,List.all_nil,Bool.and_true,Bool.and_eq_true] at hVc
   obtain ⟨i0,i1,i2,i3,i4⟩:=hVc
   simp (maxSteps:=999999) only [ey,implies_true,reduceMul,reducePow,reduceSub,Nat.reduceBEq,reduceToNat,reduceEqDiff,reduceLT,reduceCtorEq,reduceAdd,reduceLeDiff,e1,e3,e4,e5,hbT,hlm,hixi,hixm,lt_true hlj,T.free.at,T.free.hp,cu,i0,i1,i2,i3,i4]
   generalize hH4 : HP H3 [Blk.row 92 10 [[.int .i64 k,.int .i64 t,.int .i64 s,.int .i64 h,vu,a0,a1,a2,a3,a4]] 0 0] = H4
   have n4 : H4.blk H3.next = some (.row 92 10 [[.int .i64 k,.int .i64 t,.int .i64 s,.int .i64 h,vu,a0,a1,a2,a3,a4]] 0 0):=by rw [← hH4,hp_blk0];rfl
   have T4 : TB F N b 5 H4 u M (.row 34 5 [[.int .i64 0,.int .i64 0,.str [],u,.nilslice]] 0 0):=hH4 ▸ T.grow (T.free.hpU _) (T.free.hpF _)
   have hbne : b ≠ H3.next:=fun e=>by have:=T.free.lt T.row;omega
   have hb4:=T4.up _ _ hbF
   simp (maxSteps:=999999) only [ey,implies_true,reduceMul,reducePow,reduceSub,Nat.reduceBEq,reduceToNat,reduceEqDiff,reduceLT,reduceCtorEq,reduceAdd,reduceLeDiff,e1,e3,e4,e5,T4.row,n4,T4.free.at,T4.free.hp]
   generalize hH5 : HP H4 [Blk.row 34 5 [[a0,a1,a2,a3,a4]] 0 0] = H5
   have T5 : TB F N b 5 H5 u M (.row 34 5 [[.int .i64 0,.int .i64 0,.str [],u,.nilslice]] 0 0):=hH5 ▸ T4.grow (T4.free.hpU _) (T4.free.hpF _)
   have n5 : H5.blk H3.next = some (.row 92 10 [[.int .i64 k,.int .i64 t,.int .i64 s,.int .i64 h,vu,a0,a1,a2,a3,a4]] 0 0):=by rw [← hH5];exact T4.free.hpU _ _ _ n4
   have h5 : Holds H5 5 (.slice H4.next 0 1 1 true 0) [[a0,a1,a2,a3,a4]]:=by rw [← hH5];exact holds_hp (k:=0) (L:=[[a0,a1,a2,a3,a4]]) rfl rfl (Nat.le_refl _) (by simp)
   have h3lt:=T.free
   have hN3 : H3.blk H3.next = none:=T.free.at
   refine opStep_push app24s T5.stk.but T5.free but_up h5 (fun cs hcs=>by rw [List.mem_singleton] at hcs;rw [hcs];exact hVa) (by first | exact (bnd _ (by simp only [List.length_singleton];omega)).1 | exact (bnd _ (by simp only [List.length_singleton];omega)).2) (by first | exact (bnd _ (by simp only [List.length_singleton];omega)).1 | exact (bnd _ (by simp only [List.length_singleton];omega)).2) (fun u2 K2 hS2 hU2 hF2=>?_)
   have T6:=T5.push hS2 hU2 hF2
   have n6 : K2.blk H3.next = some (.row 92 10 [[.int .i64 k,.int .i64 t,.int .i64 s,.int .i64 h,vu,a0,a1,a2,a3,a4]] 0 0):=hU2 _ _ (by rw [but_blk (fun e=>?_)];exact n5;exact absurd (T.stk.row e).2 (by rw [hN3];simp))
   obtain ⟨q1,q2,q3⟩:=T6.stk.plain
   have T7:=T6.store (.row 34 5 [[.int .i64 0,.int .i64 0,.str [],u2,.nilslice]] 0 0)
   have n7 : ∀ y,(K2.set b y).blk H3.next = some (.row 92 10 [[.int .i64 k,.int .i64 t,.int .i64 s,.int .i64 h,vu,a0,a1,a2,a3,a4]] 0 0):=fun y=>by rw [Heap.set_other _ _ _ (fun e=>hbne e.symm)];exact n6
   simp (maxSteps:=999999) only [ey,implies_true,reduceMul,reducePow,reduceSub,Nat.reduceBEq,reduceToNat,reduceEqDiff,reduceLT,reduceCtorEq,reduceAdd,reduceLeDiff,e1,e3,e4,e5,T6.row,q1,q2,q3,spl5e,n7,hlu]
   by_cases c3 : (Lu.length : Int) > 110
   ·simp (maxSteps:=999999) only [ey,implies_true,reduceMul,reducePow,reduceSub,Nat.reduceBEq,reduceToNat,reduceEqDiff,reduceLT,reduceCtorEq,reduceAdd,reduceLeDiff,c3]
    exact hK _ _ (hHF.trans T7.up) T7.free
   simp (maxSteps:=999999) only [ey,implies_true,reduceMul,reducePow,reduceSub,Nat.reduceBEq,reduceToNat,reduceEqDiff,reduceLT,reduceCtorEq,reduceAdd,reduceLeDiff,c3]
   have hl7 : (M ++ [[a0,a1,a2,a3,a4]]).length = M.length + 1:=by rw [List.length_append];rfl
   have hV7 : ∀ c ∈ M ++ [[a0,a1,a2,a3,a4]],VT n c:=fun c hc=>by
    rcases List.mem_append.1 hc with hc | hc
    ·exact hVT c hc
    ·rw [List.mem_singleton] at hc;subst hc;exact hV
   generalize M ++ [[a0,a1,a2,a3,a4]] = M7 at *
   have n7':=n7 (Blk.row 34 5 [[.int .i64 0,.int .i64 0,.str [],u2,.nilslice]] 0 0)
   generalize hK7 : K2.set b (Blk.row 34 5 [[.int .i64 0,.int .i64 0,.str [],u2,.nilslice]] 0 0) = H7 at *
   refine loopStep' (fun env H'=>∃ (q : Nat) (u : AV) (M : List (List AV)),q ≤ Lu.length ∧ TB F N b 5 H' u M (.row 34 5 [[.int .i64 0,.int .i64 0,.str [],u,.nilslice]] 0 0) ∧ H'.blk H3.next = some (.row 92 10 [[.int .i64 k,.int .i64 t,.int .i64 s,.int .i64 h,vu,a0,a1,a2,a3,a4]] 0 0) ∧ (rowOf u ≠ some H3.next) ∧ (∀ c ∈ M,VT n c) ∧ M.length ≤ M7.length + ((Lu.take q).map undN).sum ∧ env.at (.tmp 1) = .ptr H.next 0 0 0 ∧ env.at (.tmp 3) = .ptr b 0 0 0 ∧ env.at (.tmp 4) = .int .i64 i ∧ env.at (.tmp 5) = .int .i64 j ∧ env.at (.tmp 6) = .ptr H3.next 0 0 0 ∧ env.at (.tmp 7) = .int .i64 q)
    (fun env H'=>match env.at (.tmp 7) with | .int _ j=>((Lu.length : Int) - j).toNat | _=>0) ?_ ?_
   ·refine ⟨0,u2,M7,Nat.zero_le _,T7,n7',fun e=>?_,hV7,Nat.le_add_right _ _,by simp only [ey,implies_true,reduceMul,reducePow,reduceSub,Nat.reduceBEq,reduceToNat,reduceEqDiff,reduceLT,reduceCtorEq,reduceAdd,reduceLeDiff,e1],by simp only [ey,implies_true,reduceMul,reducePow,reduceSub,Nat.reduceBEq,reduceToNat,reduceEqDiff,reduceLT,reduceCtorEq,reduceAdd,reduceLeDiff,e3],by simp only [ey,implies_true,reduceMul,reducePow,reduceSub,Nat.reduceBEq,reduceToNat,reduceEqDiff,reduceLT,reduceCtorEq,reduceAdd,reduceLeDiff,e4],by simp only [ey,implies_true,reduceMul,reducePow,reduceSub,Nat.reduceBEq,reduceToNat,reduceEqDiff,reduceLT,reduceCtorEq,reduceAdd,reduceLeDiff,e5],by simp only [ey,implies_true,reduceMul,reducePow,reduceSub,Nat.reduceBEq,reduceToNat,reduceEqDiff,reduceLT,reduceCtorEq,reduceAdd,reduceLeDiff],by simp only [ey,implies_true,reduceMul,reducePow,reduceSub,Nat.reduceBEq,reduceToNat,reduceEqDiff,reduceLT,reduceCtorEq,reduceAdd,reduceLeDiff];rfl⟩
    have:=(hS2.row e).1
    rw [but_blk (fun e'=>?_)] at this
    ·rw [n5] at this;cases this
    ·exact absurd (T.stk.row e').2 (by rw [hN3];simp)
   clear e1 e3 e4 e5
   rintro env H8 ⟨q,w,M8,hq,T8,n8,hw8,hVT8,hM8,e1,e3,e4,e5,e6,e7⟩
   by_cases hlq : q < Lu.length
   ·obtain ⟨cu',hcu⟩ : ∃ c,Lu[q]? = some c:=⟨_,List.getElem?_eq_getElem hlq⟩
    have hixu:=idx90 hu hcu
    obtain ⟨fz,va,La,rfl,ha,fA,nA⟩:=hLu cu' (List.mem_of_getElem? hcu)
    obtain ⟨hu1,hu2⟩:=sum_at undN hcu
    rw [und_n ha] at hu1
    simp (maxSteps:=999999) only [ey,implies_true,reduceMul,reducePow,reduceSub,Nat.reduceBEq,reduceToNat,reduceEqDiff,reduceLT,reduceCtorEq,reduceAdd,reduceLeDiff,e1,e3,e4,e5,e6,e7,n8,hlu,lt_true hlq]
    refine drawStep [] [0,1,2,3,4,5,6,7,8,9,10] _ rfl (by kernel_rfl) ?_
    simp (maxSteps:=999999) only [ey,implies_true,reduceMul,reducePow,reduceSub,Nat.reduceBEq,reduceToNat,reduceEqDiff,reduceLT,reduceCtorEq,reduceAdd,reduceLeDiff,e1,e3,e4,e5,e6,e7,n8,T8.row,hixu]
    refine opStep_push app24s T8.stk.but T8.free but_up (ha _) (fun cs hcs=>(fA cs hcs).cells) (by exact (bnd _ (by omega)).1) (by exact (bnd _ (by omega)).2) (fun u9 K9 hS9 hU9 hF9=>?_)
    have T9:=T8.push hS9 hU9 hF9
    have n9 : K9.blk H3.next = some (.row 92 10 [[.int .i64 k,.int .i64 t,.int .i64 s,.int .i64 h,vu,a0,a1,a2,a3,a4]] 0 0):=hU9 _ _ (by rw [but_blk hw8];exact n8)
    obtain ⟨q1,q2,q3⟩:=T9.stk.plain
    have T10:=T9.store (.row 34 5 [[.int .i64 0,.int .i64 0,.str [],u9,.nilslice]] 0 0)
    have n10 : (K9.set b (Blk.row 34 5 [[.int .i64 0,.int .i64 0,.str [],u9,.nilslice]] 0 0)).blk H3.next = some (.row 92 10 [[.int .i64 k,.int .i64 t,.int .i64 s,.int .i64 h,vu,a0,a1,a2,a3,a4]] 0 0):=by rw [Heap.set_other _ _ _ (fun e=>hbne e.symm)];exact n9
    simp (maxSteps:=999999) only [ey,implies_true,reduceMul,reducePow,reduceSub,Nat.reduceBEq,reduceToNat,reduceEqDiff,reduceLT,reduceCtorEq,reduceAdd,reduceLeDiff,e1,e3,e4,e5,e6,e7,T9.row,q1,q2,q3,spl5e,wrap_succ (i:=q) (by omega)]
    refine ⟨⟨q + 1,u9,M8 ++ La,hlq,T10,n10,fun e=>?_,fun c hc=>(List.mem_append.1 hc).elim (hVT8 c) (fA c),by rw [List.length_append];omega,rfl⟩,by omega⟩
    have:=(hS9.row e).1
    rw [but_blk hw8,n8] at this;cases this
   ·obtain rfl : q = Lu.length:=by omega
    simp (maxSteps:=999999) only [ey,implies_true,reduceMul,reducePow,reduceSub,Nat.reduceBEq,reduceToNat,reduceEqDiff,reduceLT,reduceCtorEq,reduceAdd,reduceLeDiff,e1,e3,e4,e5,e6,e7,n8,hlu,lt_false hlq,wrap_succ (i:=j) (by omega)]
    rw [List.take_length] at hM8
    exact ⟨⟨j + 1,w,M8,hlj,T8,hVT8,by omega,rfl⟩,by omega⟩
  ·obtain rfl : j = Lm.length:=by omega
   simp (maxSteps:=999999) only [ey,implies_true,reduceMul,reducePow,reduceSub,Nat.reduceBEq,reduceToNat,reduceEqDiff,reduceLT,reduceCtorEq,reduceAdd,reduceLeDiff,e1,e3,e4,e5,hbT,hlm,hixi,lt_false hlj,wrap_succ (i:=i) (by omega)]
   rw [List.take_length] at hMl
   exact ⟨⟨i + 1,u,M,hlt,T,hVT,by omega,rfl⟩,by omega⟩
 ·obtain rfl : i = Lf.length:=by omega
  obtain ⟨q1,q2,q3⟩:=T.stk.plain
  rw [List.take_length] at hLl
  simp (maxSteps:=999999) only [ey,implies_true,reduceMul,reducePow,reduceSub,Nat.reduceBEq,reduceToNat,reduceEqDiff,reduceLT,reduceCtorEq,reduceAdd,reduceLeDiff,e1,e3,e4,hbT,hlf,lt_false hlt,T.row]
  refine callStep (f11_heap 20000 H2 T.free T.stk.holds (by omega) hVT q3 _ fun b2 H5 hU5 hF5=>?_)
  simp (maxSteps:=999999) only [ey,implies_true,reduceMul,reducePow,reduceSub,Nat.reduceBEq,reduceToNat,reduceEqDiff,reduceLT,reduceCtorEq,reduceAdd,reduceLeDiff]
  exact hK _ _ ((hHF.trans T.up).trans hU5) hF5
set_option maxHeartbeats 8000000 in
theorem f12_ok {n : Nat} {vF vG vI vH vf vw : AV} {LF LG LI LH Lf Lw : List (List AV)} {st fut : Int} {sel : Bool} {key : List Nat} (h : CodT n vF vG vI vH LF LG LI LH) (hf : ∀ H,Holds H 5 vf Lf) (hLf : ∀ x ∈ Lf,FrmT n x) (nLf : Lf.length < 2 ^ 60) (hw : ∀ H,Holds H 1 vw Lw) (hN : (Lf.map frmN).sum ≤ 1048576) (H : Heap) (hF : Free H) (K : AV → Heap → Prop) (hK : ∀ (b : Bool) H',Up H H' → Free H' → K (.bool b) H') : WF Tryz.prog 12 [.agg [vF,vG,vI,vH],.agg [.int .i64 st,vf,.int .i64 fut,vw,.bool sel,.str key]] H K:=by
 have cf:=holds_cell (hf H)
 have cw:=holds_cell (hw H)
 have cF:=holds_cell (h.hF H)
 have cG:=holds_cell (h.hG H)
 have cI:=holds_cell (h.hI H)
 have cH:=holds_cell (h.hH H)
 refine WF_body Tryz.func12 (by kernel_rfl) rfl Tryz.ntmps12 (by rw [Tryz.results12]) (of_decide_eq_true (by kernel_rfl)) ?_
 simp (maxSteps:=999999) only [ey,implies_true,reduceMul,reducePow,reduceSub,Nat.reduceBEq,reduceToNat,reduceEqDiff,reduceLT,reduceCtorEq,reduceAdd,reduceLeDiff,hF.at,hF.hp,cF,cG,cI,cH,cf,cw]
 generalize hH1 : HP H [Blk.row 27 4 [[vF,vG,vI,vH]] 0 0,Blk.row 31 6 [[.int .i64 st,vf,.int .i64 fut,vw,.bool sel,.str key]] 0 0] = H1
 have b1 : H1.blk (H.next + 1) = some (.row 31 6 [[.int .i64 st,vf,.int .i64 fut,vw,.bool sel,.str key]] 0 0):=by rw [← hH1,hp_blk];rfl
 have hF1 : Free H1:=hH1 ▸ hF.hpF _
 have hU1 : Up H H1:=hH1 ▸ hF.hpU _
 refine callStep (f38_ok h H1 hF1 _ fun b H2 hU2 hF2=>?_)
 have g1:=hU2 _ _ b1
 cases b with
 | false=>
  simp (maxSteps:=999999) only [ey,implies_true,reduceMul,reducePow,reduceSub,Nat.reduceBEq,reduceToNat,reduceEqDiff,reduceLT,reduceCtorEq,reduceAdd,reduceLeDiff]
  exact hK _ _ (hU1.trans hU2) hF2
 | true=>
  simp (maxSteps:=999999) only [ey,implies_true,reduceMul,reducePow,reduceSub,Nat.reduceBEq,reduceToNat,reduceEqDiff,reduceLT,reduceCtorEq,reduceAdd,reduceLeDiff,g1]
  refine callStep (f45_ok hf hLf nLf hw hN H2 hF2 _ fun b H3 hU3 hF3=>?_)
  simp (maxSteps:=999999) only [ey,implies_true,reduceMul,reducePow,reduceSub,Nat.reduceBEq,reduceToNat,reduceEqDiff,reduceLT,reduceCtorEq,reduceAdd,reduceLeDiff]
  exact hK _ _ (hU1.trans (hU2.trans hU3)) hF3
set_option maxHeartbeats 8000000 in
theorem right_ok {n : Nat} {vF vG vI vH vf vw : AV} {LF LG LI LH Lf Lw : List (List AV)} {st fut : Int} {sel : Bool} {key : List Nat} (h : CodT n vF vG vI vH LF LG LI LH) (hf : ∀ H,Holds H 5 vf Lf) (hLf : ∀ x ∈ Lf,FrmT n x) (nLf : Lf.length < 2 ^ 60) (hw : ∀ H,Holds H 1 vw Lw) (hN : (Lf.map frmN).sum ≤ 1048576) : WF Tryz.prog 9 [.agg [vF,vG,vI,vH],.agg [.int .i64 st,vf,.int .i64 fut,vw,.bool sel,.str key]] (H00 M0) fun r _=>r = .bool true:=by
 have hF:=free_H00
 generalize H00 M0 = H at hF ⊢
 have cf:=holds_cell (hf H)
 have cw:=holds_cell (hw H)
 have cF:=holds_cell (h.hF H)
 have cG:=holds_cell (h.hG H)
 have cI:=holds_cell (h.hI H)
 have cH:=holds_cell (h.hH H)
 refine WF_body Tryz.func9 (by kernel_rfl) rfl Tryz.ntmps9 (by rw [Tryz.results9]) (of_decide_eq_true (by kernel_rfl)) ?_
 simp (maxSteps:=999999) only [ey,implies_true,reduceMul,reducePow,reduceSub,Nat.reduceBEq,reduceToNat,reduceEqDiff,reduceLT,reduceCtorEq,reduceAdd,reduceLeDiff,hF.at,hF.hp,cF,cG,cI,cH,cf,cw]
 generalize hH1 : HP H [Blk.row 27 4 [[vF,vG,vI,vH]] 0 0,Blk.row 31 6 [[.int .i64 st,vf,.int .i64 fut,vw,.bool sel,.str key]] 0 0] = H1
 have b0 : H1.blk H.next = some (.row 27 4 [[vF,vG,vI,vH]] 0 0):=by rw [← hH1,hp_blk0];rfl
 have b1 : H1.blk (H.next + 1) = some (.row 31 6 [[.int .i64 st,vf,.int .i64 fut,vw,.bool sel,.str key]] 0 0):=by rw [← hH1,hp_blk];rfl
 have hF1 : Free H1:=hH1 ▸ hF.hpF _
 refine callStep (f12_ok h hf hLf nLf hw hN H1 hF1 _ fun b H2 hU2 hF2=>?_)
 have g0:=hU2 _ _ b0
 have g1:=hU2 _ _ b1
 cases b with
 | false=>
  simp (maxSteps:=999999) only [ey,implies_true,reduceMul,reducePow,reduceSub,Nat.reduceBEq,reduceToNat,reduceEqDiff,reduceLT,reduceCtorEq,reduceAdd,reduceLeDiff,Bool.not_false]
  refine callStep (wa_ok hF2 _ fun G _=>?_)
  simp (maxSteps:=999999) only [ey,implies_true,reduceMul,reducePow,reduceSub,Nat.reduceBEq,reduceToNat,reduceEqDiff,reduceLT,reduceCtorEq,reduceAdd,reduceLeDiff]
 | true=>
  simp (maxSteps:=999999) only [ey,implies_true,reduceMul,reducePow,reduceSub,Nat.reduceBEq,reduceToNat,reduceEqDiff,reduceLT,reduceCtorEq,reduceAdd,reduceLeDiff,Bool.not_true]
  refine drawStep [2] [0,1,3,4,2,5,6,7,8,9,10] _ rfl (by kernel_rfl) ?_
  simp (maxSteps:=999999) only [ey,implies_true,reduceMul,reducePow,reduceSub,Nat.reduceBEq,reduceToNat,reduceEqDiff,reduceLT,reduceCtorEq,reduceAdd,reduceLeDiff,g0,g1]
  refine callStep_flag (f40_ok h hf hLf nLf hw H2 hF2 _ fun H3 hU3 hF3=>⟨hU3,?_⟩)
  have k0:=hU3 _ _ g0
  have k1:=hU3 _ _ g1
  simp (maxSteps:=999999) only [ey,implies_true,reduceMul,reducePow,reduceSub,Nat.reduceBEq,reduceToNat,reduceEqDiff,reduceLT,reduceCtorEq,reduceAdd,reduceLeDiff,k0,k1]
  refine callStep (f13_ok h hf hLf nLf hw H3 hF3 _ fun H4 hU4 hF4=>?_)
  simp (maxSteps:=999999) only [ey,implies_true,reduceMul,reducePow,reduceSub,Nat.reduceBEq,reduceToNat,reduceEqDiff,reduceLT,reduceCtorEq,reduceAdd,reduceLeDiff,eqOk,eqA4,Option.map_some,beq_self_eq_true]
  refine callStep (wa_ok hF4 _ fun G hUG=>?_)
  simp (maxSteps:=999999) only [ey,implies_true,reduceMul,reducePow,reduceSub,Nat.reduceBEq,reduceToNat,reduceEqDiff,reduceLT,reduceCtorEq,reduceAdd,reduceLeDiff]
end Go.Proofs.T
