import Derived.Test.YtjlmgabhhodhfaaGreatDoorY4
import Derived.Test.YtjlmgabhhodhfaaGreatDoorY5a
set_option linter.unusedVariables false
set_option linter.unusedSimpArgs false
set_option maxRecDepth 100000
namespace Go.Proofs.T
open Go.Ev
open Nat (reduceMul reducePow reduceSub reduceEqDiff reduceLT reduceAdd reduceLeDiff)
open UInt8 (reduceToNat)
set_option maxHeartbeats 8000000 in
theorem f152_ok {vF vG vI vH v : AV} {nm : List Nat} {P S : Int} {n : Nat} {LF LG L : List (List AV)} (h : CkT n vF vG v LF LG S L) (p : Nat) {c : List AV} (hc : L[p]? = some c) (H : Heap) (hF : Free H) (K : AV → Heap → Prop) (hK : ∀ H',Up H H' → Free H' → K (.bool (insV n LF LG.length S L p c)) H') : WF Tryz.prog 152 [.agg [vF,vG,vI,vH],.agg [.str nm,.int .i64 P,.int .i64 S,v],.int .i64 p] H K:=by
 have hix:=idx83 h.hv hc
 have hp : p < L.length:=(List.getElem?_eq_some_iff.1 hc).1
 have hpn : p < 2 ^ 60:=by have:=h.nL;omega
 have hcm:=h.fL c (List.mem_of_getElem? hc)
 have hcm2:=hcm
 obtain ⟨op,a,b,t,V,rfl,hV⟩:=hcm
 obtain ⟨c0,c1,c2,c3,c4,rfl⟩:=five hV.len
 have hVc:=hV.cells
 simp only [List.all_cons,List.all_nil,Bool.and_true,Bool.and_eq_true] at hVc
 obtain ⟨i0,i1,i2,i3,i4⟩:=hVc
 simp only [List.cons_append,List.nil_append] at hc hK hix hcm2
 have hlG : ∀ G,evBuiltin Tryz.prog G .len #[23] [vG] = some (.int .i64 LG.length,G):=fun G=>(h.hG G).lenAt und23 G
 have hlF : ∀ G,evBuiltin Tryz.prog G .len #[22] [vF] = some (.int .i64 LF.length,G):=fun G=>(h.hF G).lenAt und22 G
 have hlv : ∀ G,evBuiltin Tryz.prog G .len #[83] [v] = some (.int .i64 L.length,G):=fun G=>(h.hv G).lenAt und83 G
 have e0 : insV n LF LG.length S L p [.int .i64 op,.int .i64 a,.int .i64 b,.str t,c0,c1,c2,c3,c4] = (decide (op ≥ 1) && decide (op ≤ 28) && usedV [.int .i64 op,.int .i64 a,.int .i64 b,.str t,c0,c1,c2,c3,c4] && opV n LF LG.length S L p [.int .i64 op,.int .i64 a,.int .i64 b,.str t,c0,c1,c2,c3,c4]):=rfl
 rw [e0] at hK
 refine WF_body Tryz.func152 (by kernel_rfl) rfl Tryz.ntmps152 (by rw [Tryz.results152]) (of_decide_eq_true (by kernel_rfl)) ?_
 by_cases hl : op < 1
 ·have hl' : ¬ op ≥ 1:=by omega
  simp only [hl',Bool.true_or,Bool.false_or,Bool.true_and,Bool.and_true,Bool.false_and,Bool.and_false,decide_true,decide_false,Bool.or_true,Bool.or_false] at hK
  simp (maxSteps:=999999) only [ey,Nat.reduceBEq,reduceEqDiff,reduceLT,reduceCtorEq,reduceAdd,reduceLeDiff,hF.at,hF.hp,hix,i0,i1,i2,i3,i4,hl]
  exact hK _ (hF.hpU _) (hF.hpF _)
 have hl' : op ≥ 1:=by omega
 by_cases hg : op > 28
 ·have hg' : ¬ op ≤ 28:=by omega
  simp only [hl',hg',Bool.true_or,Bool.false_or,Bool.true_and,Bool.and_true,Bool.false_and,Bool.and_false,decide_true,decide_false,Bool.or_true,Bool.or_false] at hK
  simp (maxSteps:=999999) only [ey,Nat.reduceBEq,reduceEqDiff,reduceLT,reduceCtorEq,reduceAdd,reduceLeDiff,hF.at,hF.hp,hix,i0,i1,i2,i3,i4,hl,hg]
  exact hK _ (hF.hpU _) (hF.hpF _)
 have hg' : op ≤ 28:=by omega
 simp only [hl',hg',Bool.true_or,Bool.false_or,Bool.true_and,Bool.and_true,Bool.false_and,Bool.and_false,decide_true,decide_false,Bool.or_true,Bool.or_false] at hK
 simp (maxSteps:=999999) only [ey,Nat.reduceBEq,reduceEqDiff,reduceLT,reduceCtorEq,reduceAdd,reduceLeDiff,hF.at,hF.hp,hix,i0,i1,i2,i3,i4,hl,hg]
 generalize hH1 : HP H [Blk.row 27 4 [[vF,vG,vI,vH]] 0 0,Blk.row 85 4 [[.str nm,.int .i64 P,.int .i64 S,v]] 0 0,Blk.row 104 9 [[.int .i64 op,.int .i64 a,.int .i64 b,.str t,c0,c1,c2,c3,c4]] 0 0] = H1
 have hb0 : H1.blk H.next = some (.row 27 4 [[vF,vG,vI,vH]] 0 0):=by rw [← hH1,hp_blk0];rfl
 have hb1 : H1.blk (H.next + 1) = some (.row 85 4 [[.str nm,.int .i64 P,.int .i64 S,v]] 0 0):=by rw [← hH1,hp_blk];rfl
 have hb2 : H1.blk (H.next + 2) = some (.row 104 9 [[.int .i64 op,.int .i64 a,.int .i64 b,.str t,c0,c1,c2,c3,c4]] 0 0):=by rw [← hH1,hp_blk];rfl
 have hF1 : Free H1:=hH1 ▸ hF.hpF _
 have hU1 : Up H H1:=hH1 ▸ hF.hpU _
 refine callStep (f244_ok op a b t c0 c1 c2 c3 c4 hV H1 hF1 _ fun H2 hU2 hF2=>?_)
 have hb0:=hU2 _ _ hb0
 have hb1:=hU2 _ _ hb1
 have hb2:=hU2 _ _ hb2
 have hU2:=hU1.trans hU2
 cases hu : usedV [.int .i64 op,.int .i64 a,.int .i64 b,.str t,c0,c1,c2,c3,c4] with
 | false=>
  simp only [hu,Bool.true_or,Bool.false_or,Bool.true_and,Bool.and_true,Bool.false_and,Bool.and_false,decide_true,decide_false,Bool.or_true,Bool.or_false] at hK
  simp (maxSteps:=999999) only [ey,Nat.reduceBEq,reduceEqDiff,reduceLT,reduceCtorEq,reduceAdd,reduceLeDiff,Bool.not_false]
  exact hK _ hU2 hF2
 | true=>
 simp only [hu,Bool.true_or,Bool.false_or,Bool.true_and,Bool.and_true,Bool.false_and,Bool.and_false,decide_true,decide_false,Bool.or_true,Bool.or_false] at hK
 by_cases k1 : op = 1
 ·subst k1
  have e : opV n LF LG.length S L p [.int .i64 1,.int .i64 a,.int .i64 b,.str t,c0,c1,c2,c3,c4] = rightV n [c0,c1,c2,c3,c4]:=rfl
  rw [e] at hK
  simp (maxSteps:=999999) only [ey,Nat.reduceBEq,reduceEqDiff,reduceLT,reduceCtorEq,reduceAdd,reduceLeDiff,hb0,hb1,hb2,Bool.not_true,Int.reduceBEq]
  refine callStep (f76_ok hV H2 hF2 _ fun H3 hU3 hF3=>?_)
  simp (maxSteps:=999999) only [ey,Nat.reduceBEq,reduceEqDiff,reduceLT,reduceCtorEq,reduceAdd,reduceLeDiff]
  exact hK _ (hU2.trans hU3) hF3
 by_cases k2 : op = 2
 ·subst k2
  have e : opV n LF LG.length S L p [.int .i64 2,.int .i64 a,.int .i64 b,.str t,c0,c1,c2,c3,c4] = belowV a S:=rfl
  rw [e] at hK
  simp (maxSteps:=999999) only [ey,Nat.reduceBEq,reduceEqDiff,reduceLT,reduceCtorEq,reduceAdd,reduceLeDiff,hb0,hb1,hb2,Bool.not_true,Int.reduceBEq]
  refine callStep (f151_ok a S H2 hF2 _ ?_)
  simp (maxSteps:=999999) only [ey,Nat.reduceBEq,reduceEqDiff,reduceLT,reduceCtorEq,reduceAdd,reduceLeDiff]
  exact hK _ (hU2) hF2
 by_cases k3 : op = 3
 ·subst k3
  have e : opV n LF LG.length S L p [.int .i64 3,.int .i64 a,.int .i64 b,.str t,c0,c1,c2,c3,c4] = belowV a S:=rfl
  rw [e] at hK
  simp (maxSteps:=999999) only [ey,Nat.reduceBEq,reduceEqDiff,reduceLT,reduceCtorEq,reduceAdd,reduceLeDiff,hb0,hb1,hb2,Bool.not_true,Int.reduceBEq]
  refine callStep (f151_ok a S H2 hF2 _ ?_)
  simp (maxSteps:=999999) only [ey,Nat.reduceBEq,reduceEqDiff,reduceLT,reduceCtorEq,reduceAdd,reduceLeDiff]
  exact hK _ (hU2) hF2
 by_cases k4 : op = 4
 ·subst k4
  have e : opV n LF LG.length S L p [.int .i64 4,.int .i64 a,.int .i64 b,.str t,c0,c1,c2,c3,c4] = belowV a LG.length:=rfl
  rw [e] at hK
  simp (maxSteps:=999999) only [ey,Nat.reduceBEq,reduceEqDiff,reduceLT,reduceCtorEq,reduceAdd,reduceLeDiff,hb0,hb1,hb2,Bool.not_true,Int.reduceBEq,hlG]
  refine callStep (f151_ok a LG.length H2 hF2 _ ?_)
  simp (maxSteps:=999999) only [ey,Nat.reduceBEq,reduceEqDiff,reduceLT,reduceCtorEq,reduceAdd,reduceLeDiff]
  exact hK _ (hU2) hF2
 by_cases k5 : op = 5
 ·subst k5
  have e : opV n LF LG.length S L p [.int .i64 5,.int .i64 a,.int .i64 b,.str t,c0,c1,c2,c3,c4] = belowV a LG.length:=rfl
  rw [e] at hK
  simp (maxSteps:=999999) only [ey,Nat.reduceBEq,reduceEqDiff,reduceLT,reduceCtorEq,reduceAdd,reduceLeDiff,hb0,hb1,hb2,Bool.not_true,Int.reduceBEq,hlG]
  refine callStep (f151_ok a LG.length H2 hF2 _ ?_)
  simp (maxSteps:=999999) only [ey,Nat.reduceBEq,reduceEqDiff,reduceLT,reduceCtorEq,reduceAdd,reduceLeDiff]
  exact hK _ (hU2) hF2
 by_cases k7 : op = 7
 ·subst k7
  have e : opV n LF LG.length S L p [.int .i64 7,.int .i64 a,.int .i64 b,.str t,c0,c1,c2,c3,c4] = belowV a L.length:=rfl
  rw [e] at hK
  simp (maxSteps:=999999) only [ey,Nat.reduceBEq,reduceEqDiff,reduceLT,reduceCtorEq,reduceAdd,reduceLeDiff,hb0,hb1,hb2,Bool.not_true,Int.reduceBEq,hlv]
  refine callStep (f151_ok a L.length H2 hF2 _ ?_)
  simp (maxSteps:=999999) only [ey,Nat.reduceBEq,reduceEqDiff,reduceLT,reduceCtorEq,reduceAdd,reduceLeDiff]
  exact hK _ (hU2) hF2
 by_cases k8 : op = 8
 ·subst k8
  have e : opV n LF LG.length S L p [.int .i64 8,.int .i64 a,.int .i64 b,.str t,c0,c1,c2,c3,c4] = belowV a L.length:=rfl
  rw [e] at hK
  simp (maxSteps:=999999) only [ey,Nat.reduceBEq,reduceEqDiff,reduceLT,reduceCtorEq,reduceAdd,reduceLeDiff,hb0,hb1,hb2,Bool.not_true,Int.reduceBEq,hlv]
  refine callStep (f151_ok a L.length H2 hF2 _ ?_)
  simp (maxSteps:=999999) only [ey,Nat.reduceBEq,reduceEqDiff,reduceLT,reduceCtorEq,reduceAdd,reduceLeDiff]
  exact hK _ (hU2) hF2
 by_cases k9 : op = 9
 ·subst k9
  have e : opV n LF LG.length S L p [.int .i64 9,.int .i64 a,.int .i64 b,.str t,c0,c1,c2,c3,c4] = belowV a L.length:=rfl
  rw [e] at hK
  simp (maxSteps:=999999) only [ey,Nat.reduceBEq,reduceEqDiff,reduceLT,reduceCtorEq,reduceAdd,reduceLeDiff,hb0,hb1,hb2,Bool.not_true,Int.reduceBEq,hlv]
  refine callStep (f151_ok a L.length H2 hF2 _ ?_)
  simp (maxSteps:=999999) only [ey,Nat.reduceBEq,reduceEqDiff,reduceLT,reduceCtorEq,reduceAdd,reduceLeDiff]
  exact hK _ (hU2) hF2
 by_cases k10 : op = 10
 ·subst k10
  have e : opV n LF LG.length S L p [.int .i64 10,.int .i64 a,.int .i64 b,.str t,c0,c1,c2,c3,c4] = belowV a L.length:=rfl
  rw [e] at hK
  simp (maxSteps:=999999) only [ey,Nat.reduceBEq,reduceEqDiff,reduceLT,reduceCtorEq,reduceAdd,reduceLeDiff,hb0,hb1,hb2,Bool.not_true,Int.reduceBEq,hlv]
  refine callStep (f151_ok a L.length H2 hF2 _ ?_)
  simp (maxSteps:=999999) only [ey,Nat.reduceBEq,reduceEqDiff,reduceLT,reduceCtorEq,reduceAdd,reduceLeDiff]
  exact hK _ (hU2) hF2
 by_cases k11 : op = 11
 ·subst k11
  have e : opV n LF LG.length S L p [.int .i64 11,.int .i64 a,.int .i64 b,.str t,c0,c1,c2,c3,c4] = ((a == 13) || (a == 14)):=rfl
  rw [e] at hK
  cases h1 : (a == 13) with
  | true=>
   simp only [h1,Bool.true_or,Bool.false_or,Bool.true_and,Bool.and_true,Bool.false_and,Bool.and_false,decide_true,decide_false,Bool.or_true,Bool.or_false] at hK
   simp (maxSteps:=999999) only [ey,Nat.reduceBEq,reduceEqDiff,reduceLT,reduceCtorEq,reduceAdd,reduceLeDiff,hb0,hb1,hb2,Bool.not_true,Int.reduceBEq,h1]
   exact hK _ (hU2) hF2
  | false=>
   simp only [h1,Bool.true_or,Bool.false_or,Bool.true_and,Bool.and_true,Bool.false_and,Bool.and_false,decide_true,decide_false,Bool.or_true,Bool.or_false] at hK
   simp (maxSteps:=999999) only [ey,Nat.reduceBEq,reduceEqDiff,reduceLT,reduceCtorEq,reduceAdd,reduceLeDiff,hb0,hb1,hb2,Bool.not_true,Int.reduceBEq,h1]
   exact hK _ (hU2) hF2
 by_cases k12 : op = 12
 ·subst k12
  have e : opV n LF LG.length S L p [.int .i64 12,.int .i64 a,.int .i64 b,.str t,c0,c1,c2,c3,c4] = (decide (a ≥ 15) && decide (a ≤ 25)):=rfl
  rw [e] at hK
  by_cases h1 : a ≥ 15
  ·simp only [h1,Bool.true_or,Bool.false_or,Bool.true_and,Bool.and_true,Bool.false_and,Bool.and_false,decide_true,decide_false,Bool.or_true,Bool.or_false] at hK
   simp (maxSteps:=999999) only [ey,Nat.reduceBEq,reduceEqDiff,reduceLT,reduceCtorEq,reduceAdd,reduceLeDiff,hb0,hb1,hb2,Bool.not_true,Int.reduceBEq,h1]
   exact hK _ (hU2) hF2
  ·simp only [h1,Bool.true_or,Bool.false_or,Bool.true_and,Bool.and_true,Bool.false_and,Bool.and_false,decide_true,decide_false,Bool.or_true,Bool.or_false] at hK
   simp (maxSteps:=999999) only [ey,Nat.reduceBEq,reduceEqDiff,reduceLT,reduceCtorEq,reduceAdd,reduceLeDiff,hb0,hb1,hb2,Bool.not_true,Int.reduceBEq,h1]
   exact hK _ (hU2) hF2
 by_cases k13 : op = 13
 ·subst k13
  have e : opV n LF LG.length S L p [.int .i64 13,.int .i64 a,.int .i64 b,.str t,c0,c1,c2,c3,c4] = decide (a ≥ 0):=rfl
  rw [e] at hK
  simp (maxSteps:=999999) only [ey,Nat.reduceBEq,reduceEqDiff,reduceLT,reduceCtorEq,reduceAdd,reduceLeDiff,hb0,hb1,hb2,Bool.not_true,Int.reduceBEq]
  exact hK _ (hU2) hF2
 by_cases k14 : op = 14
 ·subst k14
  have e : opV n LF LG.length S L p [.int .i64 14,.int .i64 a,.int .i64 b,.str t,c0,c1,c2,c3,c4] = (decide (a ≥ 0) && keysV n [c0,c1,c2,c3,c4] a):=rfl
  rw [e] at hK
  by_cases h1 : a ≥ 0
  ·simp only [h1,Bool.true_or,Bool.false_or,Bool.true_and,Bool.and_true,Bool.false_and,Bool.and_false,decide_true,decide_false,Bool.or_true,Bool.or_false] at hK
   simp (maxSteps:=999999) only [ey,Nat.reduceBEq,reduceEqDiff,reduceLT,reduceCtorEq,reduceAdd,reduceLeDiff,hb0,hb1,hb2,Bool.not_true,Int.reduceBEq,h1]
   refine callStep (f245_ok hcm2 H2 hF2 _ fun H3 hU3 hF3=>?_)
   simp (maxSteps:=999999) only [ey,Nat.reduceBEq,reduceEqDiff,reduceLT,reduceCtorEq,reduceAdd,reduceLeDiff]
   exact hK _ (hU2.trans hU3) hF3
  ·simp only [h1,Bool.true_or,Bool.false_or,Bool.true_and,Bool.and_true,Bool.false_and,Bool.and_false,decide_true,decide_false,Bool.or_true,Bool.or_false] at hK
   simp (maxSteps:=999999) only [ey,Nat.reduceBEq,reduceEqDiff,reduceLT,reduceCtorEq,reduceAdd,reduceLeDiff,hb0,hb1,hb2,Bool.not_true,Int.reduceBEq,h1]
   exact hK _ (hU2) hF2
 by_cases k17 : op = 17
 ·subst k17
  have e : opV n LF LG.length S L p [.int .i64 17,.int .i64 a,.int .i64 b,.str t,c0,c1,c2,c3,c4] = callV LF a b:=rfl
  rw [e] at hK
  unfold callV at hK
  simp (maxSteps:=999999) only [ey,Nat.reduceBEq,reduceEqDiff,reduceLT,reduceCtorEq,reduceAdd,reduceLeDiff,hb0,hb1,hb2,Bool.not_true,Int.reduceBEq]
  refine drawStep [] [0,1,2,3,4,5,6,7,8,9,10,11,12,13,14,15,16,17,18] _ rfl (by kernel_rfl) ?_
  simp (maxSteps:=999999) only [ey,Nat.reduceBEq,reduceEqDiff,reduceLT,reduceCtorEq,reduceAdd,reduceLeDiff,hb0,hb1,hb2,hlF]
  refine callStep (f151_ok a LF.length H2 hF2 _ ?_)
  cases hb1' : belowV a LF.length with
  | false=>
   simp only [hb1',Bool.true_or,Bool.false_or,Bool.true_and,Bool.and_true,Bool.false_and,Bool.and_false,decide_true,decide_false,Bool.or_true,Bool.or_false] at hK
   simp (maxSteps:=999999) only [ey,Nat.reduceBEq,reduceEqDiff,reduceLT,reduceCtorEq,reduceAdd,reduceLeDiff]
   exact hK _ hU2 hF2
  | true=>
   simp only [hb1',Bool.true_or,Bool.false_or,Bool.true_and,Bool.and_true,Bool.false_and,Bool.and_false,decide_true,decide_false,Bool.or_true,Bool.or_false] at hK
   unfold belowV at hb1'
   simp only [Bool.and_eq_true,decide_eq_true_eq] at hb1'
   obtain ⟨m,rfl⟩:=Int.eq_ofNat_of_zero_le (show 0 ≤ a from hb1'.1)
   have hlt : m < LF.length:=by omega
   obtain ⟨d,hd⟩ : ∃ d,LF[m]? = some d:=⟨_,List.getElem?_eq_getElem hlt⟩
   have hixd:=idx22 h.hF hd
   obtain ⟨nm',P',S',v',rfl⟩:=h.fF d (List.mem_of_getElem? hd)
   have hgd : LF.getD m [] = [.str nm',.int .i64 P',.int .i64 S',v']:=by rw [List.getD_eq_getElem?_getD,hd];rfl
   rw [Int.toNat_natCast,hgd] at hK
   simp (maxSteps:=999999) only [ey,Nat.reduceBEq,reduceEqDiff,reduceLT,reduceCtorEq,reduceAdd,reduceLeDiff,hb0,hb1,hb2,hixd]
   exact hK _ hU2 hF2
 by_cases k18 : op = 18
 ·subst k18
  have e : opV n LF LG.length S L p [.int .i64 18,.int .i64 a,.int .i64 b,.str t,c0,c1,c2,c3,c4] = callV LF a b:=rfl
  rw [e] at hK
  unfold callV at hK
  simp (maxSteps:=999999) only [ey,Nat.reduceBEq,reduceEqDiff,reduceLT,reduceCtorEq,reduceAdd,reduceLeDiff,hb0,hb1,hb2,Bool.not_true,Int.reduceBEq]
  refine drawStep [] [0,1,2,3,4,5,6,7,8,9,10,11,12,13,14,15,16,17,18] _ rfl (by kernel_rfl) ?_
  simp (maxSteps:=999999) only [ey,Nat.reduceBEq,reduceEqDiff,reduceLT,reduceCtorEq,reduceAdd,reduceLeDiff,hb0,hb1,hb2,hlF]
  refine callStep (f151_ok a LF.length H2 hF2 _ ?_)
  cases hb1' : belowV a LF.length with
  | false=>
   simp only [hb1',Bool.true_or,Bool.false_or,Bool.true_and,Bool.and_true,Bool.false_and,Bool.and_false,decide_true,decide_false,Bool.or_true,Bool.or_false] at hK
   simp (maxSteps:=999999) only [ey,Nat.reduceBEq,reduceEqDiff,reduceLT,reduceCtorEq,reduceAdd,reduceLeDiff]
   exact hK _ hU2 hF2
  | true=>
   simp only [hb1',Bool.true_or,Bool.false_or,Bool.true_and,Bool.and_true,Bool.false_and,Bool.and_false,decide_true,decide_false,Bool.or_true,Bool.or_false] at hK
   unfold belowV at hb1'
   simp only [Bool.and_eq_true,decide_eq_true_eq] at hb1'
   obtain ⟨m,rfl⟩:=Int.eq_ofNat_of_zero_le (show 0 ≤ a from hb1'.1)
   have hlt : m < LF.length:=by omega
   obtain ⟨d,hd⟩ : ∃ d,LF[m]? = some d:=⟨_,List.getElem?_eq_getElem hlt⟩
   have hixd:=idx22 h.hF hd
   obtain ⟨nm',P',S',v',rfl⟩:=h.fF d (List.mem_of_getElem? hd)
   have hgd : LF.getD m [] = [.str nm',.int .i64 P',.int .i64 S',v']:=by rw [List.getD_eq_getElem?_getD,hd];rfl
   rw [Int.toNat_natCast,hgd] at hK
   simp (maxSteps:=999999) only [ey,Nat.reduceBEq,reduceEqDiff,reduceLT,reduceCtorEq,reduceAdd,reduceLeDiff,hb0,hb1,hb2,hixd]
   exact hK _ hU2 hF2
 by_cases k25 : op = 25
 ·subst k25
  have e : opV n LF LG.length S L p [.int .i64 25,.int .i64 a,.int .i64 b,.str t,c0,c1,c2,c3,c4] = callV LF a b:=rfl
  rw [e] at hK
  unfold callV at hK
  simp (maxSteps:=999999) only [ey,Nat.reduceBEq,reduceEqDiff,reduceLT,reduceCtorEq,reduceAdd,reduceLeDiff,hb0,hb1,hb2,Bool.not_true,Int.reduceBEq]
  refine drawStep [] [0,1,2,3,4,5,6,7,8,9,10,11,12,13,14,15,16,17,18] _ rfl (by kernel_rfl) ?_
  simp (maxSteps:=999999) only [ey,Nat.reduceBEq,reduceEqDiff,reduceLT,reduceCtorEq,reduceAdd,reduceLeDiff,hb0,hb1,hb2,hlF]
  refine callStep (f151_ok a LF.length H2 hF2 _ ?_)
  cases hb1' : belowV a LF.length with
  | false=>
   simp only [hb1',Bool.true_or,Bool.false_or,Bool.true_and,Bool.and_true,Bool.false_and,Bool.and_false,decide_true,decide_false,Bool.or_true,Bool.or_false] at hK
   simp (maxSteps:=999999) only [ey,Nat.reduceBEq,reduceEqDiff,reduceLT,reduceCtorEq,reduceAdd,reduceLeDiff]
   exact hK _ hU2 hF2
  | true=>
   simp only [hb1',Bool.true_or,Bool.false_or,Bool.true_and,Bool.and_true,Bool.false_and,Bool.and_false,decide_true,decide_false,Bool.or_true,Bool.or_false] at hK
   unfold belowV at hb1'
   simp only [Bool.and_eq_true,decide_eq_true_eq] at hb1'
   obtain ⟨m,rfl⟩:=Int.eq_ofNat_of_zero_le (show 0 ≤ a from hb1'.1)
   have hlt : m < LF.length:=by omega
   obtain ⟨d,hd⟩ : ∃ d,LF[m]? = some d:=⟨_,List.getElem?_eq_getElem hlt⟩
   have hixd:=idx22 h.hF hd
   obtain ⟨nm',P',S',v',rfl⟩:=h.fF d (List.mem_of_getElem? hd)
   have hgd : LF.getD m [] = [.str nm',.int .i64 P',.int .i64 S',v']:=by rw [List.getD_eq_getElem?_getD,hd];rfl
   rw [Int.toNat_natCast,hgd] at hK
   simp (maxSteps:=999999) only [ey,Nat.reduceBEq,reduceEqDiff,reduceLT,reduceCtorEq,reduceAdd,reduceLeDiff,hb0,hb1,hb2,hixd]
   exact hK _ hU2 hF2
 by_cases k21 : op = 21
 ·subst k21
  have e : opV n LF LG.length S L p [.int .i64 21,.int .i64 a,.int .i64 b,.str t,c0,c1,c2,c3,c4] = (belowV a L.length && belowV b S):=rfl
  rw [e] at hK
  simp (maxSteps:=999999) only [ey,Nat.reduceBEq,reduceEqDiff,reduceLT,reduceCtorEq,reduceAdd,reduceLeDiff,hb0,hb1,hb2,Bool.not_true,Int.reduceBEq,hlv]
  refine callStep (f151_ok a L.length H2 hF2 _ ?_)
  cases h1 : belowV a L.length with
  | false=>
   simp only [h1,Bool.true_or,Bool.false_or,Bool.true_and,Bool.and_true,Bool.false_and,Bool.and_false,decide_true,decide_false,Bool.or_true,Bool.or_false] at hK
   simp (maxSteps:=999999) only [ey,Nat.reduceBEq,reduceEqDiff,reduceLT,reduceCtorEq,reduceAdd,reduceLeDiff]
   exact hK _ hU2 hF2
  | true=>
   simp only [h1,Bool.true_or,Bool.false_or,Bool.true_and,Bool.and_true,Bool.false_and,Bool.and_false,decide_true,decide_false,Bool.or_true,Bool.or_false] at hK
   simp (maxSteps:=999999) only [ey,Nat.reduceBEq,reduceEqDiff,reduceLT,reduceCtorEq,reduceAdd,reduceLeDiff,hb0,hb1,hb2]
   refine callStep (f151_ok b S H2 hF2 _ ?_)
   simp (maxSteps:=999999) only [ey,Nat.reduceBEq,reduceEqDiff,reduceLT,reduceCtorEq,reduceAdd,reduceLeDiff]
   exact hK _ hU2 hF2
 by_cases k27 : op = 27
 ·subst k27
  have e : opV n LF LG.length S L p [.int .i64 27,.int .i64 a,.int .i64 b,.str t,c0,c1,c2,c3,c4] = choiceV L p a b:=rfl
  rw [e] at hK
  unfold choiceV at hK
  simp (maxSteps:=999999) only [ey,Nat.reduceBEq,reduceEqDiff,reduceLT,reduceCtorEq,reduceAdd,reduceLeDiff,hb0,hb1,hb2,Bool.not_true,Int.reduceBEq]
  refine callStep (f151_ok a 17 H2 hF2 _ ?_)
  cases h1 : belowV a 17 with
  | false=>
   simp only [h1,Bool.true_or,Bool.false_or,Bool.true_and,Bool.and_true,Bool.false_and,Bool.and_false,decide_true,decide_false,Bool.or_true,Bool.or_false] at hK
   simp (maxSteps:=999999) only [ey,Nat.reduceBEq,reduceEqDiff,reduceLT,reduceCtorEq,reduceAdd,reduceLeDiff]
   exact hK _ hU2 hF2
  | true=>
  simp (maxSteps:=999999) only [ey,Nat.reduceBEq,reduceEqDiff,reduceLT,reduceCtorEq,reduceAdd,reduceLeDiff,hb0,hb1,hb2]
  refine callStep (f151_ok b 2 H2 hF2 _ ?_)
  cases h2 : belowV b 2 with
  | false=>
   simp only [h1,h2,Bool.true_or,Bool.false_or,Bool.true_and,Bool.and_true,Bool.false_and,Bool.and_false,decide_true,decide_false,Bool.or_true,Bool.or_false] at hK
   simp (maxSteps:=999999) only [ey,Nat.reduceBEq,reduceEqDiff,reduceLT,reduceCtorEq,reduceAdd,reduceLeDiff]
   exact hK _ hU2 hF2
  | true=>
  simp only [h1,h2,Bool.true_or,Bool.false_or,Bool.true_and,Bool.and_true,Bool.false_and,Bool.and_false,decide_true,decide_false,Bool.or_true,Bool.or_false] at hK
  unfold belowV at h1 h2
  simp only [Bool.and_eq_true,decide_eq_true_eq] at h1 h2
  obtain ⟨x,rfl⟩:=Int.eq_ofNat_of_zero_le (show 0 ≤ a from h1.1)
  obtain ⟨y,rfl⟩:=Int.eq_ofNat_of_zero_le (show 0 ≤ b from h2.1)
  have w0 : IntKind.i64.wrap ((x : Int) + (y : Int)) = ((x + y : Nat) : Int):=by rw [IntWalk.i64_in _ (by omega)];omega
  have w3 : IntKind.i64.wrap ((p : Int) + 1) = ((p + 1 : Nat) : Int):=by rw [IntWalk.i64_in _ (by omega)];omega
  have hge : decide ((x : Int) + (y : Int) ≥ 1) = decide (1 ≤ x + y):=by congr 1;exact propext ⟨fun h=>by omega,fun h=>by omega⟩
  have htn : ((x : Int) + (y : Int)).toNat = x + y:=by omega
  rw [hge,htn] at hK
  by_cases h3 : 1 ≤ x + y
  ·have hl1 : (((x + y : Nat) : Int) ≥ 1) = True:=by simp;omega
   simp only [h3,Bool.true_or,Bool.false_or,Bool.true_and,Bool.and_true,Bool.false_and,Bool.and_false,decide_true,decide_false,Bool.or_true,Bool.or_false] at hK
   simp (maxSteps:=999999) only [ey,Nat.reduceBEq,reduceEqDiff,reduceLT,reduceCtorEq,reduceAdd,reduceLeDiff,hb0,hb1,hb2,w0,w3,hl1]
   refine callStep (f246_ok h.hv h.fL h.nL (p + 1) (x + y) (by omega) (by omega) H2 hF2 _ fun H3 hU3 hF3=>?_)
   simp (maxSteps:=999999) only [ey,Nat.reduceBEq,reduceEqDiff,reduceLT,reduceCtorEq,reduceAdd,reduceLeDiff]
   exact hK _ (hU2.trans hU3) hF3
  ·have hl1 : (((x + y : Nat) : Int) ≥ 1) = False:=by simp;omega
   simp only [h3,Bool.true_or,Bool.false_or,Bool.true_and,Bool.and_true,Bool.false_and,Bool.and_false,decide_true,decide_false,Bool.or_true,Bool.or_false] at hK
   simp (maxSteps:=999999) only [ey,Nat.reduceBEq,reduceEqDiff,reduceLT,reduceCtorEq,reduceAdd,reduceLeDiff,hb0,hb1,hb2,w0,hl1]
   exact hK _ hU2 hF2
 by_cases k28 : op = 28
 ·subst k28
  have e : opV n LF LG.length S L p [.int .i64 28,.int .i64 a,.int .i64 b,.str t,c0,c1,c2,c3,c4] = biV t b:=rfl
  rw [e] at hK
  unfold biV at hK
  simp (maxSteps:=999999) only [ey,Nat.reduceBEq,reduceEqDiff,reduceLT,reduceCtorEq,reduceAdd,reduceLeDiff,hb0,hb1,hb2,Bool.not_true,Int.reduceBEq]
  refine callStep (f194_ok t H2 hF2 _ ?_)
  by_cases h1 : (arityV t).2.2 > 0
  ·by_cases h2 : b ≥ (arityV t).1
   ·simp only [h1,h2,Bool.true_or,Bool.false_or,Bool.true_and,Bool.and_true,Bool.false_and,Bool.and_false,decide_true,decide_false,Bool.or_true,Bool.or_false] at hK
    simp (maxSteps:=999999) only [ey,Nat.reduceBEq,reduceEqDiff,reduceLT,reduceCtorEq,reduceAdd,reduceLeDiff,hb0,hb1,hb2,h1,h2]
    exact hK _ hU2 hF2
   ·simp only [h1,h2,Bool.true_or,Bool.false_or,Bool.true_and,Bool.and_true,Bool.false_and,Bool.and_false,decide_true,decide_false,Bool.or_true,Bool.or_false] at hK
    simp (maxSteps:=999999) only [ey,Nat.reduceBEq,reduceEqDiff,reduceLT,reduceCtorEq,reduceAdd,reduceLeDiff,hb0,hb1,hb2,h1,h2]
    exact hK _ hU2 hF2
  ·simp only [h1,Bool.true_or,Bool.false_or,Bool.true_and,Bool.and_true,Bool.false_and,Bool.and_false,decide_true,decide_false,Bool.or_true,Bool.or_false] at hK
   simp (maxSteps:=999999) only [ey,Nat.reduceBEq,reduceEqDiff,reduceLT,reduceCtorEq,reduceAdd,reduceLeDiff,hb0,hb1,hb2,h1]
   exact hK _ hU2 hF2
 have q1 : (op == 1) = false:=by simpa using k1
 have q2 : (op == 2) = false:=by simpa using k2
 have q3 : (op == 3) = false:=by simpa using k3
 have q4 : (op == 4) = false:=by simpa using k4
 have q5 : (op == 5) = false:=by simpa using k5
 have q7 : (op == 7) = false:=by simpa using k7
 have q8 : (op == 8) = false:=by simpa using k8
 have q9 : (op == 9) = false:=by simpa using k9
 have q10 : (op == 10) = false:=by simpa using k10
 have q11 : (op == 11) = false:=by simpa using k11
 have q12 : (op == 12) = false:=by simpa using k12
 have q13 : (op == 13) = false:=by simpa using k13
 have q14 : (op == 14) = false:=by simpa using k14
 have q17 : (op == 17) = false:=by simpa using k17
 have q18 : (op == 18) = false:=by simpa using k18
 have q25 : (op == 25) = false:=by simpa using k25
 have q21 : (op == 21) = false:=by simpa using k21
 have q27 : (op == 27) = false:=by simpa using k27
 have q28 : (op == 28) = false:=by simpa using k28
 have e3 : opV n LF LG.length S L p [.int .i64 op,.int .i64 a,.int .i64 b,.str t,c0,c1,c2,c3,c4] = true:=by simp [opV,opI,k1,k2,k3,k4,k5,k7,k8,k9,k10,k11,k12,k13,k14,k17,k18,k25,k21,k27,k28]
 rw [e3] at hK
 simp (maxSteps:=999999) only [ey,Nat.reduceBEq,reduceEqDiff,reduceLT,reduceCtorEq,reduceAdd,reduceLeDiff,hb0,hb1,hb2,Bool.not_true,q1,q2,q3,q4,q5,q7,q8,q9,q10,q11,q12,q13,q14,q17,q18,q25,q21,q27,q28]
 exact hK _ hU2 hF2
end Go.Proofs.T
