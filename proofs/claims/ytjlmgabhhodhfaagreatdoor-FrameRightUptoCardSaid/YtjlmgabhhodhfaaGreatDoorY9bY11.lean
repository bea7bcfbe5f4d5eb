import Derived.Test.YtjlmgabhhodhfaaGreatDoorY9aY10
import Derived.Test.YtjlmgabhhodhfaaGreatDoorY8
import Derived.Test.YtjlmgabhhodhfaaGreatDoorY5b
set_option linter.unusedVariables false
set_option linter.unusedSimpArgs false
set_option maxRecDepth 100000
namespace Go.Proofs.T
open Go.Ev
open Nat (reduceMul reducePow reduceSub reduceEqDiff reduceLT reduceAdd reduceLeDiff)
open UInt8 (reduceToNat)
set_option maxHeartbeats 4000000 in
theorem f81_ok {vF vG vI vH v : AV} {nm : List Nat} {P S : Int} {n : Nat} {LF LG L : List (List AV)} (h : CkC n vF vG v LF LG L) (H : Heap) (hF : Free H) (K : AV → Heap → Prop) (hK : ∀ H',Up H H' → Free H' → K (.bool (funB n LF LG.length P S L)) H') : WF Tryz.prog 81 [.agg [vF,vG,vI,vH],.agg [.str nm,.int .i64 P,.int .i64 S,v]] H K:=by
 have hlv : ∀ G,evBuiltin Tryz.prog G .len #[83] [v] = some (.int .i64 L.length,G):=fun G=>(h.hv G).lenAt und83 G
 have hvc:=holds_cell (h.hv H)
 unfold funB at hK
 refine WF_body Tryz.func81 (by kernel_rfl) rfl Tryz.ntmps81 (by rw [Tryz.results81]) (of_decide_eq_true (by kernel_rfl)) ?_
 by_cases k1 : P < 0
 ·have hk : ¬ (P ≥ 0):=by omega
  simp only [hk,Bool.true_or,Bool.false_or,Bool.true_and,Bool.and_true,Bool.false_and,Bool.and_false,decide_true,decide_false,Bool.or_true,Bool.or_false] at hK
  simp (maxSteps:=999999) only [ey,Nat.reduceBEq,reduceEqDiff,reduceLT,reduceCtorEq,reduceAdd,reduceLeDiff,hF.at,hF.hp,hlv,k1]
  exact hK _ (hF.hpU _) (hF.hpF _)
 have k1' : P ≥ 0:=by omega
 by_cases k2 : P > 8
 ·have hk : ¬ (P ≤ 8):=by omega
  simp only [k1',hk,Bool.true_or,Bool.false_or,Bool.true_and,Bool.and_true,Bool.false_and,Bool.and_false,decide_true,decide_false,Bool.or_true,Bool.or_false] at hK
  simp (maxSteps:=999999) only [ey,Nat.reduceBEq,reduceEqDiff,reduceLT,reduceCtorEq,reduceAdd,reduceLeDiff,hF.at,hF.hp,hlv,k1,k2]
  exact hK _ (hF.hpU _) (hF.hpF _)
 have k2' : P ≤ 8:=by omega
 by_cases k3 : S < P
 ·have hk : ¬ (S ≥ P):=by omega
  simp only [k1',k2',hk,Bool.true_or,Bool.false_or,Bool.true_and,Bool.and_true,Bool.false_and,Bool.and_false,decide_true,decide_false,Bool.or_true,Bool.or_false] at hK
  simp (maxSteps:=999999) only [ey,Nat.reduceBEq,reduceEqDiff,reduceLT,reduceCtorEq,reduceAdd,reduceLeDiff,hF.at,hF.hp,hlv,k1,k2,k3]
  exact hK _ (hF.hpU _) (hF.hpF _)
 have k3' : S ≥ P:=by omega
 by_cases k4 : S > 100
 ·have hk : ¬ (S ≤ 100):=by omega
  simp only [k1',k2',k3',hk,Bool.true_or,Bool.false_or,Bool.true_and,Bool.and_true,Bool.false_and,Bool.and_false,decide_true,decide_false,Bool.or_true,Bool.or_false] at hK
  simp (maxSteps:=999999) only [ey,Nat.reduceBEq,reduceEqDiff,reduceLT,reduceCtorEq,reduceAdd,reduceLeDiff,hF.at,hF.hp,hlv,k1,k2,k3,k4]
  exact hK _ (hF.hpU _) (hF.hpF _)
 have k4' : S ≤ 100:=by omega
 by_cases k5 : (L.length : Int) < 1
 ·have hk : ¬ ((L.length : Int) ≥ 1):=by omega
  simp only [k1',k2',k3',k4',hk,Bool.true_or,Bool.false_or,Bool.true_and,Bool.and_true,Bool.false_and,Bool.and_false,decide_true,decide_false,Bool.or_true,Bool.or_false] at hK
  simp (maxSteps:=999999) only [ey,Nat.reduceBEq,reduceEqDiff,reduceLT,reduceCtorEq,reduceAdd,reduceLeDiff,hF.at,hF.hp,hlv,k1,k2,k3,k4,k5]
  exact hK _ (hF.hpU _) (hF.hpF _)
 have k5' : (L.length : Int) ≥ 1:=by omega
 by_cases k6 : (L.length : Int) > 10000
 ·have hk : ¬ ((L.length : Int) ≤ 10000):=by omega
  simp only [k1',k2',k3',k4',k5',hk,Bool.true_or,Bool.false_or,Bool.true_and,Bool.and_true,Bool.false_and,Bool.and_false,decide_true,decide_false,Bool.or_true,Bool.or_false] at hK
  simp (maxSteps:=999999) only [ey,Nat.reduceBEq,reduceEqDiff,reduceLT,reduceCtorEq,reduceAdd,reduceLeDiff,hF.at,hF.hp,hlv,k1,k2,k3,k4,k5,k6]
  exact hK _ (hF.hpU _) (hF.hpF _)
 have k6' : (L.length : Int) ≤ 10000:=by omega
 simp only [k1',k2',k3',k4',k5',k6',Bool.true_or,Bool.false_or,Bool.true_and,Bool.and_true,Bool.false_and,Bool.and_false,decide_true,decide_false,Bool.or_true,Bool.or_false] at hK
 have hck:=h.ck (S:=S) (by omega) (by omega)
 simp (maxSteps:=999999) only [ey,Nat.reduceBEq,reduceEqDiff,reduceLT,reduceCtorEq,reduceAdd,reduceLeDiff,hF.at,hF.hp,hlv,k1,k2,k3,k4,k5,k6]
 generalize hH1 : HP H [Blk.row 27 4 [[vF,vG,vI,vH]] 0 0,Blk.row 85 4 [[.str nm,.int .i64 P,.int .i64 S,v]] 0 0] = H1
 have hb0 : H1.blk H.next = some (.row 27 4 [[vF,vG,vI,vH]] 0 0):=by rw [← hH1,hp_blk0];rfl
 have hb1 : H1.blk (H.next + 1) = some (.row 85 4 [[.str nm,.int .i64 P,.int .i64 S,v]] 0 0):=by rw [← hH1,hp_blk];rfl
 have hF1 : Free H1:=hH1 ▸ hF.hpF _
 have hU1 : Up H H1:=hH1 ▸ hF.hpU _
 refine loopStep' (fun env H'=>Up H1 H' ∧ Free H' ∧ ∃ i : Nat,i ≤ L.length ∧ env.at (.tmp 5) = .int .i64 i ∧ env.at (.tmp 2) = .ptr H.next 0 0 0 ∧ env.at (.tmp 3) = .ptr (H.next + 1) 0 0 0 ∧ ∀ j,j < i → instrV n LF LG.length S L j = true)
  (fun env H'=>match env.at (.tmp 5) with | .int _ i=>((L.length : Int) - i).toNat | _=>0) ?_ ?_
 ·exact ⟨Up.refl _,hF1,0,Nat.zero_le _,by simp only [ey,Nat.reduceBEq,reduceEqDiff,reduceLT,reduceCtorEq,reduceAdd,reduceLeDiff];rfl,by simp only [ey,Nat.reduceBEq,reduceEqDiff,reduceLT,reduceCtorEq,reduceAdd,reduceLeDiff],by simp only [ey,Nat.reduceBEq,reduceEqDiff,reduceLT,reduceCtorEq,reduceAdd,reduceLeDiff],fun j hj=>by omega⟩
 ·rintro env H' ⟨hU',hF',i,hi,e5,e2,e3,hinv⟩
  have hb0':=hU' _ _ hb0
  have hb1':=hU' _ _ hb1
  by_cases hlt : i < L.length
  ·obtain ⟨c,hc⟩ : ∃ c,L[i]? = some c:=⟨_,List.getElem?_eq_getElem hlt⟩
   have hgd : L.getD i [] = c:=by rw [List.getD_eq_getElem?_getD,hc];rfl
   have hin : instrV n LF LG.length S L i = insV n LF LG.length S L i c:=by unfold instrV insV;rw [hgd]
   simp (maxSteps:=999999) only [ey,Nat.reduceBEq,reduceEqDiff,reduceLT,reduceCtorEq,reduceAdd,reduceLeDiff,e5,e2,e3,hlv,lt_true hlt,hb0',hb1']
   refine callStep (f152_ok hck i hc H' hF' _ fun H3 hU3 hF3=>?_)
   rw [← hin]
   cases hb : instrV n LF LG.length S L i with
   | false=>
    rw [all_false hlt hb] at hK
    simp only [Bool.true_or,Bool.false_or,Bool.true_and,Bool.and_true,Bool.false_and,Bool.and_false,decide_true,decide_false,Bool.or_true,Bool.or_false] at hK
    simp (maxSteps:=999999) only [ey,Nat.reduceBEq,reduceEqDiff,reduceLT,reduceCtorEq,reduceAdd,reduceLeDiff,Bool.not_false]
    exact hK _ (hU1.trans (hU'.trans hU3)) hF3
   | true=>
    simp (maxSteps:=999999) only [ey,Nat.reduceBEq,reduceEqDiff,reduceLT,reduceCtorEq,reduceAdd,reduceLeDiff,e5,e2,e3,Bool.not_true,wrap_succ (i:=i) (by omega)]
    refine ⟨⟨hU'.trans hU3,hF3,i + 1,hlt,rfl,fun j hj=>?_⟩,by omega⟩
    by_cases hj2 : j < i
    ·exact hinv j hj2
    ·obtain rfl : j = i:=by omega
     exact hb
  ·have hall : ∀ j,j < L.length → instrV n LF LG.length S L j = true:=fun j hj=>hinv j (by omega)
   rw [all_true hall] at hK
   simp only [Bool.true_or,Bool.false_or,Bool.true_and,Bool.and_true,Bool.false_and,Bool.and_false,decide_true,decide_false,Bool.or_true,Bool.or_false] at hK
   simp (maxSteps:=999999) only [ey,Nat.reduceBEq,reduceEqDiff,reduceLT,reduceCtorEq,reduceAdd,reduceLeDiff,e5,e2,e3,hlv,lt_false hlt,hb1']
   refine callStep (f83_ok h.hv h.fL (jmp_all h.nL hall) (by omega) H' hF' _ (fun hf u H3 hU3 hF3 hO=>?_) (fun hf H3 hU3 hF3=>?_))
   ·rw [fineB_true hf] at hK
    obtain ⟨z1,z2,z3⟩:=own_plain hO
    simp (maxSteps:=999999) only [ey,Nat.reduceBEq,reduceEqDiff,reduceLT,reduceCtorEq,reduceAdd,reduceLeDiff]
    exact hK _ (hU1.trans (hU'.trans hU3)) hF3
   ·rw [fineB_false hf] at hK
    simp (maxSteps:=999999) only [ey,Nat.reduceBEq,reduceEqDiff,reduceLT,reduceCtorEq,reduceAdd,reduceLeDiff]
    exact hK _ (hU1.trans (hU'.trans hU3)) hF3
theorem any_hit {α : Type} {L : List α} {p : α → Bool} {i : Nat} {c : α} (hc : L[i]? = some c) (h : p c = true) : L.any p = true:=List.any_eq_true.2 ⟨c,List.mem_of_getElem? hc,h⟩
theorem any_step {α : Type} {L : List α} {p : α → Bool} {i : Nat} {c : α} (hc : L[i]? = some c) (h : (L.take i).any p = false) (hp : p c = false) : (L.take (i + 1)).any p = false:=by
 rw [List.take_add_one,hc,List.any_append,h]
 simp [hp]
set_option maxHeartbeats 8000000 in
theorem f41_ok {n : Nat} {vF vG vI vH : AV} {LF LG LI LH : List (List AV)} (h : CodT n vF vG vI vH LF LG LI LH) (H : Heap) (hF : Free H) (K : AV → Heap → Prop) (hK : ∀ H',Up H H' → Free H' → K (.bool (rightC n LF LG LI LH)) H') : WF Tryz.prog 41 [.agg [vF,vG,vI,vH]] H K:=by
 have hlF : ∀ G,evBuiltin Tryz.prog G .len #[22] [vF] = some (.int .i64 LF.length,G):=fun G=>(h.hF G).lenAt und22 G
 have hlG : ∀ G,evBuiltin Tryz.prog G .len #[23] [vG] = some (.int .i64 LG.length,G):=fun G=>(h.hG G).lenAt und23 G
 have hlI : ∀ G,evBuiltin Tryz.prog G .len #[24] [vI] = some (.int .i64 LI.length,G):=fun G=>(h.hI G).lenAt und24 G
 have hlH : ∀ G,evBuiltin Tryz.prog G .len #[25] [vH] = some (.int .i64 LH.length,G):=fun G=>(h.hH G).lenAt und25 G
 unfold rightC at hK
 refine WF_body Tryz.func41 (by kernel_rfl) rfl Tryz.ntmps41 (by rw [Tryz.results41]) (of_decide_eq_true (by kernel_rfl)) ?_
 by_cases a1 : (LF.length : Int) < 1
 ·have a1' : ¬ (LF.length : Int) ≥ 1:=by omega
  simp only [a1',Bool.true_or,Bool.false_or,Bool.true_and,Bool.and_true,Bool.false_and,Bool.and_false,decide_true,decide_false,Bool.or_true,Bool.or_false] at hK
  simp (maxSteps:=999999) only [ey,implies_true,reduceMul,reducePow,reduceSub,Nat.reduceBEq,reduceToNat,reduceEqDiff,reduceLT,reduceCtorEq,reduceAdd,reduceLeDiff,hF.at,hF.hp,hlF,a1]
  exact hK _ (hF.hpU _) (hF.hpF _)
 have a1' : (LF.length : Int) ≥ 1:=by omega
 by_cases a2 : (LF.length : Int) > 200
 ·have a2' : ¬ (LF.length : Int) ≤ 200:=by omega
  simp only [a1',a2',Bool.true_or,Bool.false_or,Bool.true_and,Bool.and_true,Bool.false_and,Bool.and_false,decide_true,decide_false,Bool.or_true,Bool.or_false] at hK
  simp (maxSteps:=999999) only [ey,implies_true,reduceMul,reducePow,reduceSub,Nat.reduceBEq,reduceToNat,reduceEqDiff,reduceLT,reduceCtorEq,reduceAdd,reduceLeDiff,hF.at,hF.hp,hlF,a1,a2]
  exact hK _ (hF.hpU _) (hF.hpF _)
 have a2' : (LF.length : Int) ≤ 200:=by omega
 obtain ⟨c,hc⟩ : ∃ c,LF[0]? = some c:=⟨_,List.getElem?_eq_getElem (by omega)⟩
 have hgd : LF.getD 0 [] = c:=by rw [List.getD_eq_getElem?_getD,hc];rfl
 have hix : ∀ G,evIndexAddr Tryz.prog G 22 vF (.int .i64 0) = some (.iptr c 0):=fun G=>idx22 (i:=0) h.hF hc G
 obtain ⟨nm,P,S,v,L,rfl,hv,hL,hn⟩:=h.fF c (List.mem_of_getElem? hc)
 have hP : intC (LF.getD 0 []) 1 = P:=by rw [hgd];rfl
 rw [hP] at hK
 by_cases h2 : P > 1
 ·have h2' : ¬ P ≤ 1:=by omega
  simp only [a1',a2',h2',Bool.true_or,Bool.false_or,Bool.true_and,Bool.and_true,Bool.false_and,Bool.and_false,decide_true,decide_false,Bool.or_true,Bool.or_false] at hK
  simp (maxSteps:=999999) only [ey,implies_true,reduceMul,reducePow,reduceSub,Nat.reduceBEq,reduceToNat,reduceEqDiff,reduceLT,reduceCtorEq,reduceAdd,reduceLeDiff,hF.at,hF.hp,hlF,a1,a2,hix,h2]
  exact hK _ (hF.hpU _) (hF.hpF _)
 have h2' : P ≤ 1:=by omega
 by_cases h3 : (LG.length : Int) > 50
 ·have h3' : ¬ (LG.length : Int) ≤ 50:=by omega
  simp only [a1',a2',h2',h3',Bool.true_or,Bool.false_or,Bool.true_and,Bool.and_true,Bool.false_and,Bool.and_false,decide_true,decide_false,Bool.or_true,Bool.or_false] at hK
  simp (maxSteps:=999999) only [ey,implies_true,reduceMul,reducePow,reduceSub,Nat.reduceBEq,reduceToNat,reduceEqDiff,reduceLT,reduceCtorEq,reduceAdd,reduceLeDiff,hF.at,hF.hp,hlF,a1,a2,hix,h2,hlG,h3]
  exact hK _ (hF.hpU _) (hF.hpF _)
 have h3' : (LG.length : Int) ≤ 50:=by omega
 cases h4 : ((LI.length : Int) == (LG.length : Int)) with
 | false=>
  have h4n : ((LI.length : Int) != (LG.length : Int)) = true:=by rw [bne,h4];rfl
  simp only [a1',a2',h2',h3',h4,Bool.true_or,Bool.false_or,Bool.true_and,Bool.and_true,Bool.false_and,Bool.and_false,decide_true,decide_false,Bool.or_true,Bool.or_false] at hK
  simp (maxSteps:=999999) only [ey,implies_true,reduceMul,reducePow,reduceSub,Nat.reduceBEq,reduceToNat,reduceEqDiff,reduceLT,reduceCtorEq,reduceAdd,reduceLeDiff,hF.at,hF.hp,hlF,a1,a2,hix,h2,hlG,h3,hlI,h4n]
  exact hK _ (hF.hpU _) (hF.hpF _)
 | true=>
 have h4n : ((LI.length : Int) != (LG.length : Int)) = false:=by rw [bne,h4];rfl
 simp only [a1',a2',h2',h3',h4,Bool.true_or,Bool.false_or,Bool.true_and,Bool.and_true,Bool.false_and,Bool.and_false,decide_true,decide_false,Bool.or_true,Bool.or_false] at hK
 simp (maxSteps:=999999) only [ey,implies_true,reduceMul,reducePow,reduceSub,Nat.reduceBEq,reduceToNat,reduceEqDiff,reduceLT,reduceCtorEq,reduceAdd,reduceLeDiff,hF.at,hF.hp,hlF,a1,a2,hix,h2,hlG,h3,hlI,h4n]
 generalize hH1 : HP H [Blk.row 27 4 [[vF,vG,vI,vH]] 0 0] = H1
 have hb : H1.blk H.next = some (.row 27 4 [[vF,vG,vI,vH]] 0 0):=by rw [← hH1,hp_blk0];rfl
 have hF1 : Free H1:=hH1 ▸ hF.hpF _
 have hU1 : Up H H1:=hH1 ▸ hF.hpU _
 clear hc hgd hix hP hv hL hn
 refine loopStep' (fun env H'=>Up H1 H' ∧ Free H' ∧ ∃ i : Nat,i ≤ LI.length ∧ env.at (.tmp 3) = .int .i64 i ∧ env.at (.tmp 1) = .ptr H.next 0 0 0 ∧ ((LI.take i).any fun c=>!rightV n c) = false)
  (fun env H'=>match env.at (.tmp 3) with | .int _ i=>((LI.length : Int) - i).toNat | _=>0) ?_ ?_
 ·exact ⟨Up.refl _,hF1,0,Nat.zero_le _,by simp only [ey,implies_true,reduceMul,reducePow,reduceSub,Nat.reduceBEq,reduceToNat,reduceEqDiff,reduceLT,reduceCtorEq,reduceAdd,reduceLeDiff];rfl,by simp only [ey,implies_true,reduceMul,reducePow,reduceSub,Nat.reduceBEq,reduceToNat,reduceEqDiff,reduceLT,reduceCtorEq,reduceAdd,reduceLeDiff],by simp⟩
 rintro env H' ⟨hU',hF',i,hi,e3,e1,hinv⟩
 have hb':=hU' _ _ hb
 by_cases hlt : i < LI.length
 ·obtain ⟨c,hc⟩ : ∃ c,LI[i]? = some c:=⟨_,List.getElem?_eq_getElem hlt⟩
  have hcm:=h.fI c (List.mem_of_getElem? hc)
  have hix:=idx24 h.hI hc
  simp (maxSteps:=999999) only [ey,implies_true,reduceMul,reducePow,reduceSub,Nat.reduceBEq,reduceToNat,reduceEqDiff,reduceLT,reduceCtorEq,reduceAdd,reduceLeDiff,e3,e1,hlI,lt_true hlt,hb',hix,hcm.len,hcm.tk]
  refine callStep (f76_ok hcm H' hF' _ fun H3 hU3 hF3=>?_)
  cases hr : rightV n c with
  | false=>
   have : (LI.any fun c=>!rightV n c) = true:=any_hit hc (by rw [hr];rfl)
   simp only [this,Bool.true_or,Bool.false_or,Bool.true_and,Bool.and_true,Bool.false_and,Bool.and_false,decide_true,decide_false,Bool.or_true,Bool.or_false,Bool.not_true] at hK
   simp (maxSteps:=999999) only [ey,implies_true,reduceMul,reducePow,reduceSub,Nat.reduceBEq,reduceToNat,reduceEqDiff,reduceLT,reduceCtorEq,reduceAdd,reduceLeDiff,Bool.not_false]
   exact hK _ (hU1.trans (hU'.trans hU3)) hF3
  | true=>
   simp (maxSteps:=999999) only [ey,implies_true,reduceMul,reducePow,reduceSub,Nat.reduceBEq,reduceToNat,reduceEqDiff,reduceLT,reduceCtorEq,reduceAdd,reduceLeDiff,e3,e1,Bool.not_true,wrap_succ (i:=i) (by have:=h.nI;omega)]
   exact ⟨⟨hU'.trans hU3,hF3,i + 1,hlt,rfl,any_step hc hinv (by rw [hr];rfl)⟩,by omega⟩
 have hall : (LI.any fun c=>!rightV n c) = false:=by rw [show i = LI.length by omega,List.take_length] at hinv;exact hinv
 simp only [hall,Bool.true_or,Bool.false_or,Bool.true_and,Bool.and_true,Bool.false_and,Bool.and_false,decide_true,decide_false,Bool.or_true,Bool.or_false,Bool.not_false] at hK
 simp (maxSteps:=999999) only [ey,implies_true,reduceMul,reducePow,reduceSub,Nat.reduceBEq,reduceToNat,reduceEqDiff,reduceLT,reduceCtorEq,reduceAdd,reduceLeDiff,e3,e1,hlI,lt_false hlt,hb']
 clear hinv hall hi hlt
 refine loopStep' (fun env2 H2=>Up H1 H2 ∧ Free H2 ∧ ∃ i : Nat,i ≤ LH.length ∧ env2.at (.tmp 4) = .int .i64 i ∧ env2.at (.tmp 1) = .ptr H.next 0 0 0 ∧ ((LH.take i).any fun c=>!hanV LF c) = false)
  (fun env2 H2=>match env2.at (.tmp 4) with | .int _ i=>((LH.length : Int) - i).toNat | _=>0) ?_ ?_
 ·exact ⟨hU',hF',0,Nat.zero_le _,by simp only [ey,implies_true,reduceMul,reducePow,reduceSub,Nat.reduceBEq,reduceToNat,reduceEqDiff,reduceLT,reduceCtorEq,reduceAdd,reduceLeDiff];rfl,by simp only [ey,implies_true,reduceMul,reducePow,reduceSub,Nat.reduceBEq,reduceToNat,reduceEqDiff,reduceLT,reduceCtorEq,reduceAdd,reduceLeDiff,e1],by simp⟩
 clear e3 e1 hb' hU' hF'
 rintro env H' ⟨hU',hF',i,hi,e4,e1,hinv⟩
 have hb':=hU' _ _ hb
 by_cases hlt : i < LH.length
 ·obtain ⟨c,hc⟩ : ∃ c,LH[i]? = some c:=⟨_,List.getElem?_eq_getElem hlt⟩
  have hix:=idx25 h.hH hc
  obtain ⟨k,nm,f,g,rfl⟩:=h.fH c (List.mem_of_getElem? hc)
  have hnH:=h.nH
  have hhan : hanV LF [.int .i64 k,.str nm,.int .i64 f,.int .i64 g] = ((decide (k ≥ 1) && decide (k ≤ 3)) && takes1 LF f && !((g != -1) && ((k != 3) || !takes1 LF g))):=rfl
  have hbx : ∀ xs,(HP H' xs).blk H.next = some (.row 27 4 [[vF,vG,vI,vH]] 0 0):=fun xs=>hF'.hpU xs _ _ hb'
  have bad : ∀ G,Up H' G → Free G → hanV LF [.int .i64 k,.str nm,.int .i64 f,.int .i64 g] = false → K (.bool false) G:=fun G hU hG hx=>by
   have : (LH.any fun c=>!hanV LF c) = true:=any_hit hc (by rw [hx];rfl)
   simp only [this,Bool.true_or,Bool.false_or,Bool.true_and,Bool.and_true,Bool.false_and,Bool.and_false,decide_true,decide_false,Bool.or_true,Bool.or_false,Bool.not_true] at hK
   exact hK _ (hU1.trans (hU'.trans hU)) hG
  by_cases k1 : k < 1
  ·simp (maxSteps:=999999) only [ey,implies_true,reduceMul,reducePow,reduceSub,Nat.reduceBEq,reduceToNat,reduceEqDiff,reduceLT,reduceCtorEq,reduceAdd,reduceLeDiff,e4,e1,hlH,lt_true hlt,hb',hix,hF'.at,hF'.hp,k1]
   exact bad _ (hF'.hpU _) (hF'.hpF _) (by rw [hhan];simp [show ¬ k ≥ 1 from (by omega)])
  by_cases k2 : k > 3
  ·simp (maxSteps:=999999) only [ey,implies_true,reduceMul,reducePow,reduceSub,Nat.reduceBEq,reduceToNat,reduceEqDiff,reduceLT,reduceCtorEq,reduceAdd,reduceLeDiff,e4,e1,hlH,lt_true hlt,hb',hix,hF'.at,hF'.hp,k1,k2]
   exact bad _ (hF'.hpU _) (hF'.hpF _) (by rw [hhan];simp [show ¬ k ≤ 3 from (by omega)])
  have k1' : k ≥ 1:=by omega
  have k2' : k ≤ 3:=by omega
  simp (maxSteps:=999999) only [ey,implies_true,reduceMul,reducePow,reduceSub,Nat.reduceBEq,reduceToNat,reduceEqDiff,reduceLT,reduceCtorEq,reduceAdd,reduceLeDiff,e4,e1,hlH,lt_true hlt,hb',hix,hF'.at,hF'.hp,k1,k2,hbx]
  generalize hH3 : HP H' [Blk.row 127 4 [[.int .i64 k,.str nm,.int .i64 f,.int .i64 g]] 0 0] = H3
  have hb3 : H3.blk H'.next = some (.row 127 4 [[.int .i64 k,.str nm,.int .i64 f,.int .i64 g]] 0 0):=by rw [← hH3,hp_blk0];rfl
  have hF3 : Free H3:=hH3 ▸ hF'.hpF _
  have hU3 : Up H' H3:=hH3 ▸ hF'.hpU _
  refine callStep (f80_ok h.hF h.fun h.nF (holds_cell (h.hG H)) (holds_cell (h.hI H)) (holds_cell (h.hH H)) f H3 hF3 _ fun H4 hU4 hF4=>?_)
  have hb4:=hU4 _ _ hb3
  have hbc4:=hU4 _ _ (hU3 _ _ hb')
  have hU34:=hU3.trans hU4
  cases t1 : takes1 LF f with
  | false=>
   simp (maxSteps:=999999) only [ey,implies_true,reduceMul,reducePow,reduceSub,Nat.reduceBEq,reduceToNat,reduceEqDiff,reduceLT,reduceCtorEq,reduceAdd,reduceLeDiff,Bool.not_false]
   exact bad _ hU34 hF4 (by rw [hhan,t1];simp)
  | true=>
  cases t2 : (g != -1) with
  | false=>
   simp (maxSteps:=999999) only [ey,implies_true,reduceMul,reducePow,reduceSub,Nat.reduceBEq,reduceToNat,reduceEqDiff,reduceLT,reduceCtorEq,reduceAdd,reduceLeDiff,e4,e1,Bool.not_true,hb4,t2,wrap_succ (i:=i) (by omega)]
   exact ⟨⟨hU'.trans hU34,hF4,i + 1,hlt,rfl,any_step hc hinv (by rw [hhan];simp only [k1',k2',t1,t2,Bool.true_or,Bool.false_or,Bool.true_and,Bool.and_true,Bool.false_and,Bool.and_false,decide_true,decide_false,Bool.or_true,Bool.or_false,Bool.not_false,Bool.not_true])⟩,by omega⟩
  | true=>
  cases t3 : (k != 3) with
  | true=>
   simp (maxSteps:=999999) only [ey,implies_true,reduceMul,reducePow,reduceSub,Nat.reduceBEq,reduceToNat,reduceEqDiff,reduceLT,reduceCtorEq,reduceAdd,reduceLeDiff,e4,e1,Bool.not_true,hb4,t2,t3]
   exact bad _ hU34 hF4 (by rw [hhan];simp only [k1',k2',t1,t2,t3,Bool.true_or,Bool.false_or,Bool.true_and,Bool.and_true,Bool.false_and,Bool.and_false,decide_true,decide_false,Bool.or_true,Bool.or_false,Bool.not_false,Bool.not_true])
  | false=>
  simp (maxSteps:=999999) only [ey,implies_true,reduceMul,reducePow,reduceSub,Nat.reduceBEq,reduceToNat,reduceEqDiff,reduceLT,reduceCtorEq,reduceAdd,reduceLeDiff,e4,e1,Bool.not_true,hb4,hbc4,t2,t3]
  refine callStep (f80_ok h.hF h.fun h.nF (holds_cell (h.hG H)) (holds_cell (h.hI H)) (holds_cell (h.hH H)) g H4 hF4 _ fun H5 hU5 hF5=>?_)
  have hU35:=hU34.trans hU5
  cases t4 : takes1 LF g with
  | false=>
   simp (maxSteps:=999999) only [ey,implies_true,reduceMul,reducePow,reduceSub,Nat.reduceBEq,reduceToNat,reduceEqDiff,reduceLT,reduceCtorEq,reduceAdd,reduceLeDiff,Bool.not_false]
   exact bad _ hU35 hF5 (by rw [hhan];simp only [k1',k2',t1,t2,t3,t4,Bool.true_or,Bool.false_or,Bool.true_and,Bool.and_true,Bool.false_and,Bool.and_false,decide_true,decide_false,Bool.or_true,Bool.or_false,Bool.not_false,Bool.not_true])
  | true=>
   simp (maxSteps:=999999) only [ey,implies_true,reduceMul,reducePow,reduceSub,Nat.reduceBEq,reduceToNat,reduceEqDiff,reduceLT,reduceCtorEq,reduceAdd,reduceLeDiff,e4,e1,Bool.not_true,wrap_succ (i:=i) (by omega)]
   exact ⟨⟨hU'.trans hU35,hF5,i + 1,hlt,rfl,any_step hc hinv (by rw [hhan];simp only [k1',k2',t1,t2,t3,t4,Bool.true_or,Bool.false_or,Bool.true_and,Bool.and_true,Bool.false_and,Bool.and_false,decide_true,decide_false,Bool.or_true,Bool.or_false,Bool.not_false,Bool.not_true])⟩,by omega⟩
 have hall : (LH.any fun c=>!hanV LF c) = false:=by rw [show i = LH.length by omega,List.take_length] at hinv;exact hinv
 simp only [hall,Bool.true_or,Bool.false_or,Bool.true_and,Bool.and_true,Bool.false_and,Bool.and_false,decide_true,decide_false,Bool.or_true,Bool.or_false,Bool.not_false] at hK
 simp (maxSteps:=999999) only [ey,implies_true,reduceMul,reducePow,reduceSub,Nat.reduceBEq,reduceToNat,reduceEqDiff,reduceLT,reduceCtorEq,reduceAdd,reduceLeDiff,e4,e1,hlH,lt_false hlt,hb']
 clear hinv hall hi hlt
 refine loopStep' (fun env2 H2=>Up H1 H2 ∧ Free H2 ∧ ∃ i : Nat,i ≤ LF.length ∧ env2.at (.tmp 6) = .int .i64 i ∧ env2.at (.tmp 1) = .ptr H.next 0 0 0 ∧ ((LF.take i).any fun c=>!funV n LF LG.length c) = false)
  (fun env2 H2=>match env2.at (.tmp 6) with | .int _ i=>((LF.length : Int) - i).toNat | _=>0) ?_ ?_
 ·exact ⟨hU',hF',0,Nat.zero_le _,by simp only [ey,implies_true,reduceMul,reducePow,reduceSub,Nat.reduceBEq,reduceToNat,reduceEqDiff,reduceLT,reduceCtorEq,reduceAdd,reduceLeDiff];rfl,by simp only [ey,implies_true,reduceMul,reducePow,reduceSub,Nat.reduceBEq,reduceToNat,reduceEqDiff,reduceLT,reduceCtorEq,reduceAdd,reduceLeDiff,e1],by simp⟩
 clear e4 e1 hb' hU' hF'
 rintro env H' ⟨hU',hF',i,hi,e6,e1,hinv⟩
 have hb':=hU' _ _ hb
 by_cases hlt : i < LF.length
 ·obtain ⟨c,hc⟩ : ∃ c,LF[i]? = some c:=⟨_,List.getElem?_eq_getElem hlt⟩
  have hix:=idx22 h.hF hc
  obtain ⟨nm,P',S',v',L',rfl,hv,hL,hn⟩:=h.fF c (List.mem_of_getElem? hc)
  simp (maxSteps:=999999) only [ey,implies_true,reduceMul,reducePow,reduceSub,Nat.reduceBEq,reduceToNat,reduceEqDiff,reduceLT,reduceCtorEq,reduceAdd,reduceLeDiff,e6,e1,hlF,lt_true hlt,hb']
  refine drawStep [] [0,1,2,3,4,5,6,7] _ rfl (by kernel_rfl) ?_
  simp (maxSteps:=999999) only [ey,implies_true,reduceMul,reducePow,reduceSub,Nat.reduceBEq,reduceToNat,reduceEqDiff,reduceLT,reduceCtorEq,reduceAdd,reduceLeDiff,e6,e1,hb',hix]
  refine callStep (f81_ok (h.ckc hv hL hn) H' hF' _ fun H3 hU3 hF3=>?_)
  rw [← funV_eq (nm:=nm) hv]
  cases hr : funV n LF LG.length [.str nm,.int .i64 P',.int .i64 S',v'] with
  | false=>
   have : (LF.any fun c=>!funV n LF LG.length c) = true:=any_hit hc (by rw [hr];rfl)
   simp only [this,Bool.true_or,Bool.false_or,Bool.true_and,Bool.and_true,Bool.false_and,Bool.and_false,decide_true,decide_false,Bool.or_true,Bool.or_false,Bool.not_true] at hK
   simp (maxSteps:=999999) only [ey,implies_true,reduceMul,reducePow,reduceSub,Nat.reduceBEq,reduceToNat,reduceEqDiff,reduceLT,reduceCtorEq,reduceAdd,reduceLeDiff,Bool.not_false]
   exact hK _ (hU1.trans (hU'.trans hU3)) hF3
  | true=>
   simp (maxSteps:=999999) only [ey,implies_true,reduceMul,reducePow,reduceSub,Nat.reduceBEq,reduceToNat,reduceEqDiff,reduceLT,reduceCtorEq,reduceAdd,reduceLeDiff,e6,e1,Bool.not_true,wrap_succ (i:=i) (by omega)]
   exact ⟨⟨hU'.trans hU3,hF3,i + 1,hlt,rfl,any_step hc hinv (by rw [hr];rfl)⟩,by omega⟩
 have hall : (LF.any fun c=>!funV n LF LG.length c) = false:=by rw [show i = LF.length by omega,List.take_length] at hinv;exact hinv
 simp only [hall,Bool.true_or,Bool.false_or,Bool.true_and,Bool.and_true,Bool.false_and,Bool.and_false,decide_true,decide_false,Bool.or_true,Bool.or_false,Bool.not_false] at hK
 simp (maxSteps:=999999) only [ey,implies_true,reduceMul,reducePow,reduceSub,Nat.reduceBEq,reduceToNat,reduceEqDiff,reduceLT,reduceCtorEq,reduceAdd,reduceLeDiff,e6,e1,hlF,lt_false hlt,hb']
 exact hK _ (hU1.trans hU') hF'
end Go.Proofs.T
