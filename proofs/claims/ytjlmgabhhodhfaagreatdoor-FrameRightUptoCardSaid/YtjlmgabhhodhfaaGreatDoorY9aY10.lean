import Derived.Test.YtjlmgabhhodhfaaGreatDoorY6Y7
import Derived.Test.YtjlmgabhhodhfaaGreatDoorY4
set_option linter.unusedVariables false
set_option linter.unusedSimpArgs false
set_option maxRecDepth 100000
namespace Go.Proofs.T
open Go.Ev
open Nat (reduceMul reducePow reduceSub reduceEqDiff reduceLT reduceAdd reduceLeDiff)
open UInt8 (reduceToNat)
noncomputable def funB (n : Nat) (LF : List (List AV)) (nG : Nat) (P S : Int) (L : List (List AV)) : Bool:=
 (decide (P ≥ 0) && decide (P ≤ 8)) && (decide (S ≥ P) && decide (S ≤ 100)) && (decide ((L.length : Int) ≥ 1) && decide ((L.length : Int) ≤ 10000)) && (List.range L.length).all (instrV n LF nG S L) && fineB L
theorem all_false {L : List (List AV)} {f : Nat → Bool} {i : Nat} (hi : i < L.length) (h : f i = false) : (List.range L.length).all f = false:=by
 rw [List.all_eq_false]
 exact ⟨i,List.mem_range.2 hi,by rw [h];simp⟩
theorem all_true {L : List (List AV)} {f : Nat → Bool} (h : ∀ j,j < L.length → f j = true) : (List.range L.length).all f = true:=by
 rw [List.all_eq_true]
 exact fun j hj=>h j (List.mem_range.1 hj)
theorem jmp_all {n : Nat} {LF : List (List AV)} {nG : Nat} {S : Int} {L : List (List AV)} (hL : L.length < 2 ^ 60) (h : ∀ j,j < L.length → instrV n LF nG S L j = true) : ∀ c ∈ L,JmpOk c:=by
 intro c hc
 obtain ⟨i,hi⟩:=List.getElem?_of_mem hc
 have:=jmp_of hL (h i (List.getElem?_eq_some_iff.1 hi).1)
 rw [show L.getD i [] = c by rw [List.getD_eq_getElem?_getD,hi];rfl] at this
 exact this
structure CkC (n : Nat) (vF vG v : AV) (LF LG : List (List AV)) (L : List (List AV)) : Prop where
 hF : ∀ H,Holds H 4 vF LF
 fF : ∀ c ∈ LF,FunC c
 nF : LF.length < 2 ^ 60
 hG : ∀ H,Holds H 1 vG LG
 nG : LG.length < 2 ^ 60
 hv : ∀ H,Holds H 9 v L
 fL : ∀ c ∈ L,InsT n c
 nL : L.length < 2 ^ 60
theorem CkC.ck {n : Nat} {vF vG v : AV} {LF LG : List (List AV)} {L : List (List AV)} (h : CkC n vF vG v LF LG L) {S : Int} (h0 : 0 ≤ S) (h1 : S < 2 ^ 60) : CkT n vF vG v LF LG S L:=
 ⟨h.hF,h.fF,h.nF,h.hG,h.nG,h0,h1,h.hv,h.fL,h.nL⟩
set_option maxHeartbeats 4000000 in
theorem f131_ok {vF vG vI vH v : AV} {nm : List Nat} {P S : Int} {n : Nat} {LF LG L : List (List AV)} (h : CkC n vF vG v LF LG L) (H : Heap) (hF : Free H) (K : AV → Heap → Prop) (hK : ∀ H',Up H H' → Free H' → K (.bool (funB n LF LG.length P S L)) H') : WF Tryz.prog 131 [.agg [vF,vG,vI,vH,.str nm,.int .i64 P,.int .i64 S,v]] H K:=by
 have hlv : ∀ G,evBuiltin Tryz.prog G .len #[83] [v] = some (.int .i64 L.length,G):=fun G=>(h.hv G).lenAt und83 G
 have hvc:=holds_cell (h.hv H)
 unfold funB at hK
 refine WF_body Tryz.func131 (by kernel_rfl) rfl Tryz.ntmps131 (by rw [Tryz.results131]) (of_decide_eq_true (by kernel_rfl)) ?_
 simp (maxSteps:=999999) only [ey,Nat.reduceBEq,reduceEqDiff,reduceLT,reduceCtorEq,reduceAdd,reduceLeDiff,hF.at,hF.hp,hvc]
 generalize hH1 : HP H [Blk.row 182 8 [[vF,vG,vI,vH,.str nm,.int .i64 P,.int .i64 S,v]] 0 0,Blk.row 85 4 [[.str nm,.int .i64 P,.int .i64 S,v]] 0 0] = H1
 have hb0 : H1.blk H.next = some (.row 182 8 [[vF,vG,vI,vH,.str nm,.int .i64 P,.int .i64 S,v]] 0 0):=by rw [← hH1,hp_blk0];rfl
 have hb1 : H1.blk (H.next + 1) = some (.row 85 4 [[.str nm,.int .i64 P,.int .i64 S,v]] 0 0):=by rw [← hH1,hp_blk];rfl
 have hF1 : Free H1:=hH1 ▸ hF.hpF _
 have hU1 : Up H H1:=hH1 ▸ hF.hpU _
 refine callStep (f125_ok P 0 8 H1 hF1 _ ?_)
 cases h1 : (decide (P ≥ 0) && decide (P ≤ 8)) with
 | false=>
  simp only [h1,Bool.true_or,Bool.false_or,Bool.true_and,Bool.and_true,Bool.false_and,Bool.and_false,decide_true,decide_false,Bool.or_true,Bool.or_false] at hK
  simp (maxSteps:=999999) only [ey,Nat.reduceBEq,reduceEqDiff,reduceLT,reduceCtorEq,reduceAdd,reduceLeDiff,Bool.not_false]
  exact hK _ hU1 hF1
 | true=>
 simp (maxSteps:=999999) only [ey,Nat.reduceBEq,reduceEqDiff,reduceLT,reduceCtorEq,reduceAdd,reduceLeDiff,hb0,hb1,Bool.not_true]
 refine callStep (f125_ok S P 100 H1 hF1 _ ?_)
 cases h2 : (decide (S ≥ P) && decide (S ≤ 100)) with
 | false=>
  simp only [h1,h2,Bool.true_or,Bool.false_or,Bool.true_and,Bool.and_true,Bool.false_and,Bool.and_false,decide_true,decide_false,Bool.or_true,Bool.or_false] at hK
  simp (maxSteps:=999999) only [ey,Nat.reduceBEq,reduceEqDiff,reduceLT,reduceCtorEq,reduceAdd,reduceLeDiff,Bool.not_false]
  exact hK _ hU1 hF1
 | true=>
 simp (maxSteps:=999999) only [ey,Nat.reduceBEq,reduceEqDiff,reduceLT,reduceCtorEq,reduceAdd,reduceLeDiff,hb0,hb1,Bool.not_true,hlv]
 refine callStep (f125_ok L.length 1 10000 H1 hF1 _ ?_)
 cases h3 : (decide ((L.length : Int) ≥ 1) && decide ((L.length : Int) ≤ 10000)) with
 | false=>
  simp only [h1,h2,h3,Bool.true_or,Bool.false_or,Bool.true_and,Bool.and_true,Bool.false_and,Bool.and_false,decide_true,decide_false,Bool.or_true,Bool.or_false] at hK
  simp (maxSteps:=999999) only [ey,Nat.reduceBEq,reduceEqDiff,reduceLT,reduceCtorEq,reduceAdd,reduceLeDiff,Bool.not_false]
  exact hK _ hU1 hF1
 | true=>
 simp only [h1,h2,h3,Bool.true_or,Bool.false_or,Bool.true_and,Bool.and_true,Bool.false_and,Bool.and_false,decide_true,decide_false,Bool.or_true,Bool.or_false] at hK
 simp only [Bool.and_eq_true,decide_eq_true_eq] at h1 h2 h3
 have hck:=h.ck (S:=S) (by omega) (by omega)
 simp (maxSteps:=999999) only [ey,Nat.reduceBEq,reduceEqDiff,reduceLT,reduceCtorEq,reduceAdd,reduceLeDiff,hb0,hb1,Bool.not_true,hlv]
 refine loopStep' (fun env H'=>Up H1 H' ∧ Free H' ∧ ∃ i : Nat,i ≤ L.length ∧ env.at (.tmp 30) = .int .i64 i ∧ env.at (.tmp 29) = .int .i64 L.length ∧ env.at (.tmp 28) = v ∧ env.at (.tmp 1) = .ptr H.next 0 0 0 ∧ env.at (.tmp 3) = .ptr (H.next + 1) 0 0 0 ∧ ∀ j,j < i → instrV n LF LG.length S L j = true)
  (fun env H'=>match env.at (.tmp 30) with | .int _ i=>((L.length : Int) - i).toNat | _=>0) ?_ ?_
 ·exact ⟨Up.refl _,hF1,0,Nat.zero_le _,by simp only [ey,Nat.reduceBEq,reduceEqDiff,reduceLT,reduceCtorEq,reduceAdd,reduceLeDiff];rfl,by simp only [ey,Nat.reduceBEq,reduceEqDiff,reduceLT,reduceCtorEq,reduceAdd,reduceLeDiff],by simp only [ey,Nat.reduceBEq,reduceEqDiff,reduceLT,reduceCtorEq,reduceAdd,reduceLeDiff],by simp only [ey,Nat.reduceBEq,reduceEqDiff,reduceLT,reduceCtorEq,reduceAdd,reduceLeDiff],by simp only [ey,Nat.reduceBEq,reduceEqDiff,reduceLT,reduceCtorEq,reduceAdd,reduceLeDiff],fun j hj=>by omega⟩
 ·rintro env H' ⟨hU',hF',i,hi,e30,e29,e28,e1,e3,hinv⟩
  by_cases hlt : i < L.length
  ·obtain ⟨c,hc⟩ : ∃ c,L[i]? = some c:=⟨_,List.getElem?_eq_getElem hlt⟩
   have hgd : L.getD i [] = c:=by rw [List.getD_eq_getElem?_getD,hc];rfl
   have hix:=idx83 h.hv hc
   have hcm:=h.fL c (List.mem_of_getElem? hc)
   have hcc:=hcm.cells
   obtain ⟨op,a,b,t,V,rfl,hV⟩:=hcm
   obtain ⟨c0,c1,c2,c3,c4,rfl⟩:=five hV.len
   have hVc:=hV.cells
   simp only [List.all_cons,List.all_nil,Bool.and_true,Bool.and_eq_true] at hVc
   obtain ⟨i0,i1,i2,i3,i4⟩:=hVc
   simp only [List.cons_append,List.nil_append] at hc hgd hix
   have hb0':=hU' _ _ hb0
   have hbx : ∀ xs,(HP H' xs).blk H.next = some (.row 182 8 [[vF,vG,vI,vH,.str nm,.int .i64 P,.int .i64 S,v]] 0 0):=fun xs=>hF'.hpU xs _ _ hb0'
   have hin : instrV n LF LG.length S L i = insV n LF LG.length S L i [.int .i64 op,.int .i64 a,.int .i64 b,.str t,c0,c1,c2,c3,c4]:=by unfold instrV insV;rw [hgd]
   simp (maxSteps:=999999) only [ey,Nat.reduceBEq,reduceEqDiff,reduceLT,reduceCtorEq,reduceAdd,reduceLeDiff,e30,e29,e28,e1,e3,lt_true hlt,hix,i0,i1,i2,i3,i4,hF'.at,hF'.hp,hbx]
   refine callStep (f227_ok hck i hlt op a b t c0 c1 c2 c3 c4 hV _ (hF'.hpF _) _ fun H3 hU3 hF3=>?_)
   rw [← hin]
   have hU3':=hU'.trans ((hF'.hpU _).trans hU3)
   cases hb : instrV n LF LG.length S L i with
   | false=>
    rw [all_false hlt hb] at hK
    simp only [Bool.true_or,Bool.false_or,Bool.true_and,Bool.and_true,Bool.false_and,Bool.and_false,decide_true,decide_false,Bool.or_true,Bool.or_false] at hK
    simp (maxSteps:=999999) only [ey,Nat.reduceBEq,reduceEqDiff,reduceLT,reduceCtorEq,reduceAdd,reduceLeDiff,Bool.not_false]
    exact hK _ (hU1.trans hU3') hF3
   | true=>
    simp (maxSteps:=999999) only [ey,Nat.reduceBEq,reduceEqDiff,reduceLT,reduceCtorEq,reduceAdd,reduceLeDiff,e30,e29,e28,e1,e3,Bool.not_true,wrap_succ (i:=i) (by omega)]
    refine ⟨⟨hU3',hF3,i + 1,hlt,rfl,fun j hj=>?_⟩,by omega⟩
    by_cases hj2 : j < i
    ·exact hinv j hj2
    ·obtain rfl : j = i:=by omega
     exact hb
  ·have hall : ∀ j,j < L.length → instrV n LF LG.length S L j = true:=fun j hj=>hinv j (by omega)
   rw [all_true hall] at hK
   simp only [Bool.true_or,Bool.false_or,Bool.true_and,Bool.and_true,Bool.false_and,Bool.and_false,decide_true,decide_false,Bool.or_true,Bool.or_false] at hK
   simp (maxSteps:=999999) only [ey,Nat.reduceBEq,reduceEqDiff,reduceLT,reduceCtorEq,reduceAdd,reduceLeDiff,e30,e29,e28,e1,e3,lt_false hlt,hU' _ _ hb1]
   refine callStep (f228_ok h.hv h.fL (jmp_all h.nL hall) (by omega) (by omega) H' hF' _ fun H3 hU3 hF3=>?_)
   simp (maxSteps:=999999) only [ey,Nat.reduceBEq,reduceEqDiff,reduceLT,reduceCtorEq,reduceAdd,reduceLeDiff]
   exact hK _ (hU1.trans (hU'.trans hU3)) hF3
def hanB (LF : List (List AV)) (k f g : Int) : Bool:=(decide (k ≥ 1) && decide (k ≤ 3)) && takes1 LF f && !((g != -1) && ((k != 3) || !takes1 LF g))
def intC (c : List AV) (i : Nat) : Int:=match c.getD i .undef with | .int _ k=>k | _=>0
def hanV (LF : List (List AV)) (c : List AV) : Bool:=hanB LF (intC c 0) (intC c 2) (intC c 3)
noncomputable def funV (n : Nat) (LF : List (List AV)) (nG : Nat) (c : List AV) : Bool:=funB n LF nG (intC c 1) (intC c 2) (itm (c.getD 3 .undef))
structure CodT (n : Nat) (vF vG vI vH : AV) (LF LG LI LH : List (List AV)) : Prop where
 hF : ∀ H,Holds H 4 vF LF
 fF : ∀ c ∈ LF,∃ (nm : List Nat) (P S : Int) (v : AV) (L : List (List AV)),c = [.str nm,.int .i64 P,.int .i64 S,v] ∧ (∀ H,Holds H 9 v L) ∧ (∀ x ∈ L,InsT n x) ∧ L.length < 2 ^ 60
 nF : LF.length < 2 ^ 60
 hG : ∀ H,Holds H 1 vG LG
 nG : LG.length < 2 ^ 60
 hI : ∀ H,Holds H 5 vI LI
 fI : ∀ c ∈ LI,VT n c
 nI : LI.length < 2 ^ 60
 hH : ∀ H,Holds H 4 vH LH
 fH : ∀ c ∈ LH,∃ (k : Int) (nm : List Nat) (f g : Int),c = [.int .i64 k,.str nm,.int .i64 f,.int .i64 g]
 nH : LH.length < 2 ^ 60
theorem CodT.fun {n : Nat} {vF vG vI vH : AV} {LF LG LI LH : List (List AV)} (h : CodT n vF vG vI vH LF LG LI LH) : ∀ c ∈ LF,FunC c:=fun c hc=>by
 obtain ⟨nm,P,S,v,L,e,_⟩:=h.fF c hc
 exact ⟨nm,P,S,v,e⟩
theorem CodT.ckc {n : Nat} {vF vG vI vH : AV} {LF LG LI LH : List (List AV)} (h : CodT n vF vG vI vH LF LG LI LH) {v : AV} {L : List (List AV)} (h1 : ∀ H,Holds H 9 v L) (h2 : ∀ x ∈ L,InsT n x) (h3 : L.length < 2 ^ 60) : CkC n vF vG v LF LG L:=
 ⟨h.hF,h.fun,h.nF,h.hG,h.nG,h1,h2,h3⟩
noncomputable def rightC (n : Nat) (LF LG LI LH : List (List AV)) : Bool:=
 (decide ((LF.length : Int) ≥ 1) && decide ((LF.length : Int) ≤ 200)) && decide (intC (LF.getD 0 []) 1 ≤ 1) && decide ((LG.length : Int) ≤ 50) && ((LI.length : Int) == (LG.length : Int)) && !(LI.any fun c=>!rightV n c) && !(LH.any fun c=>!hanV LF c) && !(LF.any fun c=>!funV n LF LG.length c)

theorem f225_ok {n : Nat} {vF vG vI vH : AV} {LF LG LI LH : List (List AV)} (h : CodT n vF vG vI vH LF LG LI LH) (k : Int) (nm : List Nat) (f g : Int) (b0 b1 : Nat) (H : Heap) (hb0 : H.blk b0 = some (.row 27 4 [[vF,vG,vI,vH]] 0 0)) (hb1 : H.blk b1 = some (.row 208 1 [[.func (.func 223) [] [.ptr b0 0 0 0]]] 0 0)) (hF : Free H) (K : AV → Heap → Prop) (hK : ∀ H',Up H H' → Free H' → K (.bool (!hanB LF k f g)) H') : WF Tryz.prog 225 [.agg [.int .i64 k,.str nm,.int .i64 f,.int .i64 g],.ptr b1 0 0 0] H K:=by
 unfold hanB at hK
 refine WF_body Tryz.func225 (by kernel_rfl) rfl Tryz.ntmps225 (by rw [Tryz.results225]) (of_decide_eq_true (by kernel_rfl)) ?_
 simp (maxSteps:=999999) only [ey,implies_true,reduceMul,reducePow,reduceSub,Nat.reduceBEq,reduceToNat,reduceEqDiff,reduceLT,reduceCtorEq,reduceAdd,reduceLeDiff,hF.at,hF.hp]
 generalize hH1 : HP H [Blk.row 127 4 [[.int .i64 k,.str nm,.int .i64 f,.int .i64 g]] 0 0] = H1
 have hb : H1.blk H.next = some (.row 127 4 [[.int .i64 k,.str nm,.int .i64 f,.int .i64 g]] 0 0):=by rw [← hH1,hp_blk0];rfl
 have hF1 : Free H1:=hH1 ▸ hF.hpF _
 have hU1 : Up H H1:=hH1 ▸ hF.hpU _
 have c0:=hU1 _ _ hb0
 have c1:=hU1 _ _ hb1
 refine callStep (f125_ok k 1 3 H1 hF1 _ ?_)
 cases h1 : (decide (k ≥ 1) && decide (k ≤ 3)) with
 | false=>
  simp only [h1,Bool.true_or,Bool.false_or,Bool.true_and,Bool.and_true,Bool.false_and,Bool.and_false,decide_true,decide_false,Bool.or_true,Bool.or_false,Bool.not_false] at hK
  simp (maxSteps:=999999) only [ey,implies_true,reduceMul,reducePow,reduceSub,Nat.reduceBEq,reduceToNat,reduceEqDiff,reduceLT,reduceCtorEq,reduceAdd,reduceLeDiff,Bool.not_false]
  exact hK _ hU1 hF1
 | true=>
 simp (maxSteps:=999999) only [ey,implies_true,reduceMul,reducePow,reduceSub,Nat.reduceBEq,reduceToNat,reduceEqDiff,reduceLT,reduceCtorEq,reduceAdd,reduceLeDiff,hb,c1,Bool.not_true]
 refine callStep (f223_ok h.hF h.fun h.nF f b0 H1 c0 hF1 _ ?_)
 cases h2 : takes1 LF f with
 | false=>
  simp only [h1,h2,Bool.true_or,Bool.false_or,Bool.true_and,Bool.and_true,Bool.false_and,Bool.and_false,decide_true,decide_false,Bool.or_true,Bool.or_false,Bool.not_false] at hK
  simp (maxSteps:=999999) only [ey,implies_true,reduceMul,reducePow,reduceSub,Nat.reduceBEq,reduceToNat,reduceEqDiff,reduceLT,reduceCtorEq,reduceAdd,reduceLeDiff,Bool.not_false]
  exact hK _ hU1 hF1
 | true=>
 simp only [h1,h2,Bool.true_or,Bool.false_or,Bool.true_and,Bool.and_true,Bool.false_and,Bool.and_false,decide_true,decide_false,Bool.or_true,Bool.or_false] at hK
 cases h3 : (g != -1) with
 | false=>
  simp only [h3,Bool.true_or,Bool.false_or,Bool.true_and,Bool.and_true,Bool.false_and,Bool.and_false,decide_true,decide_false,Bool.or_true,Bool.or_false,Bool.not_false,Bool.not_true] at hK
  simp (maxSteps:=999999) only [ey,implies_true,reduceMul,reducePow,reduceSub,Nat.reduceBEq,reduceToNat,reduceEqDiff,reduceLT,reduceCtorEq,reduceAdd,reduceLeDiff,hb,Bool.not_true,h3]
  exact hK _ hU1 hF1
 | true=>
 cases h4 : (k != 3) with
 | true=>
  simp only [h3,h4,Bool.true_or,Bool.false_or,Bool.true_and,Bool.and_true,Bool.false_and,Bool.and_false,decide_true,decide_false,Bool.or_true,Bool.or_false,Bool.not_false,Bool.not_true] at hK
  simp (maxSteps:=999999) only [ey,implies_true,reduceMul,reducePow,reduceSub,Nat.reduceBEq,reduceToNat,reduceEqDiff,reduceLT,reduceCtorEq,reduceAdd,reduceLeDiff,hb,Bool.not_true,h3,h4]
  exact hK _ hU1 hF1
 | false=>
 simp only [h3,h4,Bool.true_or,Bool.false_or,Bool.true_and,Bool.and_true,Bool.false_and,Bool.and_false,decide_true,decide_false,Bool.or_true,Bool.or_false,Bool.not_not] at hK
 simp (maxSteps:=999999) only [ey,implies_true,reduceMul,reducePow,reduceSub,Nat.reduceBEq,reduceToNat,reduceEqDiff,reduceLT,reduceCtorEq,reduceAdd,reduceLeDiff,hb,c1,Bool.not_true,h3,h4]
 refine callStep (f223_ok h.hF h.fun h.nF g b0 H1 c0 hF1 _ ?_)
 simp (maxSteps:=999999) only [ey,implies_true,reduceMul,reducePow,reduceSub,Nat.reduceBEq,reduceToNat,reduceEqDiff,reduceLT,reduceCtorEq,reduceAdd,reduceLeDiff]
 exact hK _ hU1 hF1
theorem f128_ok {n : Nat} {vF vG vI vH : AV} {LF LG LI LH : List (List AV)} (h : CodT n vF vG vI vH LF LG LI LH) (H : Heap) (hF : Free H) (K : AV → Heap → Prop) (hK : ∀ H',Up H H' → Free H' → K (.bool (!(LH.any fun c=>!hanV LF c))) H') : WF Tryz.prog 128 [.agg [vF,vG,vI,vH]] H K:=by
 refine WF_body Tryz.func128 (by kernel_rfl) rfl Tryz.ntmps128 (by rw [Tryz.results128]) (of_decide_eq_true (by kernel_rfl)) ?_
 simp (maxSteps:=999999) only [gx,fx2,fx3,implies_true,reduceMul,reducePow,reduceSub,Nat.reduceBEq,reduceToNat,reduceEqDiff,reduceLT,reduceCtorEq,reduceAdd,reduceLeDiff,hF.at,hF.hp,show ∀ a b c,(AV.func a b c).isCell = true from fun _ _ _=>rfl]
 generalize hH1 : HP H [Blk.row 27 4 [[vF,vG,vI,vH]] 0 0,Blk.row 208 1 [[.func (.func 223) [] [.ptr H.next 0 0 0]]] 0 0] = H1
 have hb0 : H1.blk H.next = some (.row 27 4 [[vF,vG,vI,vH]] 0 0):=by rw [← hH1,hp_blk0];rfl
 have hb1 : H1.blk (H.next + 1) = some (.row 208 1 [[.func (.func 223) [] [.ptr H.next 0 0 0]]] 0 0):=by rw [← hH1,hp_blk];rfl
 have hF1 : Free H1:=hH1 ▸ hF.hpF _
 have hU1 : Up H H1:=hH1 ▸ hF.hpU _
 have hl : ∀ c ∈ LH,c.length = 4:=fun c hc=>by obtain ⟨k,nm,f,g,rfl⟩:=h.fH c hc;rfl
 refine callStep (f224_ok h.hH h.nH hl (fun c=>!hanV LF c) 225 [] [.ptr (H.next + 1) 0 0 0] H1 hF1 (fun c hc G hU hG K hK=>?_) _ fun H2 hU2 hF2=>?_)
 ·obtain ⟨k,nm,f,g,rfl⟩:=h.fH c hc
  exact f225_ok h k nm f g _ _ G (hU _ _ hb0) (hU _ _ hb1) hG K hK
 ·simp (maxSteps:=999999) only [ey,implies_true,reduceMul,reducePow,reduceSub,Nat.reduceBEq,reduceToNat,reduceEqDiff,reduceLT,reduceCtorEq,reduceAdd,reduceLeDiff]
  exact hK _ (hU1.trans hU2) hF2
theorem f127_ok {n : Nat} {c : List AV} (h : VT n c) (H : Heap) (hF : Free H) (K : AV → Heap → Prop) (hK : ∀ H',Up H H' → Free H' → K (.bool (!rightV n c)) H') : WF Tryz.prog 127 [.agg c] H K:=by
 refine WF_body Tryz.func127 (by kernel_rfl) rfl Tryz.ntmps127 (by rw [Tryz.results127]) (of_decide_eq_true (by kernel_rfl)) ?_
 simp (maxSteps:=999999) only [gx,fx2,fx3,implies_true,reduceMul,reducePow,reduceSub,Nat.reduceBEq,reduceToNat,reduceEqDiff,reduceLT,reduceCtorEq,reduceAdd,reduceLeDiff,hF.at,hF.hp,h.len,h.tk]
 refine callStep (f73_ok h _ (hF.hpF _) _ fun H2 hU2 hF2=>?_)
 simp (maxSteps:=999999) only [gx,fx2,fx3,implies_true,reduceMul,reducePow,reduceSub,Nat.reduceBEq,reduceToNat,reduceEqDiff,reduceLT,reduceCtorEq,reduceAdd,reduceLeDiff]
 exact hK _ ((hF.hpU _).trans hU2) hF2
theorem spl8a (a0 a1 a2 a3 a4 a5 a6 a7 b0 b1 b2 b3 : AV) : splice [a0,a1,a2,a3,a4,a5,a6,a7] 0 [b0,b1,b2,b3] = [b0,b1,b2,b3,a4,a5,a6,a7]:=rfl
theorem spl8b (a0 a1 a2 a3 a4 a5 a6 a7 b0 b1 b2 b3 : AV) : splice [a0,a1,a2,a3,a4,a5,a6,a7] 4 [b0,b1,b2,b3] = [a0,a1,a2,a3,b0,b1,b2,b3]:=rfl
theorem f130_ok {n : Nat} {vF vG vI vH v : AV} {nm : List Nat} {P S : Int} {LF LG LI LH L : List (List AV)} (h : CkC n vF vG v LF LG L) (xF : AV.isCell vF = true) (xG : AV.isCell vG = true) (xI : AV.isCell vI = true) (xH : AV.isCell vH = true) (b : Nat) (H : Heap) (hb : H.blk b = some (.row 27 4 [[vF,vG,vI,vH]] 0 0)) (hF : Free H) (K : AV → Heap → Prop) (hK : ∀ H',Up H H' → Free H' → K (.bool (!funB n LF LG.length P S L)) H') : WF Tryz.prog 130 [.agg [.str nm,.int .i64 P,.int .i64 S,v],.ptr b 0 0 0] H K:=by
 have hbx : ∀ xs,(HP H xs).blk b = some (.row 27 4 [[vF,vG,vI,vH]] 0 0):=fun xs=>hF.hpU xs _ _ hb
 refine WF_body Tryz.func130 (by kernel_rfl) rfl Tryz.ntmps130 (by rw [Tryz.results130]) (of_decide_eq_true (by kernel_rfl)) ?_
 simp (maxSteps:=999999) only [ey,implies_true,reduceMul,reducePow,reduceSub,Nat.reduceBEq,reduceToNat,reduceEqDiff,reduceLT,reduceCtorEq,reduceAdd,reduceLeDiff,hF.at,hF.hp,hbx,spl8a,spl8b,List.length_cons,List.length_nil]
 refine callStep (f131_ok h _ (hF.hpF _) _ fun H2 hU2 hF2=>?_)
 simp (maxSteps:=999999) only [ey,implies_true,reduceMul,reducePow,reduceSub,Nat.reduceBEq,reduceToNat,reduceEqDiff,reduceLT,reduceCtorEq,reduceAdd,reduceLeDiff]
 exact hK _ ((hF.hpU _).trans hU2) hF2
theorem funV_eq {n : Nat} {LF : List (List AV)} {nG : Nat} {nm : List Nat} {P S : Int} {v : AV} {L : List (List AV)} (hv : ∀ H,Holds H 9 v L) : funV n LF nG [.str nm,.int .i64 P,.int .i64 S,v] = funB n LF nG P S L:=by
 unfold funV
 show funB n LF nG P S (itm v) = _
 rw [itm_eq hv]
set_option maxHeartbeats 4000000 in
theorem f60_ok {n : Nat} {vF vG vI vH : AV} {LF LG LI LH : List (List AV)} (h : CodT n vF vG vI vH LF LG LI LH) (H : Heap) (hF : Free H) (K : AV → Heap → Prop) (hK : ∀ H',Up H H' → Free H' → K (.bool (rightC n LF LG LI LH)) H') : WF Tryz.prog 60 [.agg [vF,vG,vI,vH]] H K:=by
 have hlF : ∀ G,evBuiltin Tryz.prog G .len #[22] [vF] = some (.int .i64 LF.length,G):=fun G=>(h.hF G).lenAt und22 G
 have hlG : ∀ G,evBuiltin Tryz.prog G .len #[23] [vG] = some (.int .i64 LG.length,G):=fun G=>(h.hG G).lenAt und23 G
 have hlI : ∀ G,evBuiltin Tryz.prog G .len #[24] [vI] = some (.int .i64 LI.length,G):=fun G=>(h.hI G).lenAt und24 G
 unfold rightC at hK
 refine WF_body Tryz.func60 (by kernel_rfl) rfl Tryz.ntmps60 (by rw [Tryz.results60]) (of_decide_eq_true (by kernel_rfl)) ?_
 simp (maxSteps:=999999) only [ey,implies_true,reduceMul,reducePow,reduceSub,Nat.reduceBEq,reduceToNat,reduceEqDiff,reduceLT,reduceCtorEq,reduceAdd,reduceLeDiff,hF.at,hF.hp,hlF]
 generalize hH1 : HP H [Blk.row 27 4 [[vF,vG,vI,vH]] 0 0] = H1
 have hb : H1.blk H.next = some (.row 27 4 [[vF,vG,vI,vH]] 0 0):=by rw [← hH1,hp_blk0];rfl
 have hF1 : Free H1:=hH1 ▸ hF.hpF _
 have hU1 : Up H H1:=hH1 ▸ hF.hpU _
 refine callStep (f125_ok LF.length 1 200 H1 hF1 _ ?_)
 cases h1 : (decide ((LF.length : Int) ≥ 1) && decide ((LF.length : Int) ≤ 200)) with
 | false=>
  simp only [h1,Bool.true_or,Bool.false_or,Bool.true_and,Bool.and_true,Bool.false_and,Bool.and_false,decide_true,decide_false,Bool.or_true,Bool.or_false] at hK
  simp (maxSteps:=999999) only [ey,implies_true,reduceMul,reducePow,reduceSub,Nat.reduceBEq,reduceToNat,reduceEqDiff,reduceLT,reduceCtorEq,reduceAdd,reduceLeDiff,Bool.not_false]
  exact hK _ hU1 hF1
 | true=>
 have h1':=h1
 simp only [Bool.and_eq_true,decide_eq_true_eq] at h1'
 obtain ⟨c,hc⟩ : ∃ c,LF[0]? = some c:=⟨_,List.getElem?_eq_getElem (by omega)⟩
 have hgd : LF.getD 0 [] = c:=by rw [List.getD_eq_getElem?_getD,hc];rfl
 have hix : ∀ G,evIndexAddr Tryz.prog G 22 vF (.int .i64 0) = some (.iptr c 0):=fun G=>idx22 (i:=0) h.hF hc G
 obtain ⟨nm,P,S,v,L,rfl,hv,hL,hn⟩:=h.fF c (List.mem_of_getElem? hc)
 have hP : intC (LF.getD 0 []) 1 = P:=by rw [hgd];rfl
 rw [hP] at hK
 by_cases h2 : P > 1
 ·have h2' : ¬ P ≤ 1:=by omega
  simp only [h1,h2',Bool.true_or,Bool.false_or,Bool.true_and,Bool.and_true,Bool.false_and,Bool.and_false,decide_true,decide_false,Bool.or_true,Bool.or_false] at hK
  simp (maxSteps:=999999) only [ey,implies_true,reduceMul,reducePow,reduceSub,Nat.reduceBEq,reduceToNat,reduceEqDiff,reduceLT,reduceCtorEq,reduceAdd,reduceLeDiff,hb,Bool.not_true,hix,h2]
  exact hK _ hU1 hF1
 have h2' : P ≤ 1:=by omega
 by_cases h3 : (LG.length : Int) > 50
 ·have h3' : ¬ (LG.length : Int) ≤ 50:=by omega
  simp only [h1,h2',h3',Bool.true_or,Bool.false_or,Bool.true_and,Bool.and_true,Bool.false_and,Bool.and_false,decide_true,decide_false,Bool.or_true,Bool.or_false] at hK
  simp (maxSteps:=999999) only [ey,implies_true,reduceMul,reducePow,reduceSub,Nat.reduceBEq,reduceToNat,reduceEqDiff,reduceLT,reduceCtorEq,reduceAdd,reduceLeDiff,hb,Bool.not_true,hix,h2,hlG,h3]
  exact hK _ hU1 hF1
 have h3' : (LG.length : Int) ≤ 50:=by omega
 cases h4 : ((LI.length : Int) == (LG.length : Int)) with
 | false=>
  have h4n : ((LI.length : Int) != (LG.length : Int)) = true:=by rw [bne,h4];rfl
  simp only [h1,h2',h3',h4,Bool.true_or,Bool.false_or,Bool.true_and,Bool.and_true,Bool.false_and,Bool.and_false,decide_true,decide_false,Bool.or_true,Bool.or_false] at hK
  simp (maxSteps:=999999) only [ey,implies_true,reduceMul,reducePow,reduceSub,Nat.reduceBEq,reduceToNat,reduceEqDiff,reduceLT,reduceCtorEq,reduceAdd,reduceLeDiff,hb,Bool.not_true,hix,h2,hlG,h3,hlI,h4n]
  exact hK _ hU1 hF1
 | true=>
 have h4n : ((LI.length : Int) != (LG.length : Int)) = false:=by rw [bne,h4];rfl
 simp only [h1,h2',h3',h4,Bool.true_or,Bool.false_or,Bool.true_and,Bool.and_true,Bool.false_and,Bool.and_false,decide_true,decide_false,Bool.or_true,Bool.or_false] at hK
 simp (maxSteps:=999999) only [ey,implies_true,reduceMul,reducePow,reduceSub,Nat.reduceBEq,reduceToNat,reduceEqDiff,reduceLT,reduceCtorEq,reduceAdd,reduceLeDiff,hb,Bool.not_true,hix,h2,hlG,h3,hlI,h4n]
 refine callStep (f126_ok h.hI h.nI (fun c hc=>(h.fI c hc).len) (fun c=>!rightV n c) 127 [] [] H1 hF1 (fun c hc G hU hG K hK=>f127_ok (h.fI c hc) G hG K hK) _ fun H2 hU2 hF2=>?_)
 have hb2:=hU2 _ _ hb
 cases h5 : LI.any fun c=>!rightV n c with
 | true=>
  simp only [h5,Bool.true_or,Bool.false_or,Bool.true_and,Bool.and_true,Bool.false_and,Bool.and_false,decide_true,decide_false,Bool.or_true,Bool.or_false,Bool.not_true] at hK
  simp (maxSteps:=999999) only [ey,implies_true,reduceMul,reducePow,reduceSub,Nat.reduceBEq,reduceToNat,reduceEqDiff,reduceLT,reduceCtorEq,reduceAdd,reduceLeDiff]
  exact hK _ (hU1.trans hU2) hF2
 | false=>
 simp only [h5,Bool.true_or,Bool.false_or,Bool.true_and,Bool.and_true,Bool.false_and,Bool.and_false,decide_true,decide_false,Bool.or_true,Bool.or_false,Bool.not_false] at hK
 simp (maxSteps:=999999) only [ey,implies_true,reduceMul,reducePow,reduceSub,Nat.reduceBEq,reduceToNat,reduceEqDiff,reduceLT,reduceCtorEq,reduceAdd,reduceLeDiff,hb2]
 refine callStep (f128_ok h H2 hF2 _ fun H3 hU3 hF3=>?_)
 have hb3:=hU3 _ _ hb2
 cases h6 : LH.any fun c=>!hanV LF c with
 | true=>
  simp only [h6,Bool.true_or,Bool.false_or,Bool.true_and,Bool.and_true,Bool.false_and,Bool.and_false,decide_true,decide_false,Bool.or_true,Bool.or_false,Bool.not_true] at hK
  simp (maxSteps:=999999) only [ey,implies_true,reduceMul,reducePow,reduceSub,Nat.reduceBEq,reduceToNat,reduceEqDiff,reduceLT,reduceCtorEq,reduceAdd,reduceLeDiff,Bool.not_true,Bool.not_false]
  exact hK _ (hU1.trans (hU2.trans hU3)) hF3
 | false=>
 simp only [h6,Bool.true_or,Bool.false_or,Bool.true_and,Bool.and_true,Bool.false_and,Bool.and_false,decide_true,decide_false,Bool.or_true,Bool.or_false,Bool.not_false] at hK
 simp (maxSteps:=999999) only [ey,implies_true,reduceMul,reducePow,reduceSub,Nat.reduceBEq,reduceToNat,reduceEqDiff,reduceLT,reduceCtorEq,reduceAdd,reduceLeDiff,hb3,Bool.not_true,Bool.not_false]
 have hl : ∀ c ∈ LF,c.length = 4:=fun c hc=>by obtain ⟨nm,P,S,v,L,rfl,_⟩:=h.fF c hc;rfl
 refine callStep (f129_ok h.hF h.nF hl (fun c=>!funV n LF LG.length c) 130 [] [.ptr H.next 0 0 0] H3 hF3 (fun c hc G hU hG K hK=>?_) _ fun H4 hU4 hF4=>?_)
 ·obtain ⟨nm,P,S,v,L,rfl,hv,hL,hn⟩:=h.fF c hc
  rw [funV_eq hv] at hK
  exact f130_ok (LI:=LI) (LH:=LH) (h.ckc hv hL hn) (holds_cell (h.hF H)) (holds_cell (h.hG H)) (holds_cell (h.hI H)) (holds_cell (h.hH H)) _ G (hU _ _ hb3) hG K hK
 ·simp (maxSteps:=999999) only [ey,implies_true,reduceMul,reducePow,reduceSub,Nat.reduceBEq,reduceToNat,reduceEqDiff,reduceLT,reduceCtorEq,reduceAdd,reduceLeDiff]
  exact hK _ (hU1.trans (hU2.trans (hU3.trans hU4))) hF4
end Go.Proofs.T
