import Derived.Test.YtjlmgabhhodhfaaGreatDoorX8Y2
set_option linter.unusedVariables false
set_option linter.unusedSimpArgs false
set_option maxRecDepth 100000
namespace Go.Proofs.T
open Go.Ev
open Nat (reduceMul reducePow reduceSub reduceEqDiff reduceLT reduceAdd reduceLeDiff)
open UInt8 (reduceToNat)
structure CkT (n : Nat) (vF vG v : AV) (LF LG : List (List AV)) (S : Int) (L : List (List AV)) : Prop where
 hF : ∀ H,Holds H 4 vF LF
 fF : ∀ c ∈ LF,FunC c
 nF : LF.length < 2 ^ 60
 hG : ∀ H,Holds H 1 vG LG
 nG : LG.length < 2 ^ 60
 s0 : 0 ≤ S
 s1 : S < 2 ^ 60
 hv : ∀ H,Holds H 9 v L
 fL : ∀ c ∈ L,InsT n c
 nL : L.length < 2 ^ 60
def opdV (n : Nat) (LF : List (List AV)) (nG : Nat) (S : Int) (L : List (List AV)) (p : Nat) (c : List AV) : Bool:=(useA (opI c) || aI c == 0) && (useB (opI c) || bI c == 0) && opV n LF nG S L p c
set_option maxHeartbeats 8000000 in
theorem f307_ok {vF vG vI vH v : AV} {nm : List Nat} {P S : Int} {n : Nat} {LF LG L : List (List AV)} (h : CkT n vF vG v LF LG S L) (p : Nat) (hp : p < L.length) (op a b : Int) (t : List Nat) (c0 c1 c2 c3 c4 : AV) (hV : VT n [c0,c1,c2,c3,c4]) (H : Heap) (hF : Free H) (K : AV → Heap → Prop) (hK : ∀ H',Up H H' → Free H' → K (.bool (opdV n LF LG.length S L p [.int .i64 op,.int .i64 a,.int .i64 b,.str t,c0,c1,c2,c3,c4])) H') : WF Tryz.prog 307 [.agg [vF,vG,vI,vH,.str nm,.int .i64 P,.int .i64 S,v],.int .i64 p,.agg [.int .i64 op,.int .i64 a,.int .i64 b,.str t,c0,c1,c2,c3,c4]] H K:=by
 have hlG : ∀ G,evBuiltin Tryz.prog G .len #[23] [vG] = some (.int .i64 LG.length,G):=fun G=>(h.hG G).lenAt und23 G
 have hwG : IntKind.i64.wrap ((LG.length : Int) - 1) = (LG.length : Int) - 1:=by
  have:=h.nG
  rw [IntWalk.i64_in _ (by omega)]
 refine WF_body Tryz.func307 (by kernel_rfl) rfl Tryz.ntmps307 (by rw [Tryz.results307]) (of_decide_eq_true (by kernel_rfl)) ?_
 simp (maxSteps:=999999) only [ey,Nat.reduceBEq,reduceEqDiff,reduceLT,reduceCtorEq,reduceAdd,reduceLeDiff,hF.at,hF.hp]
 generalize hH1 : HP H [Blk.row 182 8 [[vF,vG,vI,vH,.str nm,.int .i64 P,.int .i64 S,v]] 0 0,Blk.row 104 9 [[.int .i64 op,.int .i64 a,.int .i64 b,.str t,c0,c1,c2,c3,c4]] 0 0] = H1
 have hb0 : H1.blk H.next = some (.row 182 8 [[vF,vG,vI,vH,.str nm,.int .i64 P,.int .i64 S,v]] 0 0):=by rw [← hH1,hp_blk0];rfl
 have hb1 : H1.blk (H.next + 1) = some (.row 104 9 [[.int .i64 op,.int .i64 a,.int .i64 b,.str t,c0,c1,c2,c3,c4]] 0 0):=by rw [← hH1,hp_blk];rfl
 have hF1 : Free H1:=hH1 ▸ hF.hpF _
 have hU1 : Up H H1:=hH1 ▸ hF.hpU _
 by_cases k2 : op = 2
 ·subst k2
  have e : opdV n LF LG.length S L p [.int .i64 2,.int .i64 a,.int .i64 b,.str t,c0,c1,c2,c3,c4] = ((true || a == 0) && (false || b == 0) && belowV a S):=rfl
  rw [e] at hK
  simp only [Bool.true_or,Bool.false_or,Bool.true_and,Bool.and_true,Bool.false_and,Bool.and_false,decide_true,decide_false,Bool.or_true,Bool.or_false] at hK
  simp (maxSteps:=999999) only [ey,Nat.reduceBEq,reduceEqDiff,reduceLT,reduceCtorEq,reduceAdd,reduceLeDiff,hb0,hb1,Int.reduceBEq]
  refine callStep (f372_ok h.s0 h.s1 a H1 hF1 _ fun H2 hU2 hF2=>?_)
  have hb1:=hU2 _ _ hb1
  cases h1 : belowV a S with
  | false=>
   simp only [h1,Bool.true_or,Bool.false_or,Bool.true_and,Bool.and_true,Bool.false_and,Bool.and_false,decide_true,decide_false,Bool.or_true,Bool.or_false] at hK
   simp (maxSteps:=999999) only [ey,Nat.reduceBEq,reduceEqDiff,reduceLT,reduceCtorEq,reduceAdd,reduceLeDiff,hb0,hb1]
   exact hK _ (hU1.trans hU2) hF2
  | true=>
   simp only [h1,Bool.true_or,Bool.false_or,Bool.true_and,Bool.and_true,Bool.false_and,Bool.and_false,decide_true,decide_false,Bool.or_true,Bool.or_false] at hK
   simp (maxSteps:=999999) only [ey,Nat.reduceBEq,reduceEqDiff,reduceLT,reduceCtorEq,reduceAdd,reduceLeDiff,hb0,hb1]
   exact hK _ (hU1.trans hU2) hF2
 by_cases k3 : op = 3
 ·subst k3
  have e : opdV n LF LG.length S L p [.int .i64 3,.int .i64 a,.int .i64 b,.str t,c0,c1,c2,c3,c4] = ((true || a == 0) && (false || b == 0) && belowV a S):=rfl
  rw [e] at hK
  simp only [Bool.true_or,Bool.false_or,Bool.true_and,Bool.and_true,Bool.false_and,Bool.and_false,decide_true,decide_false,Bool.or_true,Bool.or_false] at hK
  simp (maxSteps:=999999) only [ey,Nat.reduceBEq,reduceEqDiff,reduceLT,reduceCtorEq,reduceAdd,reduceLeDiff,hb0,hb1,Int.reduceBEq]
  refine callStep (f372_ok h.s0 h.s1 a H1 hF1 _ fun H2 hU2 hF2=>?_)
  have hb1:=hU2 _ _ hb1
  cases h1 : belowV a S with
  | false=>
   simp only [h1,Bool.true_or,Bool.false_or,Bool.true_and,Bool.and_true,Bool.false_and,Bool.and_false,decide_true,decide_false,Bool.or_true,Bool.or_false] at hK
   simp (maxSteps:=999999) only [ey,Nat.reduceBEq,reduceEqDiff,reduceLT,reduceCtorEq,reduceAdd,reduceLeDiff,hb0,hb1]
   exact hK _ (hU1.trans hU2) hF2
  | true=>
   simp only [h1,Bool.true_or,Bool.false_or,Bool.true_and,Bool.and_true,Bool.false_and,Bool.and_false,decide_true,decide_false,Bool.or_true,Bool.or_false] at hK
   simp (maxSteps:=999999) only [ey,Nat.reduceBEq,reduceEqDiff,reduceLT,reduceCtorEq,reduceAdd,reduceLeDiff,hb0,hb1]
   exact hK _ (hU1.trans hU2) hF2
 by_cases k4 : op = 4
 ·subst k4
  have e : opdV n LF LG.length S L p [.int .i64 4,.int .i64 a,.int .i64 b,.str t,c0,c1,c2,c3,c4] = ((true || a == 0) && (false || b == 0) && belowV a LG.length):=rfl
  rw [e] at hK
  simp only [Bool.true_or,Bool.false_or,Bool.true_and,Bool.and_true,Bool.false_and,Bool.and_false,decide_true,decide_false,Bool.or_true,Bool.or_false] at hK
  simp (maxSteps:=999999) only [ey,Nat.reduceBEq,reduceEqDiff,reduceLT,reduceCtorEq,reduceAdd,reduceLeDiff,hb0,hb1,Int.reduceBEq,hlG,hwG]
  refine callStep (f125_ok a 0 ((LG.length : Int) - 1) H1 hF1 _ ?_)
  rw [in_below]
  cases h1 : belowV a LG.length with
  | false=>
   simp only [h1,Bool.true_or,Bool.false_or,Bool.true_and,Bool.and_true,Bool.false_and,Bool.and_false,decide_true,decide_false,Bool.or_true,Bool.or_false] at hK
   simp (maxSteps:=999999) only [ey,Nat.reduceBEq,reduceEqDiff,reduceLT,reduceCtorEq,reduceAdd,reduceLeDiff,hb0,hb1]
   exact hK _ (hU1) hF1
  | true=>
   simp only [h1,Bool.true_or,Bool.false_or,Bool.true_and,Bool.and_true,Bool.false_and,Bool.and_false,decide_true,decide_false,Bool.or_true,Bool.or_false] at hK
   simp (maxSteps:=999999) only [ey,Nat.reduceBEq,reduceEqDiff,reduceLT,reduceCtorEq,reduceAdd,reduceLeDiff,hb0,hb1]
   exact hK _ (hU1) hF1
 by_cases k5 : op = 5
 ·subst k5
  have e : opdV n LF LG.length S L p [.int .i64 5,.int .i64 a,.int .i64 b,.str t,c0,c1,c2,c3,c4] = ((true || a == 0) && (false || b == 0) && belowV a LG.length):=rfl
  rw [e] at hK
  simp only [Bool.true_or,Bool.false_or,Bool.true_and,Bool.and_true,Bool.false_and,Bool.and_false,decide_true,decide_false,Bool.or_true,Bool.or_false] at hK
  simp (maxSteps:=999999) only [ey,Nat.reduceBEq,reduceEqDiff,reduceLT,reduceCtorEq,reduceAdd,reduceLeDiff,hb0,hb1,Int.reduceBEq,hlG,hwG]
  refine callStep (f125_ok a 0 ((LG.length : Int) - 1) H1 hF1 _ ?_)
  rw [in_below]
  cases h1 : belowV a LG.length with
  | false=>
   simp only [h1,Bool.true_or,Bool.false_or,Bool.true_and,Bool.and_true,Bool.false_and,Bool.and_false,decide_true,decide_false,Bool.or_true,Bool.or_false] at hK
   simp (maxSteps:=999999) only [ey,Nat.reduceBEq,reduceEqDiff,reduceLT,reduceCtorEq,reduceAdd,reduceLeDiff,hb0,hb1]
   exact hK _ (hU1) hF1
  | true=>
   simp only [h1,Bool.true_or,Bool.false_or,Bool.true_and,Bool.and_true,Bool.false_and,Bool.and_false,decide_true,decide_false,Bool.or_true,Bool.or_false] at hK
   simp (maxSteps:=999999) only [ey,Nat.reduceBEq,reduceEqDiff,reduceLT,reduceCtorEq,reduceAdd,reduceLeDiff,hb0,hb1]
   exact hK _ (hU1) hF1
 by_cases k7 : op = 7
 ·subst k7
  have e : opdV n LF LG.length S L p [.int .i64 7,.int .i64 a,.int .i64 b,.str t,c0,c1,c2,c3,c4] = ((true || a == 0) && (false || b == 0) && belowV a L.length):=rfl
  rw [e] at hK
  simp only [Bool.true_or,Bool.false_or,Bool.true_and,Bool.and_true,Bool.false_and,Bool.and_false,decide_true,decide_false,Bool.or_true,Bool.or_false] at hK
  simp (maxSteps:=999999) only [ey,Nat.reduceBEq,reduceEqDiff,reduceLT,reduceCtorEq,reduceAdd,reduceLeDiff,hb0,hb1,Int.reduceBEq]
  refine callStep (f373_ok h.hv h.nL a H1 hF1 _ fun H2 hU2 hF2=>?_)
  have hb1:=hU2 _ _ hb1
  cases h1 : belowV a L.length with
  | false=>
   simp only [h1,Bool.true_or,Bool.false_or,Bool.true_and,Bool.and_true,Bool.false_and,Bool.and_false,decide_true,decide_false,Bool.or_true,Bool.or_false] at hK
   simp (maxSteps:=999999) only [ey,Nat.reduceBEq,reduceEqDiff,reduceLT,reduceCtorEq,reduceAdd,reduceLeDiff,hb0,hb1]
   exact hK _ (hU1.trans hU2) hF2
  | true=>
   simp only [h1,Bool.true_or,Bool.false_or,Bool.true_and,Bool.and_true,Bool.false_and,Bool.and_false,decide_true,decide_false,Bool.or_true,Bool.or_false] at hK
   simp (maxSteps:=999999) only [ey,Nat.reduceBEq,reduceEqDiff,reduceLT,reduceCtorEq,reduceAdd,reduceLeDiff,hb0,hb1]
   exact hK _ (hU1.trans hU2) hF2
 by_cases k8 : op = 8
 ·subst k8
  have e : opdV n LF LG.length S L p [.int .i64 8,.int .i64 a,.int .i64 b,.str t,c0,c1,c2,c3,c4] = ((true || a == 0) && (false || b == 0) && belowV a L.length):=rfl
  rw [e] at hK
  simp only [Bool.true_or,Bool.false_or,Bool.true_and,Bool.and_true,Bool.false_and,Bool.and_false,decide_true,decide_false,Bool.or_true,Bool.or_false] at hK
  simp (maxSteps:=999999) only [ey,Nat.reduceBEq,reduceEqDiff,reduceLT,reduceCtorEq,reduceAdd,reduceLeDiff,hb0,hb1,Int.reduceBEq]
  refine callStep (f373_ok h.hv h.nL a H1 hF1 _ fun H2 hU2 hF2=>?_)
  have hb1:=hU2 _ _ hb1
  cases h1 : belowV a L.length with
  | false=>
   simp only [h1,Bool.true_or,Bool.false_or,Bool.true_and,Bool.and_true,Bool.false_and,Bool.and_false,decide_true,decide_false,Bool.or_true,Bool.or_false] at hK
   simp (maxSteps:=999999) only [ey,Nat.reduceBEq,reduceEqDiff,reduceLT,reduceCtorEq,reduceAdd,reduceLeDiff,hb0,hb1]
   exact hK _ (hU1.trans hU2) hF2
  | true=>
   simp only [h1,Bool.true_or,Bool.false_or,Bool.true_and,Bool.and_true,Bool.false_and,Bool.and_false,decide_true,decide_false,Bool.or_true,Bool.or_false] at hK
   simp (maxSteps:=999999) only [ey,Nat.reduceBEq,reduceEqDiff,reduceLT,reduceCtorEq,reduceAdd,reduceLeDiff,hb0,hb1]
   exact hK _ (hU1.trans hU2) hF2
 by_cases k9 : op = 9
 ·subst k9
  have e : opdV n LF LG.length S L p [.int .i64 9,.int .i64 a,.int .i64 b,.str t,c0,c1,c2,c3,c4] = ((true || a == 0) && (false || b == 0) && belowV a L.length):=rfl
  rw [e] at hK
  simp only [Bool.true_or,Bool.false_or,Bool.true_and,Bool.and_true,Bool.false_and,Bool.and_false,decide_true,decide_false,Bool.or_true,Bool.or_false] at hK
  simp (maxSteps:=999999) only [ey,Nat.reduceBEq,reduceEqDiff,reduceLT,reduceCtorEq,reduceAdd,reduceLeDiff,hb0,hb1,Int.reduceBEq]
  refine callStep (f373_ok h.hv h.nL a H1 hF1 _ fun H2 hU2 hF2=>?_)
  have hb1:=hU2 _ _ hb1
  cases h1 : belowV a L.length with
  | false=>
   simp only [h1,Bool.true_or,Bool.false_or,Bool.true_and,Bool.and_true,Bool.false_and,Bool.and_false,decide_true,decide_false,Bool.or_true,Bool.or_false] at hK
   simp (maxSteps:=999999) only [ey,Nat.reduceBEq,reduceEqDiff,reduceLT,reduceCtorEq,reduceAdd,reduceLeDiff,hb0,hb1]
   exact hK _ (hU1.trans hU2) hF2
  | true=>
   simp only [h1,Bool.true_or,Bool.false_or,Bool.true_and,Bool.and_true,Bool.false_and,Bool.and_false,decide_true,decide_false,Bool.or_true,Bool.or_false] at hK
   simp (maxSteps:=999999) only [ey,Nat.reduceBEq,reduceEqDiff,reduceLT,reduceCtorEq,reduceAdd,reduceLeDiff,hb0,hb1]
   exact hK _ (hU1.trans hU2) hF2
 by_cases k10 : op = 10
 ·subst k10
  have e : opdV n LF LG.length S L p [.int .i64 10,.int .i64 a,.int .i64 b,.str t,c0,c1,c2,c3,c4] = ((true || a == 0) && (false || b == 0) && belowV a L.length):=rfl
  rw [e] at hK
  simp only [Bool.true_or,Bool.false_or,Bool.true_and,Bool.and_true,Bool.false_and,Bool.and_false,decide_true,decide_false,Bool.or_true,Bool.or_false] at hK
  simp (maxSteps:=999999) only [ey,Nat.reduceBEq,reduceEqDiff,reduceLT,reduceCtorEq,reduceAdd,reduceLeDiff,hb0,hb1,Int.reduceBEq]
  refine callStep (f373_ok h.hv h.nL a H1 hF1 _ fun H2 hU2 hF2=>?_)
  have hb1:=hU2 _ _ hb1
  cases h1 : belowV a L.length with
  | false=>
   simp only [h1,Bool.true_or,Bool.false_or,Bool.true_and,Bool.and_true,Bool.false_and,Bool.and_false,decide_true,decide_false,Bool.or_true,Bool.or_false] at hK
   simp (maxSteps:=999999) only [ey,Nat.reduceBEq,reduceEqDiff,reduceLT,reduceCtorEq,reduceAdd,reduceLeDiff,hb0,hb1]
   exact hK _ (hU1.trans hU2) hF2
  | true=>
   simp only [h1,Bool.true_or,Bool.false_or,Bool.true_and,Bool.and_true,Bool.false_and,Bool.and_false,decide_true,decide_false,Bool.or_true,Bool.or_false] at hK
   simp (maxSteps:=999999) only [ey,Nat.reduceBEq,reduceEqDiff,reduceLT,reduceCtorEq,reduceAdd,reduceLeDiff,hb0,hb1]
   exact hK _ (hU1.trans hU2) hF2
 by_cases k11 : op = 11
 ·subst k11
  have e : opdV n LF LG.length S L p [.int .i64 11,.int .i64 a,.int .i64 b,.str t,c0,c1,c2,c3,c4] = ((true || a == 0) && (false || b == 0) && ((a == 13) || (a == 14))):=rfl
  rw [e] at hK
  simp only [Bool.true_or,Bool.false_or,Bool.true_and,Bool.and_true,Bool.false_and,Bool.and_false,decide_true,decide_false,Bool.or_true,Bool.or_false] at hK
  cases h1 : (a == 13) with
  | true=>
   simp only [h1,Bool.true_or,Bool.false_or,Bool.true_and,Bool.and_true,Bool.false_and,Bool.and_false,decide_true,decide_false,Bool.or_true,Bool.or_false] at hK
   simp (maxSteps:=999999) only [ey,Nat.reduceBEq,reduceEqDiff,reduceLT,reduceCtorEq,reduceAdd,reduceLeDiff,hb0,hb1,Int.reduceBEq,h1]
   exact hK _ (hU1) hF1
  | false=>
   cases h2 : (a == 14) with
   | true=>
    simp only [h1,h2,Bool.true_or,Bool.false_or,Bool.true_and,Bool.and_true,Bool.false_and,Bool.and_false,decide_true,decide_false,Bool.or_true,Bool.or_false] at hK
    simp (maxSteps:=999999) only [ey,Nat.reduceBEq,reduceEqDiff,reduceLT,reduceCtorEq,reduceAdd,reduceLeDiff,hb0,hb1,Int.reduceBEq,h1,h2]
    exact hK _ (hU1) hF1
   | false=>
    simp only [h1,h2,Bool.true_or,Bool.false_or,Bool.true_and,Bool.and_true,Bool.false_and,Bool.and_false,decide_true,decide_false,Bool.or_true,Bool.or_false] at hK
    simp (maxSteps:=999999) only [ey,Nat.reduceBEq,reduceEqDiff,reduceLT,reduceCtorEq,reduceAdd,reduceLeDiff,hb0,hb1,Int.reduceBEq,h1,h2]
    exact hK _ (hU1) hF1
 by_cases k12 : op = 12
 ·subst k12
  have e : opdV n LF LG.length S L p [.int .i64 12,.int .i64 a,.int .i64 b,.str t,c0,c1,c2,c3,c4] = ((true || a == 0) && (false || b == 0) && (decide (a ≥ 15) && decide (a ≤ 25))):=rfl
  rw [e] at hK
  simp only [Bool.true_or,Bool.false_or,Bool.true_and,Bool.and_true,Bool.false_and,Bool.and_false,decide_true,decide_false,Bool.or_true,Bool.or_false] at hK
  simp (maxSteps:=999999) only [ey,Nat.reduceBEq,reduceEqDiff,reduceLT,reduceCtorEq,reduceAdd,reduceLeDiff,hb0,hb1,Int.reduceBEq,hlG,hwG]
  refine callStep (f125_ok a 15 25 H1 hF1 _ ?_)
  cases h1 : (decide (a ≥ 15) && decide (a ≤ 25)) with
  | false=>
   simp only [h1,Bool.true_or,Bool.false_or,Bool.true_and,Bool.and_true,Bool.false_and,Bool.and_false,decide_true,decide_false,Bool.or_true,Bool.or_false] at hK
   simp (maxSteps:=999999) only [ey,Nat.reduceBEq,reduceEqDiff,reduceLT,reduceCtorEq,reduceAdd,reduceLeDiff,hb0,hb1]
   exact hK _ (hU1) hF1
  | true=>
   simp only [h1,Bool.true_or,Bool.false_or,Bool.true_and,Bool.and_true,Bool.false_and,Bool.and_false,decide_true,decide_false,Bool.or_true,Bool.or_false] at hK
   simp (maxSteps:=999999) only [ey,Nat.reduceBEq,reduceEqDiff,reduceLT,reduceCtorEq,reduceAdd,reduceLeDiff,hb0,hb1]
   exact hK _ (hU1) hF1
 by_cases k13 : op = 13
 ·subst k13
  have e : opdV n LF LG.length S L p [.int .i64 13,.int .i64 a,.int .i64 b,.str t,c0,c1,c2,c3,c4] = ((true || a == 0) && (false || b == 0) && decide (a ≥ 0)):=rfl
  rw [e] at hK
  simp only [Bool.true_or,Bool.false_or,Bool.true_and,Bool.and_true,Bool.false_and,Bool.and_false,decide_true,decide_false,Bool.or_true,Bool.or_false] at hK
  by_cases h1 : a ≥ 0
  ·simp only [h1,Bool.true_or,Bool.false_or,Bool.true_and,Bool.and_true,Bool.false_and,Bool.and_false,decide_true,decide_false,Bool.or_true,Bool.or_false] at hK
   simp (maxSteps:=999999) only [ey,Nat.reduceBEq,reduceEqDiff,reduceLT,reduceCtorEq,reduceAdd,reduceLeDiff,hb0,hb1,Int.reduceBEq,h1]
   exact hK _ (hU1) hF1
  ·simp only [h1,Bool.true_or,Bool.false_or,Bool.true_and,Bool.and_true,Bool.false_and,Bool.and_false,decide_true,decide_false,Bool.or_true,Bool.or_false] at hK
   simp (maxSteps:=999999) only [ey,Nat.reduceBEq,reduceEqDiff,reduceLT,reduceCtorEq,reduceAdd,reduceLeDiff,hb0,hb1,Int.reduceBEq,h1]
   exact hK _ (hU1) hF1
 by_cases k14 : op = 14
 ·subst k14
  have e : opdV n LF LG.length S L p [.int .i64 14,.int .i64 a,.int .i64 b,.str t,c0,c1,c2,c3,c4] = ((true || a == 0) && (false || b == 0) && (decide (a ≥ 0) && keysV n [c0,c1,c2,c3,c4] a)):=rfl
  rw [e] at hK
  simp only [Bool.true_or,Bool.false_or,Bool.true_and,Bool.and_true,Bool.false_and,Bool.and_false,decide_true,decide_false,Bool.or_true,Bool.or_false] at hK
  by_cases h1 : a ≥ 0
  ·cases h2 : (b == 0) with
   | false=>
    simp only [h1,h2,Bool.true_or,Bool.false_or,Bool.true_and,Bool.and_true,Bool.false_and,Bool.and_false,decide_true,decide_false,Bool.or_true,Bool.or_false] at hK
    simp (maxSteps:=999999) only [ey,Nat.reduceBEq,reduceEqDiff,reduceLT,reduceCtorEq,reduceAdd,reduceLeDiff,hb0,hb1,Int.reduceBEq,h1,h2]
    exact hK _ (hU1) hF1
   | true=>
    simp (maxSteps:=999999) only [ey,Nat.reduceBEq,reduceEqDiff,reduceLT,reduceCtorEq,reduceAdd,reduceLeDiff,hb0,hb1,Int.reduceBEq,h1,h2]
    refine callStep (f374_ok hV a H1 hF1 _ fun H2 hU2 hF2=>?_)
    have hb1:=hU2 _ _ hb1
    simp only [h1,h2,Bool.true_or,Bool.false_or,Bool.true_and,Bool.and_true,Bool.false_and,Bool.and_false,decide_true,decide_false,Bool.or_true,Bool.or_false] at hK
    simp (maxSteps:=999999) only [ey,Nat.reduceBEq,reduceEqDiff,reduceLT,reduceCtorEq,reduceAdd,reduceLeDiff,hb0,hb1]
    exact hK _ (hU1.trans hU2) hF2
  ·simp only [h1,Bool.true_or,Bool.false_or,Bool.true_and,Bool.and_true,Bool.false_and,Bool.and_false,decide_true,decide_false,Bool.or_true,Bool.or_false] at hK
   simp (maxSteps:=999999) only [ey,Nat.reduceBEq,reduceEqDiff,reduceLT,reduceCtorEq,reduceAdd,reduceLeDiff,hb0,hb1,Int.reduceBEq,h1]
   exact hK _ (hU1) hF1
 by_cases k17 : op = 17
 ·subst k17
  have e : opdV n LF LG.length S L p [.int .i64 17,.int .i64 a,.int .i64 b,.str t,c0,c1,c2,c3,c4] = ((true || a == 0) && (true || b == 0) && callV LF a b):=rfl
  rw [e] at hK
  simp only [Bool.true_or,Bool.false_or,Bool.true_and,Bool.and_true,Bool.false_and,Bool.and_false,decide_true,decide_false,Bool.or_true,Bool.or_false] at hK
  simp (maxSteps:=999999) only [ey,Nat.reduceBEq,reduceEqDiff,reduceLT,reduceCtorEq,reduceAdd,reduceLeDiff,hb0,hb1,Int.reduceBEq]
  refine callStep (f375_ok h.hF h.fF h.nF a b H1 hF1 _ fun H2 hU2 hF2=>?_)
  simp (maxSteps:=999999) only [ey,Nat.reduceBEq,reduceEqDiff,reduceLT,reduceCtorEq,reduceAdd,reduceLeDiff]
  exact hK _ (hU1.trans hU2) hF2
 by_cases k18 : op = 18
 ·subst k18
  have e : opdV n LF LG.length S L p [.int .i64 18,.int .i64 a,.int .i64 b,.str t,c0,c1,c2,c3,c4] = ((true || a == 0) && (true || b == 0) && callV LF a b):=rfl
  rw [e] at hK
  simp only [Bool.true_or,Bool.false_or,Bool.true_and,Bool.and_true,Bool.false_and,Bool.and_false,decide_true,decide_false,Bool.or_true,Bool.or_false] at hK
  simp (maxSteps:=999999) only [ey,Nat.reduceBEq,reduceEqDiff,reduceLT,reduceCtorEq,reduceAdd,reduceLeDiff,hb0,hb1,Int.reduceBEq]
  refine callStep (f375_ok h.hF h.fF h.nF a b H1 hF1 _ fun H2 hU2 hF2=>?_)
  simp (maxSteps:=999999) only [ey,Nat.reduceBEq,reduceEqDiff,reduceLT,reduceCtorEq,reduceAdd,reduceLeDiff]
  exact hK _ (hU1.trans hU2) hF2
 by_cases k25 : op = 25
 ·subst k25
  have e : opdV n LF LG.length S L p [.int .i64 25,.int .i64 a,.int .i64 b,.str t,c0,c1,c2,c3,c4] = ((true || a == 0) && (true || b == 0) && callV LF a b):=rfl
  rw [e] at hK
  simp only [Bool.true_or,Bool.false_or,Bool.true_and,Bool.and_true,Bool.false_and,Bool.and_false,decide_true,decide_false,Bool.or_true,Bool.or_false] at hK
  simp (maxSteps:=999999) only [ey,Nat.reduceBEq,reduceEqDiff,reduceLT,reduceCtorEq,reduceAdd,reduceLeDiff,hb0,hb1,Int.reduceBEq]
  refine callStep (f375_ok h.hF h.fF h.nF a b H1 hF1 _ fun H2 hU2 hF2=>?_)
  simp (maxSteps:=999999) only [ey,Nat.reduceBEq,reduceEqDiff,reduceLT,reduceCtorEq,reduceAdd,reduceLeDiff]
  exact hK _ (hU1.trans hU2) hF2
 by_cases k21 : op = 21
 ·subst k21
  have e : opdV n LF LG.length S L p [.int .i64 21,.int .i64 a,.int .i64 b,.str t,c0,c1,c2,c3,c4] = ((true || a == 0) && (true || b == 0) && (belowV a L.length && belowV b S)):=rfl
  rw [e] at hK
  simp only [Bool.true_or,Bool.false_or,Bool.true_and,Bool.and_true,Bool.false_and,Bool.and_false,decide_true,decide_false,Bool.or_true,Bool.or_false] at hK
  simp (maxSteps:=999999) only [ey,Nat.reduceBEq,reduceEqDiff,reduceLT,reduceCtorEq,reduceAdd,reduceLeDiff,hb0,hb1,Int.reduceBEq]
  refine callStep (f373_ok h.hv h.nL a H1 hF1 _ fun H2 hU2 hF2=>?_)
  have hb1:=hU2 _ _ hb1
  have hb0:=hU2 _ _ hb0
  cases h1 : belowV a L.length with
  | false=>
   simp only [h1,Bool.true_or,Bool.false_or,Bool.true_and,Bool.and_true,Bool.false_and,Bool.and_false,decide_true,decide_false,Bool.or_true,Bool.or_false] at hK
   simp (maxSteps:=999999) only [ey,Nat.reduceBEq,reduceEqDiff,reduceLT,reduceCtorEq,reduceAdd,reduceLeDiff,hb0,hb1]
   exact hK _ (hU1.trans hU2) hF2
  | true=>
   simp only [h1,Bool.true_or,Bool.false_or,Bool.true_and,Bool.and_true,Bool.false_and,Bool.and_false,decide_true,decide_false,Bool.or_true,Bool.or_false] at hK
   simp (maxSteps:=999999) only [ey,Nat.reduceBEq,reduceEqDiff,reduceLT,reduceCtorEq,reduceAdd,reduceLeDiff,hb0,hb1]
   refine callStep (f372_ok h.s0 h.s1 b H2 hF2 _ fun H3 hU3 hF3=>?_)
   simp (maxSteps:=999999) only [ey,Nat.reduceBEq,reduceEqDiff,reduceLT,reduceCtorEq,reduceAdd,reduceLeDiff]
   exact hK _ (hU1.trans (hU2.trans hU3)) hF3
 by_cases k27 : op = 27
 ·subst k27
  have e : opdV n LF LG.length S L p [.int .i64 27,.int .i64 a,.int .i64 b,.str t,c0,c1,c2,c3,c4] = ((true || a == 0) && (true || b == 0) && choiceV L p a b):=rfl
  rw [e] at hK
  simp only [Bool.true_or,Bool.false_or,Bool.true_and,Bool.and_true,Bool.false_and,Bool.and_false,decide_true,decide_false,Bool.or_true,Bool.or_false] at hK
  simp (maxSteps:=999999) only [ey,Nat.reduceBEq,reduceEqDiff,reduceLT,reduceCtorEq,reduceAdd,reduceLeDiff,hb0,hb1,Int.reduceBEq]
  refine callStep (f376_ok h.hv h.fL h.nL p hp _ a b t c0 c1 c2 c3 c4 H1 hF1 _ fun H2 hU2 hF2=>?_)
  simp (maxSteps:=999999) only [ey,Nat.reduceBEq,reduceEqDiff,reduceLT,reduceCtorEq,reduceAdd,reduceLeDiff]
  exact hK _ (hU1.trans hU2) hF2
 by_cases k28 : op = 28
 ·subst k28
  have e : opdV n LF LG.length S L p [.int .i64 28,.int .i64 a,.int .i64 b,.str t,c0,c1,c2,c3,c4] = ((false || a == 0) && (true || b == 0) && biV t b):=rfl
  rw [e] at hK
  simp only [Bool.true_or,Bool.false_or,Bool.true_and,Bool.and_true,Bool.false_and,Bool.and_false,decide_true,decide_false,Bool.or_true,Bool.or_false] at hK
  unfold biV at hK
  simp (maxSteps:=999999) only [ey,Nat.reduceBEq,reduceEqDiff,reduceLT,reduceCtorEq,reduceAdd,reduceLeDiff,hb0,hb1,Int.reduceBEq]
  refine callStep (f170_ok t H1 hF1 _ ?_)
  cases h1 : (a == 0) with
  | false=>
   simp only [h1,Bool.true_or,Bool.false_or,Bool.true_and,Bool.and_true,Bool.false_and,Bool.and_false,decide_true,decide_false,Bool.or_true,Bool.or_false] at hK
   simp (maxSteps:=999999) only [ey,Nat.reduceBEq,reduceEqDiff,reduceLT,reduceCtorEq,reduceAdd,reduceLeDiff,hb0,hb1,h1]
   exact hK _ (hU1) hF1
  | true=>
   by_cases h2 : (arityV t).2.2 > 0
   ·simp only [h1,h2,Bool.true_or,Bool.false_or,Bool.true_and,Bool.and_true,Bool.false_and,Bool.and_false,decide_true,decide_false,Bool.or_true,Bool.or_false] at hK
    simp (maxSteps:=999999) only [ey,Nat.reduceBEq,reduceEqDiff,reduceLT,reduceCtorEq,reduceAdd,reduceLeDiff,hb0,hb1,h1,h2]
    refine callStep (f125_ok b _ _ H1 hF1 _ ?_)
    simp (maxSteps:=999999) only [ey,Nat.reduceBEq,reduceEqDiff,reduceLT,reduceCtorEq,reduceAdd,reduceLeDiff]
    exact hK _ hU1 hF1
   ·simp only [h1,h2,Bool.true_or,Bool.false_or,Bool.true_and,Bool.and_true,Bool.false_and,Bool.and_false,decide_true,decide_false,Bool.or_true,Bool.or_false] at hK
    simp (maxSteps:=999999) only [ey,Nat.reduceBEq,reduceEqDiff,reduceLT,reduceCtorEq,reduceAdd,reduceLeDiff,hb0,hb1,h1,h2]
    exact hK _ (hU1) hF1
 by_cases k1 : op = 1
 ·subst k1
  have e : opdV n LF LG.length S L p [.int .i64 1,.int .i64 a,.int .i64 b,.str t,c0,c1,c2,c3,c4] = ((false || a == 0) && (false || b == 0) && rightV n [c0,c1,c2,c3,c4]):=rfl
  rw [e] at hK
  simp only [Bool.true_or,Bool.false_or,Bool.true_and,Bool.and_true,Bool.false_and,Bool.and_false,decide_true,decide_false,Bool.or_true,Bool.or_false] at hK
  cases h1 : (a == 0) with
  | false=>
   simp only [h1,Bool.true_or,Bool.false_or,Bool.true_and,Bool.and_true,Bool.false_and,Bool.and_false,decide_true,decide_false,Bool.or_true,Bool.or_false] at hK
   simp (maxSteps:=999999) only [ey,Nat.reduceBEq,reduceEqDiff,reduceLT,reduceCtorEq,reduceAdd,reduceLeDiff,hb0,hb1,Int.reduceBEq,h1]
   exact hK _ (hU1) hF1
  | true=>
   cases h2 : (b == 0) with
   | false=>
    simp only [h1,h2,Bool.true_or,Bool.false_or,Bool.true_and,Bool.and_true,Bool.false_and,Bool.and_false,decide_true,decide_false,Bool.or_true,Bool.or_false] at hK
    simp (maxSteps:=999999) only [ey,Nat.reduceBEq,reduceEqDiff,reduceLT,reduceCtorEq,reduceAdd,reduceLeDiff,hb0,hb1,Int.reduceBEq,h1,h2]
    exact hK _ (hU1) hF1
   | true=>
    simp only [h1,h2,Bool.true_or,Bool.false_or,Bool.true_and,Bool.and_true,Bool.false_and,Bool.and_false,decide_true,decide_false,Bool.or_true,Bool.or_false] at hK
    simp (maxSteps:=999999) only [ey,Nat.reduceBEq,reduceEqDiff,reduceLT,reduceCtorEq,reduceAdd,reduceLeDiff,hb0,hb1,Int.reduceBEq,h1,h2]
    refine callStep (f73_ok hV H1 hF1 _ fun H2 hU2 hF2=>?_)
    simp (maxSteps:=999999) only [ey,Nat.reduceBEq,reduceEqDiff,reduceLT,reduceCtorEq,reduceAdd,reduceLeDiff]
    exact hK _ (hU1.trans hU2) hF2
 have q2 : (op == 2) = false:=by simpa using k2
 have q3 : (op == 3) = false:=by simpa using k3
 have q4 : (op == 4) = false:=by simpa using k4
 have q5 : (op == 5) = false:=by simpa using k5
 have q7 : (op == 7) = false:=by simpa using k7
 have q8 : (op == 8) = false:=by simpa using k8
 have q9 : (op == 9) = false:=by simpa using k9
 have q10 : (op == 10) = false:=by simpa using k10
 have q11 : (op == 11) = false:=by simpa using k11
 have q12 : (op == 12) = false:=by simpa using k12
 have q13 : (op == 13) = false:=by simpa using k13
 have q14 : (op == 14) = false:=by simpa using k14
 have q17 : (op == 17) = false:=by simpa using k17
 have q18 : (op == 18) = false:=by simpa using k18
 have q25 : (op == 25) = false:=by simpa using k25
 have q21 : (op == 21) = false:=by simpa using k21
 have q27 : (op == 27) = false:=by simpa using k27
 have q28 : (op == 28) = false:=by simpa using k28
 have q1 : (op == 1) = false:=by simpa using k1
 have e : opdV n LF LG.length S L p [.int .i64 op,.int .i64 a,.int .i64 b,.str t,c0,c1,c2,c3,c4] = ((a == 0) && (b == 0)):=by
  have e1 : useA op = false:=by simp [useA,k2,k3,k4,k5,k7,k8,k9,k10,k11,k12,k13,k14,k17,k18,k25,k21,k27,k28,k1]
  have e2 : useB op = false:=by simp [useB,k2,k3,k4,k5,k7,k8,k9,k10,k11,k12,k13,k14,k17,k18,k25,k21,k27,k28,k1]
  have e3 : opV n LF LG.length S L p [.int .i64 op,.int .i64 a,.int .i64 b,.str t,c0,c1,c2,c3,c4] = true:=by simp [opV,opI,k2,k3,k4,k5,k7,k8,k9,k10,k11,k12,k13,k14,k17,k18,k25,k21,k27,k28,k1]
  unfold opdV
  rw [e3]
  show ((useA op || a == 0) && (useB op || b == 0) && true) = _
  rw [e1,e2];simp only [Bool.false_or,Bool.and_true]
 rw [e] at hK
 cases h1 : (a == 0) with
 | false=>
  simp only [h1,Bool.true_or,Bool.false_or,Bool.true_and,Bool.and_true,Bool.false_and,Bool.and_false,decide_true,decide_false,Bool.or_true,Bool.or_false] at hK
  simp (maxSteps:=999999) only [ey,Nat.reduceBEq,reduceEqDiff,reduceLT,reduceCtorEq,reduceAdd,reduceLeDiff,hb0,hb1,q2,q3,q4,q5,q7,q8,q9,q10,q11,q12,q13,q14,q17,q18,q25,q21,q27,q28,q1,h1]
  exact hK _ (hU1) hF1
 | true=>
  simp only [h1,Bool.true_or,Bool.false_or,Bool.true_and,Bool.and_true,Bool.false_and,Bool.and_false,decide_true,decide_false,Bool.or_true,Bool.or_false] at hK
  simp (maxSteps:=999999) only [ey,Nat.reduceBEq,reduceEqDiff,reduceLT,reduceCtorEq,reduceAdd,reduceLeDiff,hb0,hb1,q2,q3,q4,q5,q7,q8,q9,q10,q11,q12,q13,q14,q17,q18,q25,q21,q27,q28,q1,h1]
  exact hK _ (hU1) hF1
end Go.Proofs.T
