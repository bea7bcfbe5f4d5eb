import Derived.Test.YtjlmgabhhodhfaaGreatDoorX7G1
import Derived.Test.YtjlmgabhhodhfaaGreatDoorFTy3XD
set_option linter.unusedVariables false
set_option linter.unusedSimpArgs false
set_option maxRecDepth 100000
namespace Go.Proofs.T
open Go.Ev
open Nat (reduceMul reducePow reduceSub reduceEqDiff reduceLT reduceAdd reduceLeDiff)
open UInt8 (reduceToNat)
set_option maxHeartbeats 8000000 in
theorem f244_ok {n : Nat} (op a b : Int) (t : List Nat) (c0 c1 c2 c3 c4 : AV) (hV : VT n [c0,c1,c2,c3,c4]) (H : Heap) (hF : Free H) (K : AV → Heap → Prop) (hK : ∀ H',Up H H' → Free H' → K (.bool (usedV [.int .i64 op,.int .i64 a,.int .i64 b,.str t,c0,c1,c2,c3,c4])) H') : WF Tryz.prog 244 [.agg [.int .i64 op,.int .i64 a,.int .i64 b,.str t,c0,c1,c2,c3,c4]] H K:=by
 refine WF_body Tryz.func244 (by kernel_rfl) rfl Tryz.ntmps244 (by rw [Tryz.results244]) (of_decide_eq_true (by kernel_rfl)) ?_
 simp (maxSteps:=999999) only [ey,Nat.reduceBEq,reduceEqDiff,reduceLT,reduceCtorEq,reduceAdd,reduceLeDiff,hF.at,hF.hp]
 generalize hH1 : HP H [Blk.row 104 9 [[.int .i64 op,.int .i64 a,.int .i64 b,.str t,c0,c1,c2,c3,c4]] 0 0] = H1
 have hb : H1.blk H.next = some (.row 104 9 [[.int .i64 op,.int .i64 a,.int .i64 b,.str t,c0,c1,c2,c3,c4]] 0 0):=by rw [← hH1,hp_blk0];rfl
 have hF1 : Free H1:=hH1 ▸ hF.hpF _
 have hU1 : Up H H1:=hH1 ▸ hF.hpU _
 by_cases k1 : op = 1
 ·subst k1
  have e : usedV [.int .i64 1,.int .i64 a,.int .i64 b,.str t,c0,c1,c2,c3,c4] = ((false || a == 0) && (false || b == 0) && (false || t == []) && (true || zeroV [c0,c1,c2,c3,c4])):=rfl
  rw [e] at hK
  simp only [Bool.true_or,Bool.false_or,Bool.true_and,Bool.and_true,Bool.false_and,Bool.and_false,decide_true,decide_false,Bool.or_true,Bool.or_false] at hK
  cases h1 : (a == 0) with
  | false=>
   simp only [h1,Bool.true_or,Bool.false_or,Bool.true_and,Bool.and_true,Bool.false_and,Bool.and_false,decide_true,decide_false,Bool.or_true,Bool.or_false] at hK
   simp (maxSteps:=999999) only [ey,Nat.reduceBEq,reduceEqDiff,reduceLT,reduceCtorEq,reduceAdd,reduceLeDiff,hb,Int.reduceBEq,h1]
   exact hK _ hU1 hF1
  | true=>
   cases h2 : (b == 0) with
   | false=>
    simp only [h1,h2,Bool.true_or,Bool.false_or,Bool.true_and,Bool.and_true,Bool.false_and,Bool.and_false,decide_true,decide_false,Bool.or_true,Bool.or_false] at hK
    simp (maxSteps:=999999) only [ey,Nat.reduceBEq,reduceEqDiff,reduceLT,reduceCtorEq,reduceAdd,reduceLeDiff,hb,Int.reduceBEq,h1,h2]
    exact hK _ hU1 hF1
   | true=>
    cases h3 : (t == []) with
    | false=>
     simp only [h1,h2,h3,Bool.true_or,Bool.false_or,Bool.true_and,Bool.and_true,Bool.false_and,Bool.and_false,decide_true,decide_false,Bool.or_true,Bool.or_false] at hK
     simp (maxSteps:=999999) only [ey,Nat.reduceBEq,reduceEqDiff,reduceLT,reduceCtorEq,reduceAdd,reduceLeDiff,hb,Int.reduceBEq,h1,h2,h3]
     exact hK _ hU1 hF1
    | true=>
     simp only [h1,h2,h3,Bool.true_or,Bool.false_or,Bool.true_and,Bool.and_true,Bool.false_and,Bool.and_false,decide_true,decide_false,Bool.or_true,Bool.or_false] at hK
     simp (maxSteps:=999999) only [ey,Nat.reduceBEq,reduceEqDiff,reduceLT,reduceCtorEq,reduceAdd,reduceLeDiff,hb,Int.reduceBEq,h1,h2,h3]
     exact hK _ hU1 hF1
 by_cases k14 : op = 14
 ·subst k14
  have e : usedV [.int .i64 14,.int .i64 a,.int .i64 b,.str t,c0,c1,c2,c3,c4] = ((true || a == 0) && (false || b == 0) && (false || t == []) && (true || zeroV [c0,c1,c2,c3,c4])):=rfl
  rw [e] at hK
  simp only [Bool.true_or,Bool.false_or,Bool.true_and,Bool.and_true,Bool.false_and,Bool.and_false,decide_true,decide_false,Bool.or_true,Bool.or_false] at hK
  cases h2 : (b == 0) with
  | false=>
   simp only [h2,Bool.true_or,Bool.false_or,Bool.true_and,Bool.and_true,Bool.false_and,Bool.and_false,decide_true,decide_false,Bool.or_true,Bool.or_false] at hK
   simp (maxSteps:=999999) only [ey,Nat.reduceBEq,reduceEqDiff,reduceLT,reduceCtorEq,reduceAdd,reduceLeDiff,hb,Int.reduceBEq,h2]
   exact hK _ hU1 hF1
  | true=>
   cases h3 : (t == []) with
   | false=>
    simp only [h2,h3,Bool.true_or,Bool.false_or,Bool.true_and,Bool.and_true,Bool.false_and,Bool.and_false,decide_true,decide_false,Bool.or_true,Bool.or_false] at hK
    simp (maxSteps:=999999) only [ey,Nat.reduceBEq,reduceEqDiff,reduceLT,reduceCtorEq,reduceAdd,reduceLeDiff,hb,Int.reduceBEq,h2,h3]
    exact hK _ hU1 hF1
   | true=>
    simp only [h2,h3,Bool.true_or,Bool.false_or,Bool.true_and,Bool.and_true,Bool.false_and,Bool.and_false,decide_true,decide_false,Bool.or_true,Bool.or_false] at hK
    simp (maxSteps:=999999) only [ey,Nat.reduceBEq,reduceEqDiff,reduceLT,reduceCtorEq,reduceAdd,reduceLeDiff,hb,Int.reduceBEq,h2,h3]
    exact hK _ hU1 hF1
 by_cases k16 : op = 16
 ·subst k16
  have e : usedV [.int .i64 16,.int .i64 a,.int .i64 b,.str t,c0,c1,c2,c3,c4] = ((false || a == 0) && (false || b == 0) && (true || t == []) && (false || zeroV [c0,c1,c2,c3,c4])):=rfl
  rw [e] at hK
  simp only [Bool.true_or,Bool.false_or,Bool.true_and,Bool.and_true,Bool.false_and,Bool.and_false,decide_true,decide_false,Bool.or_true,Bool.or_false] at hK
  cases h1 : (a == 0) with
  | false=>
   simp only [h1,Bool.true_or,Bool.false_or,Bool.true_and,Bool.and_true,Bool.false_and,Bool.and_false,decide_true,decide_false,Bool.or_true,Bool.or_false] at hK
   simp (maxSteps:=999999) only [ey,Nat.reduceBEq,reduceEqDiff,reduceLT,reduceCtorEq,reduceAdd,reduceLeDiff,hb,Int.reduceBEq,h1]
   exact hK _ hU1 hF1
  | true=>
   cases h2 : (b == 0) with
   | false=>
    simp only [h1,h2,Bool.true_or,Bool.false_or,Bool.true_and,Bool.and_true,Bool.false_and,Bool.and_false,decide_true,decide_false,Bool.or_true,Bool.or_false] at hK
    simp (maxSteps:=999999) only [ey,Nat.reduceBEq,reduceEqDiff,reduceLT,reduceCtorEq,reduceAdd,reduceLeDiff,hb,Int.reduceBEq,h1,h2]
    exact hK _ hU1 hF1
   | true=>
    simp only [h1,h2,Bool.true_or,Bool.false_or,Bool.true_and,Bool.and_true,Bool.false_and,Bool.and_false,decide_true,decide_false,Bool.or_true,Bool.or_false] at hK
    simp (maxSteps:=999999) only [ey,Nat.reduceBEq,reduceEqDiff,reduceLT,reduceCtorEq,reduceAdd,reduceLeDiff,hb,Int.reduceBEq,h1,h2]
    refine callStep (f36_zero hV H1 hF1 _ fun H2 hU2 hF2=>?_)
    simp (maxSteps:=999999) only [ey,Nat.reduceBEq,reduceEqDiff,reduceLT,reduceCtorEq,reduceAdd,reduceLeDiff]
    exact hK _ (hU1.trans hU2) hF2
 by_cases k28 : op = 28
 ·subst k28
  have e : usedV [.int .i64 28,.int .i64 a,.int .i64 b,.str t,c0,c1,c2,c3,c4] = ((false || a == 0) && (true || b == 0) && (true || t == []) && (false || zeroV [c0,c1,c2,c3,c4])):=rfl
  rw [e] at hK
  simp only [Bool.true_or,Bool.false_or,Bool.true_and,Bool.and_true,Bool.false_and,Bool.and_false,decide_true,decide_false,Bool.or_true,Bool.or_false] at hK
  cases h1 : (a == 0) with
  | false=>
   simp only [h1,Bool.true_or,Bool.false_or,Bool.true_and,Bool.and_true,Bool.false_and,Bool.and_false,decide_true,decide_false,Bool.or_true,Bool.or_false] at hK
   simp (maxSteps:=999999) only [ey,Nat.reduceBEq,reduceEqDiff,reduceLT,reduceCtorEq,reduceAdd,reduceLeDiff,hb,Int.reduceBEq,h1]
   exact hK _ hU1 hF1
  | true=>
   simp only [h1,Bool.true_or,Bool.false_or,Bool.true_and,Bool.and_true,Bool.false_and,Bool.and_false,decide_true,decide_false,Bool.or_true,Bool.or_false] at hK
   simp (maxSteps:=999999) only [ey,Nat.reduceBEq,reduceEqDiff,reduceLT,reduceCtorEq,reduceAdd,reduceLeDiff,hb,Int.reduceBEq,h1]
   refine callStep (f36_zero hV H1 hF1 _ fun H2 hU2 hF2=>?_)
   simp (maxSteps:=999999) only [ey,Nat.reduceBEq,reduceEqDiff,reduceLT,reduceCtorEq,reduceAdd,reduceLeDiff]
   exact hK _ (hU1.trans hU2) hF2
 by_cases k17 : op = 17
 ·subst k17
  have e : usedV [.int .i64 17,.int .i64 a,.int .i64 b,.str t,c0,c1,c2,c3,c4] = ((true || a == 0) && (true || b == 0) && (false || t == []) && (false || zeroV [c0,c1,c2,c3,c4])):=rfl
  rw [e] at hK
  simp only [Bool.true_or,Bool.false_or,Bool.true_and,Bool.and_true,Bool.false_and,Bool.and_false,decide_true,decide_false,Bool.or_true,Bool.or_false] at hK
  cases h3 : (t == []) with
  | false=>
   simp only [h3,Bool.true_or,Bool.false_or,Bool.true_and,Bool.and_true,Bool.false_and,Bool.and_false,decide_true,decide_false,Bool.or_true,Bool.or_false] at hK
   simp (maxSteps:=999999) only [ey,Nat.reduceBEq,reduceEqDiff,reduceLT,reduceCtorEq,reduceAdd,reduceLeDiff,hb,Int.reduceBEq,h3]
   exact hK _ hU1 hF1
  | true=>
   simp only [h3,Bool.true_or,Bool.false_or,Bool.true_and,Bool.and_true,Bool.false_and,Bool.and_false,decide_true,decide_false,Bool.or_true,Bool.or_false] at hK
   simp (maxSteps:=999999) only [ey,Nat.reduceBEq,reduceEqDiff,reduceLT,reduceCtorEq,reduceAdd,reduceLeDiff,hb,Int.reduceBEq,h3]
   refine callStep (f36_zero hV H1 hF1 _ fun H2 hU2 hF2=>?_)
   simp (maxSteps:=999999) only [ey,Nat.reduceBEq,reduceEqDiff,reduceLT,reduceCtorEq,reduceAdd,reduceLeDiff]
   exact hK _ (hU1.trans hU2) hF2
 by_cases k18 : op = 18
 ·subst k18
  have e : usedV [.int .i64 18,.int .i64 a,.int .i64 b,.str t,c0,c1,c2,c3,c4] = ((true || a == 0) && (true || b == 0) && (false || t == []) && (false || zeroV [c0,c1,c2,c3,c4])):=rfl
  rw [e] at hK
  simp only [Bool.true_or,Bool.false_or,Bool.true_and,Bool.and_true,Bool.false_and,Bool.and_false,decide_true,decide_false,Bool.or_true,Bool.or_false] at hK
  cases h3 : (t == []) with
  | false=>
   simp only [h3,Bool.true_or,Bool.false_or,Bool.true_and,Bool.and_true,Bool.false_and,Bool.and_false,decide_true,decide_false,Bool.or_true,Bool.or_false] at hK
   simp (maxSteps:=999999) only [ey,Nat.reduceBEq,reduceEqDiff,reduceLT,reduceCtorEq,reduceAdd,reduceLeDiff,hb,Int.reduceBEq,h3]
   exact hK _ hU1 hF1
  | true=>
   simp only [h3,Bool.true_or,Bool.false_or,Bool.true_and,Bool.and_true,Bool.false_and,Bool.and_false,decide_true,decide_false,Bool.or_true,Bool.or_false] at hK
   simp (maxSteps:=999999) only [ey,Nat.reduceBEq,reduceEqDiff,reduceLT,reduceCtorEq,reduceAdd,reduceLeDiff,hb,Int.reduceBEq,h3]
   refine callStep (f36_zero hV H1 hF1 _ fun H2 hU2 hF2=>?_)
   simp (maxSteps:=999999) only [ey,Nat.reduceBEq,reduceEqDiff,reduceLT,reduceCtorEq,reduceAdd,reduceLeDiff]
   exact hK _ (hU1.trans hU2) hF2
 by_cases k25 : op = 25
 ·subst k25
  have e : usedV [.int .i64 25,.int .i64 a,.int .i64 b,.str t,c0,c1,c2,c3,c4] = ((true || a == 0) && (true || b == 0) && (false || t == []) && (false || zeroV [c0,c1,c2,c3,c4])):=rfl
  rw [e] at hK
  simp only [Bool.true_or,Bool.false_or,Bool.true_and,Bool.and_true,Bool.false_and,Bool.and_false,decide_true,decide_false,Bool.or_true,Bool.or_false] at hK
  cases h3 : (t == []) with
  | false=>
   simp only [h3,Bool.true_or,Bool.false_or,Bool.true_and,Bool.and_true,Bool.false_and,Bool.and_false,decide_true,decide_false,Bool.or_true,Bool.or_false] at hK
   simp (maxSteps:=999999) only [ey,Nat.reduceBEq,reduceEqDiff,reduceLT,reduceCtorEq,reduceAdd,reduceLeDiff,hb,Int.reduceBEq,h3]
   exact hK _ hU1 hF1
  | true=>
   simp only [h3,Bool.true_or,Bool.false_or,Bool.true_and,Bool.and_true,Bool.false_and,Bool.and_false,decide_true,decide_false,Bool.or_true,Bool.or_false] at hK
   simp (maxSteps:=999999) only [ey,Nat.reduceBEq,reduceEqDiff,reduceLT,reduceCtorEq,reduceAdd,reduceLeDiff,hb,Int.reduceBEq,h3]
   refine callStep (f36_zero hV H1 hF1 _ fun H2 hU2 hF2=>?_)
   simp (maxSteps:=999999) only [ey,Nat.reduceBEq,reduceEqDiff,reduceLT,reduceCtorEq,reduceAdd,reduceLeDiff]
   exact hK _ (hU1.trans hU2) hF2
 by_cases k21 : op = 21
 ·subst k21
  have e : usedV [.int .i64 21,.int .i64 a,.int .i64 b,.str t,c0,c1,c2,c3,c4] = ((true || a == 0) && (true || b == 0) && (false || t == []) && (false || zeroV [c0,c1,c2,c3,c4])):=rfl
  rw [e] at hK
  simp only [Bool.true_or,Bool.false_or,Bool.true_and,Bool.and_true,Bool.false_and,Bool.and_false,decide_true,decide_false,Bool.or_true,Bool.or_false] at hK
  cases h3 : (t == []) with
  | false=>
   simp only [h3,Bool.true_or,Bool.false_or,Bool.true_and,Bool.and_true,Bool.false_and,Bool.and_false,decide_true,decide_false,Bool.or_true,Bool.or_false] at hK
   simp (maxSteps:=999999) only [ey,Nat.reduceBEq,reduceEqDiff,reduceLT,reduceCtorEq,reduceAdd,reduceLeDiff,hb,Int.reduceBEq,h3]
   exact hK _ hU1 hF1
  | true=>
   simp only [h3,Bool.true_or,Bool.false_or,Bool.true_and,Bool.and_true,Bool.false_and,Bool.and_false,decide_true,decide_false,Bool.or_true,Bool.or_false] at hK
   simp (maxSteps:=999999) only [ey,Nat.reduceBEq,reduceEqDiff,reduceLT,reduceCtorEq,reduceAdd,reduceLeDiff,hb,Int.reduceBEq,h3]
   refine callStep (f36_zero hV H1 hF1 _ fun H2 hU2 hF2=>?_)
   simp (maxSteps:=999999) only [ey,Nat.reduceBEq,reduceEqDiff,reduceLT,reduceCtorEq,reduceAdd,reduceLeDiff]
   exact hK _ (hU1.trans hU2) hF2
 by_cases k27 : op = 27
 ·subst k27
  have e : usedV [.int .i64 27,.int .i64 a,.int .i64 b,.str t,c0,c1,c2,c3,c4] = ((true || a == 0) && (true || b == 0) && (false || t == []) && (false || zeroV [c0,c1,c2,c3,c4])):=rfl
  rw [e] at hK
  simp only [Bool.true_or,Bool.false_or,Bool.true_and,Bool.and_true,Bool.false_and,Bool.and_false,decide_true,decide_false,Bool.or_true,Bool.or_false] at hK
  cases h3 : (t == []) with
  | false=>
   simp only [h3,Bool.true_or,Bool.false_or,Bool.true_and,Bool.and_true,Bool.false_and,Bool.and_false,decide_true,decide_false,Bool.or_true,Bool.or_false] at hK
   simp (maxSteps:=999999) only [ey,Nat.reduceBEq,reduceEqDiff,reduceLT,reduceCtorEq,reduceAdd,reduceLeDiff,hb,Int.reduceBEq,h3]
   exact hK _ hU1 hF1
  | true=>
   simp only [h3,Bool.true_or,Bool.false_or,Bool.true_and,Bool.and_true,Bool.false_and,Bool.and_false,decide_true,decide_false,Bool.or_true,Bool.or_false] at hK
   simp (maxSteps:=999999) only [ey,Nat.reduceBEq,reduceEqDiff,reduceLT,reduceCtorEq,reduceAdd,reduceLeDiff,hb,Int.reduceBEq,h3]
   refine callStep (f36_zero hV H1 hF1 _ fun H2 hU2 hF2=>?_)
   simp (maxSteps:=999999) only [ey,Nat.reduceBEq,reduceEqDiff,reduceLT,reduceCtorEq,reduceAdd,reduceLeDiff]
   exact hK _ (hU1.trans hU2) hF2
 by_cases k2 : op = 2
 ·subst k2
  have e : usedV [.int .i64 2,.int .i64 a,.int .i64 b,.str t,c0,c1,c2,c3,c4] = ((true || a == 0) && (false || b == 0) && (false || t == []) && (false || zeroV [c0,c1,c2,c3,c4])):=rfl
  rw [e] at hK
  simp only [Bool.true_or,Bool.false_or,Bool.true_and,Bool.and_true,Bool.false_and,Bool.and_false,decide_true,decide_false,Bool.or_true,Bool.or_false] at hK
  cases h2 : (b == 0) with
  | false=>
   simp only [h2,Bool.true_or,Bool.false_or,Bool.true_and,Bool.and_true,Bool.false_and,Bool.and_false,decide_true,decide_false,Bool.or_true,Bool.or_false] at hK
   simp (maxSteps:=999999) only [ey,Nat.reduceBEq,reduceEqDiff,reduceLT,reduceCtorEq,reduceAdd,reduceLeDiff,hb,Int.reduceBEq,h2]
   exact hK _ hU1 hF1
  | true=>
   cases h3 : (t == []) with
   | false=>
    simp only [h2,h3,Bool.true_or,Bool.false_or,Bool.true_and,Bool.and_true,Bool.false_and,Bool.and_false,decide_true,decide_false,Bool.or_true,Bool.or_false] at hK
    simp (maxSteps:=999999) only [ey,Nat.reduceBEq,reduceEqDiff,reduceLT,reduceCtorEq,reduceAdd,reduceLeDiff,hb,Int.reduceBEq,h2,h3]
    exact hK _ hU1 hF1
   | true=>
    simp only [h2,h3,Bool.true_or,Bool.false_or,Bool.true_and,Bool.and_true,Bool.false_and,Bool.and_false,decide_true,decide_false,Bool.or_true,Bool.or_false] at hK
    simp (maxSteps:=999999) only [ey,Nat.reduceBEq,reduceEqDiff,reduceLT,reduceCtorEq,reduceAdd,reduceLeDiff,hb,Int.reduceBEq,h2,h3]
    refine callStep (f36_zero hV H1 hF1 _ fun H2 hU2 hF2=>?_)
    simp (maxSteps:=999999) only [ey,Nat.reduceBEq,reduceEqDiff,reduceLT,reduceCtorEq,reduceAdd,reduceLeDiff]
    exact hK _ (hU1.trans hU2) hF2
 by_cases k3 : op = 3
 ·subst k3
  have e : usedV [.int .i64 3,.int .i64 a,.int .i64 b,.str t,c0,c1,c2,c3,c4] = ((true || a == 0) && (false || b == 0) && (false || t == []) && (false || zeroV [c0,c1,c2,c3,c4])):=rfl
  rw [e] at hK
  simp only [Bool.true_or,Bool.false_or,Bool.true_and,Bool.and_true,Bool.false_and,Bool.and_false,decide_true,decide_false,Bool.or_true,Bool.or_false] at hK
  cases h2 : (b == 0) with
  | false=>
   simp only [h2,Bool.true_or,Bool.false_or,Bool.true_and,Bool.and_true,Bool.false_and,Bool.and_false,decide_true,decide_false,Bool.or_true,Bool.or_false] at hK
   simp (maxSteps:=999999) only [ey,Nat.reduceBEq,reduceEqDiff,reduceLT,reduceCtorEq,reduceAdd,reduceLeDiff,hb,Int.reduceBEq,h2]
   exact hK _ hU1 hF1
  | true=>
   cases h3 : (t == []) with
   | false=>
    simp only [h2,h3,Bool.true_or,Bool.false_or,Bool.true_and,Bool.and_true,Bool.false_and,Bool.and_false,decide_true,decide_false,Bool.or_true,Bool.or_false] at hK
    simp (maxSteps:=999999) only [ey,Nat.reduceBEq,reduceEqDiff,reduceLT,reduceCtorEq,reduceAdd,reduceLeDiff,hb,Int.reduceBEq,h2,h3]
    exact hK _ hU1 hF1
   | true=>
    simp only [h2,h3,Bool.true_or,Bool.false_or,Bool.true_and,Bool.and_true,Bool.false_and,Bool.and_false,decide_true,decide_false,Bool.or_true,Bool.or_false] at hK
    simp (maxSteps:=999999) only [ey,Nat.reduceBEq,reduceEqDiff,reduceLT,reduceCtorEq,reduceAdd,reduceLeDiff,hb,Int.reduceBEq,h2,h3]
    refine callStep (f36_zero hV H1 hF1 _ fun H2 hU2 hF2=>?_)
    simp (maxSteps:=999999) only [ey,Nat.reduceBEq,reduceEqDiff,reduceLT,reduceCtorEq,reduceAdd,reduceLeDiff]
    exact hK _ (hU1.trans hU2) hF2
 by_cases k4 : op = 4
 ·subst k4
  have e : usedV [.int .i64 4,.int .i64 a,.int .i64 b,.str t,c0,c1,c2,c3,c4] = ((true || a == 0) && (false || b == 0) && (false || t == []) && (false || zeroV [c0,c1,c2,c3,c4])):=rfl
  rw [e] at hK
  simp only [Bool.true_or,Bool.false_or,Bool.true_and,Bool.and_true,Bool.false_and,Bool.and_false,decide_true,decide_false,Bool.or_true,Bool.or_false] at hK
  cases h2 : (b == 0) with
  | false=>
   simp only [h2,Bool.true_or,Bool.false_or,Bool.true_and,Bool.and_true,Bool.false_and,Bool.and_false,decide_true,decide_false,Bool.or_true,Bool.or_false] at hK
   simp (maxSteps:=999999) only [ey,Nat.reduceBEq,reduceEqDiff,reduceLT,reduceCtorEq,reduceAdd,reduceLeDiff,hb,Int.reduceBEq,h2]
   exact hK _ hU1 hF1
  | true=>
   cases h3 : (t == []) with
   | false=>
    simp only [h2,h3,Bool.true_or,Bool.false_or,Bool.true_and,Bool.and_true,Bool.false_and,Bool.and_false,decide_true,decide_false,Bool.or_true,Bool.or_false] at hK
    simp (maxSteps:=999999) only [ey,Nat.reduceBEq,reduceEqDiff,reduceLT,reduceCtorEq,reduceAdd,reduceLeDiff,hb,Int.reduceBEq,h2,h3]
    exact hK _ hU1 hF1
   | true=>
    simp only [h2,h3,Bool.true_or,Bool.false_or,Bool.true_and,Bool.and_true,Bool.false_and,Bool.and_false,decide_true,decide_false,Bool.or_true,Bool.or_false] at hK
    simp (maxSteps:=999999) only [ey,Nat.reduceBEq,reduceEqDiff,reduceLT,reduceCtorEq,reduceAdd,reduceLeDiff,hb,Int.reduceBEq,h2,h3]
    refine callStep (f36_zero hV H1 hF1 _ fun H2 hU2 hF2=>?_)
    simp (maxSteps:=999999) only [ey,Nat.reduceBEq,reduceEqDiff,reduceLT,reduceCtorEq,reduceAdd,reduceLeDiff]
    exact hK _ (hU1.trans hU2) hF2
 by_cases k5 : op = 5
 ·subst k5
  have e : usedV [.int .i64 5,.int .i64 a,.int .i64 b,.str t,c0,c1,c2,c3,c4] = ((true || a == 0) && (false || b == 0) && (false || t == []) && (false || zeroV [c0,c1,c2,c3,c4])):=rfl
  rw [e] at hK
  simp only [Bool.true_or,Bool.false_or,Bool.true_and,Bool.and_true,Bool.false_and,Bool.and_false,decide_true,decide_false,Bool.or_true,Bool.or_false] at hK
  cases h2 : (b == 0) with
  | false=>
   simp only [h2,Bool.true_or,Bool.false_or,Bool.true_and,Bool.and_true,Bool.false_and,Bool.and_false,decide_true,decide_false,Bool.or_true,Bool.or_false] at hK
   simp (maxSteps:=999999) only [ey,Nat.reduceBEq,reduceEqDiff,reduceLT,reduceCtorEq,reduceAdd,reduceLeDiff,hb,Int.reduceBEq,h2]
   exact hK _ hU1 hF1
  | true=>
   cases h3 : (t == []) with
   | false=>
    simp only [h2,h3,Bool.true_or,Bool.false_or,Bool.true_and,Bool.and_true,Bool.false_and,Bool.and_false,decide_true,decide_false,Bool.or_true,Bool.or_false] at hK
    simp (maxSteps:=999999) only [ey,Nat.reduceBEq,reduceEqDiff,reduceLT,reduceCtorEq,reduceAdd,reduceLeDiff,hb,Int.reduceBEq,h2,h3]
    exact hK _ hU1 hF1
   | true=>
    simp only [h2,h3,Bool.true_or,Bool.false_or,Bool.true_and,Bool.and_true,Bool.false_and,Bool.and_false,decide_true,decide_false,Bool.or_true,Bool.or_false] at hK
    simp (maxSteps:=999999) only [ey,Nat.reduceBEq,reduceEqDiff,reduceLT,reduceCtorEq,reduceAdd,reduceLeDiff,hb,Int.reduceBEq,h2,h3]
    refine callStep (f36_zero hV H1 hF1 _ fun H2 hU2 hF2=>?_)
    simp (maxSteps:=999999) only [ey,Nat.reduceBEq,reduceEqDiff,reduceLT,reduceCtorEq,reduceAdd,reduceLeDiff]
    exact hK _ (hU1.trans hU2) hF2
 by_cases k7 : op = 7
 ·subst k7
  have e : usedV [.int .i64 7,.int .i64 a,.int .i64 b,.str t,c0,c1,c2,c3,c4] = ((true || a == 0) && (false || b == 0) && (false || t == []) && (false || zeroV [c0,c1,c2,c3,c4])):=rfl
  rw [e] at hK
  simp only [Bool.true_or,Bool.false_or,Bool.true_and,Bool.and_true,Bool.false_and,Bool.and_false,decide_true,decide_false,Bool.or_true,Bool.or_false] at hK
  cases h2 : (b == 0) with
  | false=>
   simp only [h2,Bool.true_or,Bool.false_or,Bool.true_and,Bool.and_true,Bool.false_and,Bool.and_false,decide_true,decide_false,Bool.or_true,Bool.or_false] at hK
   simp (maxSteps:=999999) only [ey,Nat.reduceBEq,reduceEqDiff,reduceLT,reduceCtorEq,reduceAdd,reduceLeDiff,hb,Int.reduceBEq,h2]
   exact hK _ hU1 hF1
  | true=>
   cases h3 : (t == []) with
   | false=>
    simp only [h2,h3,Bool.true_or,Bool.false_or,Bool.true_and,Bool.and_true,Bool.false_and,Bool.and_false,decide_true,decide_false,Bool.or_true,Bool.or_false] at hK
    simp (maxSteps:=999999) only [ey,Nat.reduceBEq,reduceEqDiff,reduceLT,reduceCtorEq,reduceAdd,reduceLeDiff,hb,Int.reduceBEq,h2,h3]
    exact hK _ hU1 hF1
   | true=>
    simp only [h2,h3,Bool.true_or,Bool.false_or,Bool.true_and,Bool.and_true,Bool.false_and,Bool.and_false,decide_true,decide_false,Bool.or_true,Bool.or_false] at hK
    simp (maxSteps:=999999) only [ey,Nat.reduceBEq,reduceEqDiff,reduceLT,reduceCtorEq,reduceAdd,reduceLeDiff,hb,Int.reduceBEq,h2,h3]
    refine callStep (f36_zero hV H1 hF1 _ fun H2 hU2 hF2=>?_)
    simp (maxSteps:=999999) only [ey,Nat.reduceBEq,reduceEqDiff,reduceLT,reduceCtorEq,reduceAdd,reduceLeDiff]
    exact hK _ (hU1.trans hU2) hF2
 by_cases k8 : op = 8
 ·subst k8
  have e : usedV [.int .i64 8,.int .i64 a,.int .i64 b,.str t,c0,c1,c2,c3,c4] = ((true || a == 0) && (false || b == 0) && (false || t == []) && (false || zeroV [c0,c1,c2,c3,c4])):=rfl
  rw [e] at hK
  simp only [Bool.true_or,Bool.false_or,Bool.true_and,Bool.and_true,Bool.false_and,Bool.and_false,decide_true,decide_false,Bool.or_true,Bool.or_false] at hK
  cases h2 : (b == 0) with
  | false=>
   simp only [h2,Bool.true_or,Bool.false_or,Bool.true_and,Bool.and_true,Bool.false_and,Bool.and_false,decide_true,decide_false,Bool.or_true,Bool.or_false] at hK
   simp (maxSteps:=999999) only [ey,Nat.reduceBEq,reduceEqDiff,reduceLT,reduceCtorEq,reduceAdd,reduceLeDiff,hb,Int.reduceBEq,h2]
   exact hK _ hU1 hF1
  | true=>
   cases h3 : (t == []) with
   | false=>
    simp only [h2,h3,Bool.true_or,Bool.false_or,Bool.true_and,Bool.and_true,Bool.false_and,Bool.and_false,decide_true,decide_false,Bool.or_true,Bool.or_false] at hK
    simp (maxSteps:=999999) only [ey,Nat.reduceBEq,reduceEqDiff,reduceLT,reduceCtorEq,reduceAdd,reduceLeDiff,hb,Int.reduceBEq,h2,h3]
    exact hK _ hU1 hF1
   | true=>
    simp only [h2,h3,Bool.true_or,Bool.false_or,Bool.true_and,Bool.and_true,Bool.false_and,Bool.and_false,decide_true,decide_false,Bool.or_true,Bool.or_false] at hK
    simp (maxSteps:=999999) only [ey,Nat.reduceBEq,reduceEqDiff,reduceLT,reduceCtorEq,reduceAdd,reduceLeDiff,hb,Int.reduceBEq,h2,h3]
    refine callStep (f36_zero hV H1 hF1 _ fun H2 hU2 hF2=>?_)
    simp (maxSteps:=999999) only [ey,Nat.reduceBEq,reduceEqDiff,reduceLT,reduceCtorEq,reduceAdd,reduceLeDiff]
    exact hK _ (hU1.trans hU2) hF2
 by_cases k9 : op = 9
 ·subst k9
  have e : usedV [.int .i64 9,.int .i64 a,.int .i64 b,.str t,c0,c1,c2,c3,c4] = ((true || a == 0) && (false || b == 0) && (false || t == []) && (false || zeroV [c0,c1,c2,c3,c4])):=rfl
  rw [e] at hK
  simp only [Bool.true_or,Bool.false_or,Bool.true_and,Bool.and_true,Bool.false_and,Bool.and_false,decide_true,decide_false,Bool.or_true,Bool.or_false] at hK
  cases h2 : (b == 0) with
  | false=>
   simp only [h2,Bool.true_or,Bool.false_or,Bool.true_and,Bool.and_true,Bool.false_and,Bool.and_false,decide_true,decide_false,Bool.or_true,Bool.or_false] at hK
   simp (maxSteps:=999999) only [ey,Nat.reduceBEq,reduceEqDiff,reduceLT,reduceCtorEq,reduceAdd,reduceLeDiff,hb,Int.reduceBEq,h2]
   exact hK _ hU1 hF1
  | true=>
   cases h3 : (t == []) with
   | false=>
    simp only [h2,h3,Bool.true_or,Bool.false_or,Bool.true_and,Bool.and_true,Bool.false_and,Bool.and_false,decide_true,decide_false,Bool.or_true,Bool.or_false] at hK
    simp (maxSteps:=999999) only [ey,Nat.reduceBEq,reduceEqDiff,reduceLT,reduceCtorEq,reduceAdd,reduceLeDiff,hb,Int.reduceBEq,h2,h3]
    exact hK _ hU1 hF1
   | true=>
    simp only [h2,h3,Bool.true_or,Bool.false_or,Bool.true_and,Bool.and_true,Bool.false_and,Bool.and_false,decide_true,decide_false,Bool.or_true,Bool.or_false] at hK
    simp (maxSteps:=999999) only [ey,Nat.reduceBEq,reduceEqDiff,reduceLT,reduceCtorEq,reduceAdd,reduceLeDiff,hb,Int.reduceBEq,h2,h3]
    refine callStep (f36_zero hV H1 hF1 _ fun H2 hU2 hF2=>?_)
    simp (maxSteps:=999999) only [ey,Nat.reduceBEq,reduceEqDiff,reduceLT,reduceCtorEq,reduceAdd,reduceLeDiff]
    exact hK _ (hU1.trans hU2) hF2
 by_cases k10 : op = 10
 ·subst k10
  have e : usedV [.int .i64 10,.int .i64 a,.int .i64 b,.str t,c0,c1,c2,c3,c4] = ((true || a == 0) && (false || b == 0) && (false || t == []) && (false || zeroV [c0,c1,c2,c3,c4])):=rfl
  rw [e] at hK
  simp only [Bool.true_or,Bool.false_or,Bool.true_and,Bool.and_true,Bool.false_and,Bool.and_false,decide_true,decide_false,Bool.or_true,Bool.or_false] at hK
  cases h2 : (b == 0) with
  | false=>
   simp only [h2,Bool.true_or,Bool.false_or,Bool.true_and,Bool.and_true,Bool.false_and,Bool.and_false,decide_true,decide_false,Bool.or_true,Bool.or_false] at hK
   simp (maxSteps:=999999) only [ey,Nat.reduceBEq,reduceEqDiff,reduceLT,reduceCtorEq,reduceAdd,reduceLeDiff,hb,Int.reduceBEq,h2]
   exact hK _ hU1 hF1
  | true=>
   cases h3 : (t == []) with
   | false=>
    simp only [h2,h3,Bool.true_or,Bool.false_or,Bool.true_and,Bool.and_true,Bool.false_and,Bool.and_false,decide_true,decide_false,Bool.or_true,Bool.or_false] at hK
    simp (maxSteps:=999999) only [ey,Nat.reduceBEq,reduceEqDiff,reduceLT,reduceCtorEq,reduceAdd,reduceLeDiff,hb,Int.reduceBEq,h2,h3]
    exact hK _ hU1 hF1
   | true=>
    simp only [h2,h3,Bool.true_or,Bool.false_or,Bool.true_and,Bool.and_true,Bool.false_and,Bool.and_false,decide_true,decide_false,Bool.or_true,Bool.or_false] at hK
    simp (maxSteps:=999999) only [ey,Nat.reduceBEq,reduceEqDiff,reduceLT,reduceCtorEq,reduceAdd,reduceLeDiff,hb,Int.reduceBEq,h2,h3]
    refine callStep (f36_zero hV H1 hF1 _ fun H2 hU2 hF2=>?_)
    simp (maxSteps:=999999) only [ey,Nat.reduceBEq,reduceEqDiff,reduceLT,reduceCtorEq,reduceAdd,reduceLeDiff]
    exact hK _ (hU1.trans hU2) hF2
 by_cases k11 : op = 11
 ·subst k11
  have e : usedV [.int .i64 11,.int .i64 a,.int .i64 b,.str t,c0,c1,c2,c3,c4] = ((true || a == 0) && (false || b == 0) && (false || t == []) && (false || zeroV [c0,c1,c2,c3,c4])):=rfl
  rw [e] at hK
  simp only [Bool.true_or,Bool.false_or,Bool.true_and,Bool.and_true,Bool.false_and,Bool.and_false,decide_true,decide_false,Bool.or_true,Bool.or_false] at hK
  cases h2 : (b == 0) with
  | false=>
   simp only [h2,Bool.true_or,Bool.false_or,Bool.true_and,Bool.and_true,Bool.false_and,Bool.and_false,decide_true,decide_false,Bool.or_true,Bool.or_false] at hK
   simp (maxSteps:=999999) only [ey,Nat.reduceBEq,reduceEqDiff,reduceLT,reduceCtorEq,reduceAdd,reduceLeDiff,hb,Int.reduceBEq,h2]
   exact hK _ hU1 hF1
  | true=>
   cases h3 : (t == []) with
   | false=>
    simp only [h2,h3,Bool.true_or,Bool.false_or,Bool.true_and,Bool.and_true,Bool.false_and,Bool.and_false,decide_true,decide_false,Bool.or_true,Bool.or_false] at hK
    simp (maxSteps:=999999) only [ey,Nat.reduceBEq,reduceEqDiff,reduceLT,reduceCtorEq,reduceAdd,reduceLeDiff,hb,Int.reduceBEq,h2,h3]
    exact hK _ hU1 hF1
   | true=>
    simp only [h2,h3,Bool.true_or,Bool.false_or,Bool.true_and,Bool.and_true,Bool.false_and,Bool.and_false,decide_true,decide_false,Bool.or_true,Bool.or_false] at hK
    simp (maxSteps:=999999) only [ey,Nat.reduceBEq,reduceEqDiff,reduceLT,reduceCtorEq,reduceAdd,reduceLeDiff,hb,Int.reduceBEq,h2,h3]
    refine callStep (f36_zero hV H1 hF1 _ fun H2 hU2 hF2=>?_)
    simp (maxSteps:=999999) only [ey,Nat.reduceBEq,reduceEqDiff,reduceLT,reduceCtorEq,reduceAdd,reduceLeDiff]
    exact hK _ (hU1.trans hU2) hF2
 by_cases k12 : op = 12
 ·subst k12
  have e : usedV [.int .i64 12,.int .i64 a,.int .i64 b,.str t,c0,c1,c2,c3,c4] = ((true || a == 0) && (false || b == 0) && (false || t == []) && (false || zeroV [c0,c1,c2,c3,c4])):=rfl
  rw [e] at hK
  simp only [Bool.true_or,Bool.false_or,Bool.true_and,Bool.and_true,Bool.false_and,Bool.and_false,decide_true,decide_false,Bool.or_true,Bool.or_false] at hK
  cases h2 : (b == 0) with
  | false=>
   simp only [h2,Bool.true_or,Bool.false_or,Bool.true_and,Bool.and_true,Bool.false_and,Bool.and_false,decide_true,decide_false,Bool.or_true,Bool.or_false] at hK
   simp (maxSteps:=999999) only [ey,Nat.reduceBEq,reduceEqDiff,reduceLT,reduceCtorEq,reduceAdd,reduceLeDiff,hb,Int.reduceBEq,h2]
   exact hK _ hU1 hF1
  | true=>
   cases h3 : (t == []) with
   | false=>
    simp only [h2,h3,Bool.true_or,Bool.false_or,Bool.true_and,Bool.and_true,Bool.false_and,Bool.and_false,decide_true,decide_false,Bool.or_true,Bool.or_false] at hK
    simp (maxSteps:=999999) only [ey,Nat.reduceBEq,reduceEqDiff,reduceLT,reduceCtorEq,reduceAdd,reduceLeDiff,hb,Int.reduceBEq,h2,h3]
    exact hK _ hU1 hF1
   | true=>
    simp only [h2,h3,Bool.true_or,Bool.false_or,Bool.true_and,Bool.and_true,Bool.false_and,Bool.and_false,decide_true,decide_false,Bool.or_true,Bool.or_false] at hK
    simp (maxSteps:=999999) only [ey,Nat.reduceBEq,reduceEqDiff,reduceLT,reduceCtorEq,reduceAdd,reduceLeDiff,hb,Int.reduceBEq,h2,h3]
    refine callStep (f36_zero hV H1 hF1 _ fun H2 hU2 hF2=>?_)
    simp (maxSteps:=999999) only [ey,Nat.reduceBEq,reduceEqDiff,reduceLT,reduceCtorEq,reduceAdd,reduceLeDiff]
    exact hK _ (hU1.trans hU2) hF2
 by_cases k13 : op = 13
 ·subst k13
  have e : usedV [.int .i64 13,.int .i64 a,.int .i64 b,.str t,c0,c1,c2,c3,c4] = ((true || a == 0) && (false || b == 0) && (false || t == []) && (false || zeroV [c0,c1,c2,c3,c4])):=rfl
  rw [e] at hK
  simp only [Bool.true_or,Bool.false_or,Bool.true_and,Bool.and_true,Bool.false_and,Bool.and_false,decide_true,decide_false,Bool.or_true,Bool.or_false] at hK
  cases h2 : (b == 0) with
  | false=>
   simp only [h2,Bool.true_or,Bool.false_or,Bool.true_and,Bool.and_true,Bool.false_and,Bool.and_false,decide_true,decide_false,Bool.or_true,Bool.or_false] at hK
   simp (maxSteps:=999999) only [ey,Nat.reduceBEq,reduceEqDiff,reduceLT,reduceCtorEq,reduceAdd,reduceLeDiff,hb,Int.reduceBEq,h2]
   exact hK _ hU1 hF1
  | true=>
   cases h3 : (t == []) with
   | false=>
    simp only [h2,h3,Bool.true_or,Bool.false_or,Bool.true_and,Bool.and_true,Bool.false_and,Bool.and_false,decide_true,decide_false,Bool.or_true,Bool.or_false] at hK
    simp (maxSteps:=999999) only [ey,Nat.reduceBEq,reduceEqDiff,reduceLT,reduceCtorEq,reduceAdd,reduceLeDiff,hb,Int.reduceBEq,h2,h3]
    exact hK _ hU1 hF1
   | true=>
    simp only [h2,h3,Bool.true_or,Bool.false_or,Bool.true_and,Bool.and_true,Bool.false_and,Bool.and_false,decide_true,decide_false,Bool.or_true,Bool.or_false] at hK
    simp (maxSteps:=999999) only [ey,Nat.reduceBEq,reduceEqDiff,reduceLT,reduceCtorEq,reduceAdd,reduceLeDiff,hb,Int.reduceBEq,h2,h3]
    refine callStep (f36_zero hV H1 hF1 _ fun H2 hU2 hF2=>?_)
    simp (maxSteps:=999999) only [ey,Nat.reduceBEq,reduceEqDiff,reduceLT,reduceCtorEq,reduceAdd,reduceLeDiff]
    exact hK _ (hU1.trans hU2) hF2
 have q1 : (op == 1) = false:=by simpa using k1
 have q14 : (op == 14) = false:=by simpa using k14
 have q16 : (op == 16) = false:=by simpa using k16
 have q28 : (op == 28) = false:=by simpa using k28
 have q17 : (op == 17) = false:=by simpa using k17
 have q18 : (op == 18) = false:=by simpa using k18
 have q25 : (op == 25) = false:=by simpa using k25
 have q21 : (op == 21) = false:=by simpa using k21
 have q27 : (op == 27) = false:=by simpa using k27
 have q2 : (op == 2) = false:=by simpa using k2
 have q3 : (op == 3) = false:=by simpa using k3
 have q4 : (op == 4) = false:=by simpa using k4
 have q5 : (op == 5) = false:=by simpa using k5
 have q7 : (op == 7) = false:=by simpa using k7
 have q8 : (op == 8) = false:=by simpa using k8
 have q9 : (op == 9) = false:=by simpa using k9
 have q10 : (op == 10) = false:=by simpa using k10
 have q11 : (op == 11) = false:=by simpa using k11
 have q12 : (op == 12) = false:=by simpa using k12
 have q13 : (op == 13) = false:=by simpa using k13
 have e1 : useA op = false:=by simp [useA,k1,k14,k16,k28,k17,k18,k25,k21,k27,k2,k3,k4,k5,k7,k8,k9,k10,k11,k12,k13]
 have e2 : useB op = false:=by simp [useB,k1,k14,k16,k28,k17,k18,k25,k21,k27,k2,k3,k4,k5,k7,k8,k9,k10,k11,k12,k13]
 have e3 : useT op = false:=by simp [useT,k1,k14,k16,k28,k17,k18,k25,k21,k27,k2,k3,k4,k5,k7,k8,k9,k10,k11,k12,k13]
 have e4 : useW op = false:=by simp [useW,k1,k14,k16,k28,k17,k18,k25,k21,k27,k2,k3,k4,k5,k7,k8,k9,k10,k11,k12,k13]
 have e : usedV [.int .i64 op,.int .i64 a,.int .i64 b,.str t,c0,c1,c2,c3,c4] = ((useA op || a == 0) && (useB op || b == 0) && (useT op || t == []) && (useW op || zeroV [c0,c1,c2,c3,c4])):=rfl
 rw [e,e1,e2,e3,e4] at hK
 simp only [Bool.true_or,Bool.false_or,Bool.true_and,Bool.and_true,Bool.false_and,Bool.and_false,decide_true,decide_false,Bool.or_true,Bool.or_false] at hK
 cases h1 : (a == 0) with
 | false=>
  simp only [h1,Bool.true_or,Bool.false_or,Bool.true_and,Bool.and_true,Bool.false_and,Bool.and_false,decide_true,decide_false,Bool.or_true,Bool.or_false] at hK
  simp (maxSteps:=999999) only [ey,Nat.reduceBEq,reduceEqDiff,reduceLT,reduceCtorEq,reduceAdd,reduceLeDiff,hb,q1,q14,q16,q28,q17,q18,q25,q21,q27,q2,q3,q4,q5,q7,q8,q9,q10,q11,q12,q13,h1]
  exact hK _ hU1 hF1
 | true=>
  cases h2 : (b == 0) with
  | false=>
   simp only [h1,h2,Bool.true_or,Bool.false_or,Bool.true_and,Bool.and_true,Bool.false_and,Bool.and_false,decide_true,decide_false,Bool.or_true,Bool.or_false] at hK
   simp (maxSteps:=999999) only [ey,Nat.reduceBEq,reduceEqDiff,reduceLT,reduceCtorEq,reduceAdd,reduceLeDiff,hb,q1,q14,q16,q28,q17,q18,q25,q21,q27,q2,q3,q4,q5,q7,q8,q9,q10,q11,q12,q13,h1,h2]
   exact hK _ hU1 hF1
  | true=>
   cases h3 : (t == []) with
   | false=>
    simp only [h1,h2,h3,Bool.true_or,Bool.false_or,Bool.true_and,Bool.and_true,Bool.false_and,Bool.and_false,decide_true,decide_false,Bool.or_true,Bool.or_false] at hK
    simp (maxSteps:=999999) only [ey,Nat.reduceBEq,reduceEqDiff,reduceLT,reduceCtorEq,reduceAdd,reduceLeDiff,hb,q1,q14,q16,q28,q17,q18,q25,q21,q27,q2,q3,q4,q5,q7,q8,q9,q10,q11,q12,q13,h1,h2,h3]
    exact hK _ hU1 hF1
   | true=>
    simp only [h1,h2,h3,Bool.true_or,Bool.false_or,Bool.true_and,Bool.and_true,Bool.false_and,Bool.and_false,decide_true,decide_false,Bool.or_true,Bool.or_false] at hK
    simp (maxSteps:=999999) only [ey,Nat.reduceBEq,reduceEqDiff,reduceLT,reduceCtorEq,reduceAdd,reduceLeDiff,hb,q1,q14,q16,q28,q17,q18,q25,q21,q27,q2,q3,q4,q5,q7,q8,q9,q10,q11,q12,q13,h1,h2,h3]
    refine callStep (f36_zero hV H1 hF1 _ fun H2 hU2 hF2=>?_)
    simp (maxSteps:=999999) only [ey,Nat.reduceBEq,reduceEqDiff,reduceLT,reduceCtorEq,reduceAdd,reduceLeDiff]
    exact hK _ (hU1.trans hU2) hF2

end Go.Proofs.T
