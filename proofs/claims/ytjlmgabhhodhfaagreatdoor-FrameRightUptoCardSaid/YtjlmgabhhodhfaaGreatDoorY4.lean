import Derived.Test.YtjlmgabhhodhfaaGreatDoorY3
set_option linter.unusedVariables false
set_option linter.unusedSimpArgs false
set_option maxRecDepth 100000
namespace Go.Proofs.T
open Go.Ev
open Nat (reduceMul reducePow reduceSub reduceEqDiff reduceLT reduceAdd reduceLeDiff)
open UInt8 (reduceToNat)
theorem useT_eq (k : Int) : useT k = ((k == 16) || (k == 28)):=by
 unfold useT
 simp only [List.contains_cons,List.contains_nil,Bool.or_false]
theorem useW_eq (k : Int) : useW k = ((k == 1) || (k == 14)):=by
 unfold useW
 simp only [List.contains_cons,List.contains_nil,Bool.or_false]
def insV (n : Nat) (LF : List (List AV)) (nG : Nat) (S : Int) (L : List (List AV)) (p : Nat) (c : List AV) : Bool:=decide (opI c ≥ 1) && decide (opI c ≤ 28) && usedV c && opV n LF nG S L p c
theorem insV_code (n : Nat) (LF : List (List AV)) (nG : Nat) (S : Int) (L : List (List AV)) (p : Nat) (op a b : Int) (t : List Nat) (c0 c1 c2 c3 c4 : AV) : insV n LF nG S L p [.int .i64 op,.int .i64 a,.int .i64 b,.str t,c0,c1,c2,c3,c4] =
  ((decide (op ≥ 1) && decide (op ≤ 28)) && (opdV n LF nG S L p [.int .i64 op,.int .i64 a,.int .i64 b,.str t,c0,c1,c2,c3,c4] && ((((op == 16) || (op == 28)) || t == []) && (((op == 1) || (op == 14)) || zeroV [c0,c1,c2,c3,c4])))):=by
 rw [← useT_eq,← useW_eq]
 show ((decide (op ≥ 1) && decide (op ≤ 28)) && ((useA op || a == 0) && (useB op || b == 0) && (useT op || t == []) && (useW op || zeroV [c0,c1,c2,c3,c4])) && opV n LF nG S L p [.int .i64 op,.int .i64 a,.int .i64 b,.str t,c0,c1,c2,c3,c4]) = ((decide (op ≥ 1) && decide (op ≤ 28)) && (((useA op || a == 0) && (useB op || b == 0) && opV n LF nG S L p [.int .i64 op,.int .i64 a,.int .i64 b,.str t,c0,c1,c2,c3,c4]) && ((useT op || t == []) && (useW op || zeroV [c0,c1,c2,c3,c4]))))
 generalize (decide (op ≥ 1) && decide (op ≤ 28)) = x1
 generalize (useA op || a == 0) = x2
 generalize (useB op || b == 0) = x3
 generalize (useT op || t == []) = x4
 generalize (useW op || zeroV [c0,c1,c2,c3,c4]) = x5
 generalize opV n LF nG S L p [.int .i64 op,.int .i64 a,.int .i64 b,.str t,c0,c1,c2,c3,c4] = x6
 cases x1 <;> cases x2 <;> cases x3 <;> cases x4 <;> cases x5 <;> cases x6 <;> rfl
set_option maxHeartbeats 8000000 in
theorem f227_ok {vF vG vI vH v : AV} {nm : List Nat} {P S : Int} {n : Nat} {LF LG L : List (List AV)} (h : CkT n vF vG v LF LG S L) (p : Nat) (hp : p < L.length) (op a b : Int) (t : List Nat) (c0 c1 c2 c3 c4 : AV) (hV : VT n [c0,c1,c2,c3,c4]) (H : Heap) (hF : Free H) (K : AV → Heap → Prop) (hK : ∀ H',Up H H' → Free H' → K (.bool (insV n LF LG.length S L p [.int .i64 op,.int .i64 a,.int .i64 b,.str t,c0,c1,c2,c3,c4])) H') : WF Tryz.prog 227 [.agg [vF,vG,vI,vH,.str nm,.int .i64 P,.int .i64 S,v],.int .i64 p,.agg [.int .i64 op,.int .i64 a,.int .i64 b,.str t,c0,c1,c2,c3,c4]] H K:=by
 rw [insV_code] at hK
 refine WF_body Tryz.func227 (by kernel_rfl) rfl Tryz.ntmps227 (by rw [Tryz.results227]) (of_decide_eq_true (by kernel_rfl)) ?_
 simp (maxSteps:=999999) only [ey,Nat.reduceBEq,reduceEqDiff,reduceLT,reduceCtorEq,reduceAdd,reduceLeDiff,hF.at,hF.hp]
 generalize hH1 : HP H [Blk.row 182 8 [[vF,vG,vI,vH,.str nm,.int .i64 P,.int .i64 S,v]] 0 0,Blk.row 104 9 [[.int .i64 op,.int .i64 a,.int .i64 b,.str t,c0,c1,c2,c3,c4]] 0 0] = H1
 have hb0 : H1.blk H.next = some (.row 182 8 [[vF,vG,vI,vH,.str nm,.int .i64 P,.int .i64 S,v]] 0 0):=by rw [← hH1,hp_blk0];rfl
 have hb1 : H1.blk (H.next + 1) = some (.row 104 9 [[.int .i64 op,.int .i64 a,.int .i64 b,.str t,c0,c1,c2,c3,c4]] 0 0):=by rw [← hH1,hp_blk];rfl
 have hF1 : Free H1:=hH1 ▸ hF.hpF _
 have hU1 : Up H H1:=hH1 ▸ hF.hpU _
 refine callStep (f125_ok op 1 28 H1 hF1 _ ?_)
 cases h0 : (decide (op ≥ 1) && decide (op ≤ 28)) with
 | false=>
  simp only [h0,Bool.true_or,Bool.false_or,Bool.true_and,Bool.and_true,Bool.false_and,Bool.and_false,decide_true,decide_false,Bool.or_true,Bool.or_false] at hK
  simp (maxSteps:=999999) only [ey,Nat.reduceBEq,reduceEqDiff,reduceLT,reduceCtorEq,reduceAdd,reduceLeDiff,Bool.not_false]
  exact hK _ hU1 hF1
 | true=>
 simp (maxSteps:=999999) only [ey,Nat.reduceBEq,reduceEqDiff,reduceLT,reduceCtorEq,reduceAdd,reduceLeDiff,hb0,hb1,Bool.not_true]
 refine callStep (f307_ok h p hp op a b t c0 c1 c2 c3 c4 hV H1 hF1 _ fun H2 hU2 hF2=>?_)
 have hb1:=hU2 _ _ hb1
 have hU2:=hU1.trans hU2
 cases h9 : opdV n LF LG.length S L p [.int .i64 op,.int .i64 a,.int .i64 b,.str t,c0,c1,c2,c3,c4] with
 | false=>
  simp only [h0,h9,Bool.true_or,Bool.false_or,Bool.true_and,Bool.and_true,Bool.false_and,Bool.and_false,decide_true,decide_false,Bool.or_true,Bool.or_false] at hK
  simp (maxSteps:=999999) only [ey,Nat.reduceBEq,reduceEqDiff,reduceLT,reduceCtorEq,reduceAdd,reduceLeDiff,Bool.not_false]
  exact hK _ hU2 hF2
 | true=>
 cases h16 : (op == 16) with
 | true=>
  cases h1 : (op == 1) with
  | true=>
   simp only [h0,h9,h16,h1,Bool.true_or,Bool.false_or,Bool.true_and,Bool.and_true,Bool.false_and,Bool.and_false,decide_true,decide_false,Bool.or_true,Bool.or_false] at hK
   simp (maxSteps:=999999) only [ey,Nat.reduceBEq,reduceEqDiff,reduceLT,reduceCtorEq,reduceAdd,reduceLeDiff,hb1,Bool.not_true,h16,h1]
   exact hK _ hU2 hF2
  | false=>
   cases h14 : (op == 14) with
   | true=>
    simp only [h0,h9,h16,h1,h14,Bool.true_or,Bool.false_or,Bool.true_and,Bool.and_true,Bool.false_and,Bool.and_false,decide_true,decide_false,Bool.or_true,Bool.or_false] at hK
    simp (maxSteps:=999999) only [ey,Nat.reduceBEq,reduceEqDiff,reduceLT,reduceCtorEq,reduceAdd,reduceLeDiff,hb1,Bool.not_true,h16,h1,h14]
    exact hK _ hU2 hF2
   | false=>
    simp only [h0,h9,h16,h1,h14,Bool.true_or,Bool.false_or,Bool.true_and,Bool.and_true,Bool.false_and,Bool.and_false,decide_true,decide_false,Bool.or_true,Bool.or_false] at hK
    simp (maxSteps:=999999) only [ey,Nat.reduceBEq,reduceEqDiff,reduceLT,reduceCtorEq,reduceAdd,reduceLeDiff,hb1,Bool.not_true,h16,h1,h14]
    refine callStep (f158_zero hV H2 hF2 _ fun H3 hU3 hF3=>?_)
    simp (maxSteps:=999999) only [ey,Nat.reduceBEq,reduceEqDiff,reduceLT,reduceCtorEq,reduceAdd,reduceLeDiff]
    exact hK _ (hU2.trans hU3) hF3
 | false=>
  cases h28 : (op == 28) with
  | true=>
   cases h1 : (op == 1) with
   | true=>
    simp only [h0,h9,h16,h28,h1,Bool.true_or,Bool.false_or,Bool.true_and,Bool.and_true,Bool.false_and,Bool.and_false,decide_true,decide_false,Bool.or_true,Bool.or_false] at hK
    simp (maxSteps:=999999) only [ey,Nat.reduceBEq,reduceEqDiff,reduceLT,reduceCtorEq,reduceAdd,reduceLeDiff,hb1,Bool.not_true,h16,h28,h1]
    exact hK _ hU2 hF2
   | false=>
    cases h14 : (op == 14) with
    | true=>
     simp only [h0,h9,h16,h28,h1,h14,Bool.true_or,Bool.false_or,Bool.true_and,Bool.and_true,Bool.false_and,Bool.and_false,decide_true,decide_false,Bool.or_true,Bool.or_false] at hK
     simp (maxSteps:=999999) only [ey,Nat.reduceBEq,reduceEqDiff,reduceLT,reduceCtorEq,reduceAdd,reduceLeDiff,hb1,Bool.not_true,h16,h28,h1,h14]
     exact hK _ hU2 hF2
    | false=>
     simp only [h0,h9,h16,h28,h1,h14,Bool.true_or,Bool.false_or,Bool.true_and,Bool.and_true,Bool.false_and,Bool.and_false,decide_true,decide_false,Bool.or_true,Bool.or_false] at hK
     simp (maxSteps:=999999) only [ey,Nat.reduceBEq,reduceEqDiff,reduceLT,reduceCtorEq,reduceAdd,reduceLeDiff,hb1,Bool.not_true,h16,h28,h1,h14]
     refine callStep (f158_zero hV H2 hF2 _ fun H3 hU3 hF3=>?_)
     simp (maxSteps:=999999) only [ey,Nat.reduceBEq,reduceEqDiff,reduceLT,reduceCtorEq,reduceAdd,reduceLeDiff]
     exact hK _ (hU2.trans hU3) hF3
  | false=>
   cases ht : (t == []) with
   | true=>
    cases h1 : (op == 1) with
    | true=>
     simp only [h0,h9,h16,h28,ht,h1,Bool.true_or,Bool.false_or,Bool.true_and,Bool.and_true,Bool.false_and,Bool.and_false,decide_true,decide_false,Bool.or_true,Bool.or_false] at hK
     simp (maxSteps:=999999) only [ey,Nat.reduceBEq,reduceEqDiff,reduceLT,reduceCtorEq,reduceAdd,reduceLeDiff,hb1,Bool.not_true,h16,h28,ht,h1]
     exact hK _ hU2 hF2
    | false=>
     cases h14 : (op == 14) with
     | true=>
      simp only [h0,h9,h16,h28,ht,h1,h14,Bool.true_or,Bool.false_or,Bool.true_and,Bool.and_true,Bool.false_and,Bool.and_false,decide_true,decide_false,Bool.or_true,Bool.or_false] at hK
      simp (maxSteps:=999999) only [ey,Nat.reduceBEq,reduceEqDiff,reduceLT,reduceCtorEq,reduceAdd,reduceLeDiff,hb1,Bool.not_true,h16,h28,ht,h1,h14]
      exact hK _ hU2 hF2
     | false=>
      simp only [h0,h9,h16,h28,ht,h1,h14,Bool.true_or,Bool.false_or,Bool.true_and,Bool.and_true,Bool.false_and,Bool.and_false,decide_true,decide_false,Bool.or_true,Bool.or_false] at hK
      simp (maxSteps:=999999) only [ey,Nat.reduceBEq,reduceEqDiff,reduceLT,reduceCtorEq,reduceAdd,reduceLeDiff,hb1,Bool.not_true,h16,h28,ht,h1,h14]
      refine callStep (f158_zero hV H2 hF2 _ fun H3 hU3 hF3=>?_)
      simp (maxSteps:=999999) only [ey,Nat.reduceBEq,reduceEqDiff,reduceLT,reduceCtorEq,reduceAdd,reduceLeDiff]
      exact hK _ (hU2.trans hU3) hF3
   | false=>
    simp only [h0,h9,h16,h28,ht,Bool.true_or,Bool.false_or,Bool.true_and,Bool.and_true,Bool.false_and,Bool.and_false,decide_true,decide_false,Bool.or_true,Bool.or_false] at hK
    cases h1 : (op == 1) with
    | true=>
     simp (maxSteps:=999999) only [ey,Nat.reduceBEq,reduceEqDiff,reduceLT,reduceCtorEq,reduceAdd,reduceLeDiff,hb1,Bool.not_true,h16,h28,ht,h1]
     exact hK _ hU2 hF2
    | false=>
     cases h14 : (op == 14) with
     | true=>
      simp (maxSteps:=999999) only [ey,Nat.reduceBEq,reduceEqDiff,reduceLT,reduceCtorEq,reduceAdd,reduceLeDiff,hb1,Bool.not_true,h16,h28,ht,h1,h14]
      exact hK _ hU2 hF2
     | false=>
      simp (maxSteps:=999999) only [ey,Nat.reduceBEq,reduceEqDiff,reduceLT,reduceCtorEq,reduceAdd,reduceLeDiff,hb1,Bool.not_true,h16,h28,ht,h1,h14]
      exact hK _ hU2 hF2
end Go.Proofs.T
