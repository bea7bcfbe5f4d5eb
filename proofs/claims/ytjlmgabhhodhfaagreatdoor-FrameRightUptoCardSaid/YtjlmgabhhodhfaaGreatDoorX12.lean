import Derived.Test.YtjlmgabhhodhfaaGreatDoorX11
set_option linter.unusedVariables false
set_option linter.unusedSimpArgs false
set_option maxRecDepth 100000
namespace Go.Proofs.T
open Go.Ev
open Nat (reduceMul reducePow reduceSub reduceEqDiff reduceLT reduceAdd reduceLeDiff)
open UInt8 (reduceToNat)
def arityV (s : List Nat) : Int × Int × Int:=
 if (s == [108,101,110]) = true then (1,1,1) else
 if (s == [115,116,114]) = true then (1,1,1) else
 if (s == [105,110,116]) = true then (1,1,1) else
 if (s == [107,101,121,115]) = true then (1,1,1) else
 if (s == [112,117,115,104]) = true then (2,2,1) else
 if (s == [104,97,115]) = true then (2,2,1) else
 if (s == [112,117,116]) = true then (3,3,1) else
 if (s == [97,99,116,105,118,105,116,121]) = true then (2,3,2) else
 if (s == [116,105,109,101,114]) = true then (1,1,2) else
 if (s == [114,101,99,101,105,118,101]) = true then (1,1,2) else
 if (s == [99,104,105,108,100]) = true then (3,4,2) else
 if (s == [115,101,110,100]) = true then (3,3,2) else
 if (s == [99,97,110,99,101,108,108,97,116,105,111,110]) = true then (0,0,2) else
 if (s == [110,111,119]) = true then (0,0,3) else
 if (s == [99,97,110,99,101,108,108,101,100]) = true then (0,0,3) else
 if (s == [114,97,110,100,111,109]) = true then (1,1,3) else
 if (s == [114,101,99,111,114,100]) = true then (1,1,3) else
 if (s == [100,111,110,101]) = true then (1,1,3) else
 if (s == [99,97,110,99,101,108]) = true then (1,1,3) else
 if (s == [97,116,116,114,115]) = true then (1,1,3) else
 if (s == [99,111,110,116,105,110,117,101,65,115]) = true then (1,1,3) else
 if (s == [99,97,110,99,101,108,101,100]) = true then (1,1,3) else
 if (s == [118,101,114,115,105,111,110]) = true then (2,2,3) else
 (0,0,0)
set_option maxHeartbeats 8000000 in
theorem f170_ok (s : List Nat) (H : Heap) (hF : Free H) (K : AV → Heap → Prop) (hK : K (.tuple [.int .i64 (arityV s).1,.int .i64 (arityV s).2.1,.int .i64 (arityV s).2.2]) H) : WF Tryz.prog 170 [.str s] H K:=by
 refine WF_body Tryz.func170 (by kernel_rfl) rfl Tryz.ntmps170 (by rw [Tryz.results170]) (of_decide_eq_true (by kernel_rfl)) ?_
 unfold arityV at hK
 cases k0 : (s == [108,101,110]) with
 | true=>
  simp only [k0,if_true] at hK
  simp (maxSteps:=999999) only [gx,implies_true,reduceMul,reducePow,reduceSub,Nat.reduceBEq,reduceToNat,reduceEqDiff,reduceLT,reduceCtorEq,reduceAdd,reduceLeDiff,k0]
  exact hK
 | false=>
 simp only [k0,Bool.false_eq_true,if_false] at hK
 cases k1 : (s == [115,116,114]) with
 | true=>
  simp only [k1,if_true] at hK
  simp (maxSteps:=999999) only [gx,implies_true,reduceMul,reducePow,reduceSub,Nat.reduceBEq,reduceToNat,reduceEqDiff,reduceLT,reduceCtorEq,reduceAdd,reduceLeDiff,k0,k1]
  exact hK
 | false=>
 simp only [k1,Bool.false_eq_true,if_false] at hK
 cases k2 : (s == [105,110,116]) with
 | true=>
  simp only [k2,if_true] at hK
  simp (maxSteps:=999999) only [gx,implies_true,reduceMul,reducePow,reduceSub,Nat.reduceBEq,reduceToNat,reduceEqDiff,reduceLT,reduceCtorEq,reduceAdd,reduceLeDiff,k0,k1,k2]
  exact hK
 | false=>
 simp only [k2,Bool.false_eq_true,if_false] at hK
 cases k3 : (s == [107,101,121,115]) with
 | true=>
  simp only [k3,if_true] at hK
  simp (maxSteps:=999999) only [gx,implies_true,reduceMul,reducePow,reduceSub,Nat.reduceBEq,reduceToNat,reduceEqDiff,reduceLT,reduceCtorEq,reduceAdd,reduceLeDiff,k0,k1,k2,k3]
  exact hK
 | false=>
 simp only [k3,Bool.false_eq_true,if_false] at hK
 cases k4 : (s == [112,117,115,104]) with
 | true=>
  simp only [k4,if_true] at hK
  simp (maxSteps:=999999) only [gx,implies_true,reduceMul,reducePow,reduceSub,Nat.reduceBEq,reduceToNat,reduceEqDiff,reduceLT,reduceCtorEq,reduceAdd,reduceLeDiff,k0,k1,k2,k3,k4]
  exact hK
 | false=>
 simp only [k4,Bool.false_eq_true,if_false] at hK
 cases k5 : (s == [104,97,115]) with
 | true=>
  simp only [k5,if_true] at hK
  simp (maxSteps:=999999) only [gx,implies_true,reduceMul,reducePow,reduceSub,Nat.reduceBEq,reduceToNat,reduceEqDiff,reduceLT,reduceCtorEq,reduceAdd,reduceLeDiff,k0,k1,k2,k3,k4,k5]
  exact hK
 | false=>
 simp only [k5,Bool.false_eq_true,if_false] at hK
 cases k6 : (s == [112,117,116]) with
 | true=>
  simp only [k6,if_true] at hK
  simp (maxSteps:=999999) only [gx,implies_true,reduceMul,reducePow,reduceSub,Nat.reduceBEq,reduceToNat,reduceEqDiff,reduceLT,reduceCtorEq,reduceAdd,reduceLeDiff,k0,k1,k2,k3,k4,k5,k6]
  exact hK
 | false=>
 simp only [k6,Bool.false_eq_true,if_false] at hK
 cases k7 : (s == [97,99,116,105,118,105,116,121]) with
 | true=>
  simp only [k7,if_true] at hK
  simp (maxSteps:=999999) only [gx,implies_true,reduceMul,reducePow,reduceSub,Nat.reduceBEq,reduceToNat,reduceEqDiff,reduceLT,reduceCtorEq,reduceAdd,reduceLeDiff,k0,k1,k2,k3,k4,k5,k6,k7]
  exact hK
 | false=>
 simp only [k7,Bool.false_eq_true,if_false] at hK
 cases k8 : (s == [116,105,109,101,114]) with
 | true=>
  simp only [k8,if_true] at hK
  simp (maxSteps:=999999) only [gx,implies_true,reduceMul,reducePow,reduceSub,Nat.reduceBEq,reduceToNat,reduceEqDiff,reduceLT,reduceCtorEq,reduceAdd,reduceLeDiff,k0,k1,k2,k3,k4,k5,k6,k7,k8]
  exact hK
 | false=>
 simp only [k8,Bool.false_eq_true,if_false] at hK
 cases k9 : (s == [114,101,99,101,105,118,101]) with
 | true=>
  simp only [k9,if_true] at hK
  simp (maxSteps:=999999) only [gx,implies_true,reduceMul,reducePow,reduceSub,Nat.reduceBEq,reduceToNat,reduceEqDiff,reduceLT,reduceCtorEq,reduceAdd,reduceLeDiff,k0,k1,k2,k3,k4,k5,k6,k7,k8,k9]
  exact hK
 | false=>
 simp only [k9,Bool.false_eq_true,if_false] at hK
 cases k10 : (s == [99,104,105,108,100]) with
 | true=>
  simp only [k10,if_true] at hK
  simp (maxSteps:=999999) only [gx,implies_true,reduceMul,reducePow,reduceSub,Nat.reduceBEq,reduceToNat,reduceEqDiff,reduceLT,reduceCtorEq,reduceAdd,reduceLeDiff,k0,k1,k2,k3,k4,k5,k6,k7,k8,k9,k10]
  exact hK
 | false=>
 simp only [k10,Bool.false_eq_true,if_false] at hK
 cases k11 : (s == [115,101,110,100]) with
 | true=>
  simp only [k11,if_true] at hK
  simp (maxSteps:=999999) only [gx,implies_true,reduceMul,reducePow,reduceSub,Nat.reduceBEq,reduceToNat,reduceEqDiff,reduceLT,reduceCtorEq,reduceAdd,reduceLeDiff,k0,k1,k2,k3,k4,k5,k6,k7,k8,k9,k10,k11]
  exact hK
 | false=>
 simp only [k11,Bool.false_eq_true,if_false] at hK
 cases k12 : (s == [99,97,110,99,101,108,108,97,116,105,111,110]) with
 | true=>
  simp only [k12,if_true] at hK
  simp (maxSteps:=999999) only [gx,implies_true,reduceMul,reducePow,reduceSub,Nat.reduceBEq,reduceToNat,reduceEqDiff,reduceLT,reduceCtorEq,reduceAdd,reduceLeDiff,k0,k1,k2,k3,k4,k5,k6,k7,k8,k9,k10,k11,k12]
  exact hK
 | false=>
 simp only [k12,Bool.false_eq_true,if_false] at hK
 cases k13 : (s == [110,111,119]) with
 | true=>
  simp only [k13,if_true] at hK
  simp (maxSteps:=999999) only [gx,implies_true,reduceMul,reducePow,reduceSub,Nat.reduceBEq,reduceToNat,reduceEqDiff,reduceLT,reduceCtorEq,reduceAdd,reduceLeDiff,k0,k1,k2,k3,k4,k5,k6,k7,k8,k9,k10,k11,k12,k13]
  exact hK
 | false=>
 simp only [k13,Bool.false_eq_true,if_false] at hK
 cases k14 : (s == [99,97,110,99,101,108,108,101,100]) with
 | true=>
  simp only [k14,if_true] at hK
  simp (maxSteps:=999999) only [gx,implies_true,reduceMul,reducePow,reduceSub,Nat.reduceBEq,reduceToNat,reduceEqDiff,reduceLT,reduceCtorEq,reduceAdd,reduceLeDiff,k0,k1,k2,k3,k4,k5,k6,k7,k8,k9,k10,k11,k12,k13,k14]
  exact hK
 | false=>
 simp only [k14,Bool.false_eq_true,if_false] at hK
 cases k15 : (s == [114,97,110,100,111,109]) with
 | true=>
  simp only [k15,if_true] at hK
  simp (maxSteps:=999999) only [gx,implies_true,reduceMul,reducePow,reduceSub,Nat.reduceBEq,reduceToNat,reduceEqDiff,reduceLT,reduceCtorEq,reduceAdd,reduceLeDiff,k0,k1,k2,k3,k4,k5,k6,k7,k8,k9,k10,k11,k12,k13,k14,k15]
  exact hK
 | false=>
 simp only [k15,Bool.false_eq_true,if_false] at hK
 cases k16 : (s == [114,101,99,111,114,100]) with
 | true=>
  simp only [k16,if_true] at hK
  simp (maxSteps:=999999) only [gx,implies_true,reduceMul,reducePow,reduceSub,Nat.reduceBEq,reduceToNat,reduceEqDiff,reduceLT,reduceCtorEq,reduceAdd,reduceLeDiff,k0,k1,k2,k3,k4,k5,k6,k7,k8,k9,k10,k11,k12,k13,k14,k15,k16]
  exact hK
 | false=>
 simp only [k16,Bool.false_eq_true,if_false] at hK
 cases k17 : (s == [100,111,110,101]) with
 | true=>
  simp only [k17,if_true] at hK
  simp (maxSteps:=999999) only [gx,implies_true,reduceMul,reducePow,reduceSub,Nat.reduceBEq,reduceToNat,reduceEqDiff,reduceLT,reduceCtorEq,reduceAdd,reduceLeDiff,k0,k1,k2,k3,k4,k5,k6,k7,k8,k9,k10,k11,k12,k13,k14,k15,k16,k17]
  exact hK
 | false=>
 simp only [k17,Bool.false_eq_true,if_false] at hK
 cases k18 : (s == [99,97,110,99,101,108]) with
 | true=>
  simp only [k18,if_true] at hK
  simp (maxSteps:=999999) only [gx,implies_true,reduceMul,reducePow,reduceSub,Nat.reduceBEq,reduceToNat,reduceEqDiff,reduceLT,reduceCtorEq,reduceAdd,reduceLeDiff,k0,k1,k2,k3,k4,k5,k6,k7,k8,k9,k10,k11,k12,k13,k14,k15,k16,k17,k18]
  exact hK
 | false=>
 simp only [k18,Bool.false_eq_true,if_false] at hK
 cases k19 : (s == [97,116,116,114,115]) with
 | true=>
  simp only [k19,if_true] at hK
  simp (maxSteps:=999999) only [gx,implies_true,reduceMul,reducePow,reduceSub,Nat.reduceBEq,reduceToNat,reduceEqDiff,reduceLT,reduceCtorEq,reduceAdd,reduceLeDiff,k0,k1,k2,k3,k4,k5,k6,k7,k8,k9,k10,k11,k12,k13,k14,k15,k16,k17,k18,k19]
  exact hK
 | false=>
 simp only [k19,Bool.false_eq_true,if_false] at hK
 cases k20 : (s == [99,111,110,116,105,110,117,101,65,115]) with
 | true=>
  simp only [k20,if_true] at hK
  simp (maxSteps:=999999) only [gx,implies_true,reduceMul,reducePow,reduceSub,Nat.reduceBEq,reduceToNat,reduceEqDiff,reduceLT,reduceCtorEq,reduceAdd,reduceLeDiff,k0,k1,k2,k3,k4,k5,k6,k7,k8,k9,k10,k11,k12,k13,k14,k15,k16,k17,k18,k19,k20]
  exact hK
 | false=>
 simp only [k20,Bool.false_eq_true,if_false] at hK
 cases k21 : (s == [99,97,110,99,101,108,101,100]) with
 | true=>
  simp only [k21,if_true] at hK
  simp (maxSteps:=999999) only [gx,implies_true,reduceMul,reducePow,reduceSub,Nat.reduceBEq,reduceToNat,reduceEqDiff,reduceLT,reduceCtorEq,reduceAdd,reduceLeDiff,k0,k1,k2,k3,k4,k5,k6,k7,k8,k9,k10,k11,k12,k13,k14,k15,k16,k17,k18,k19,k20,k21]
  exact hK
 | false=>
 simp only [k21,Bool.false_eq_true,if_false] at hK
 cases k22 : (s == [118,101,114,115,105,111,110]) with
 | true=>
  simp only [k22,if_true] at hK
  simp (maxSteps:=999999) only [gx,implies_true,reduceMul,reducePow,reduceSub,Nat.reduceBEq,reduceToNat,reduceEqDiff,reduceLT,reduceCtorEq,reduceAdd,reduceLeDiff,k0,k1,k2,k3,k4,k5,k6,k7,k8,k9,k10,k11,k12,k13,k14,k15,k16,k17,k18,k19,k20,k21,k22]
  exact hK
 | false=>
 simp only [k22,Bool.false_eq_true,if_false] at hK
 simp (maxSteps:=999999) only [gx,implies_true,reduceMul,reducePow,reduceSub,Nat.reduceBEq,reduceToNat,reduceEqDiff,reduceLT,reduceCtorEq,reduceAdd,reduceLeDiff,k0,k1,k2,k3,k4,k5,k6,k7,k8,k9,k10,k11,k12,k13,k14,k15,k16,k17,k18,k19,k20,k21,k22]
 exact hK

set_option maxHeartbeats 8000000 in
theorem f194_ok (s : List Nat) (H : Heap) (hF : Free H) (K : AV → Heap → Prop) (hK : K (.tuple [.int .i64 (arityV s).1,.int .i64 (arityV s).2.1,.int .i64 (arityV s).2.2]) H) : WF Tryz.prog 194 [.str s] H K:=by
 refine WF_body Tryz.func194 (by kernel_rfl) rfl Tryz.ntmps194 (by rw [Tryz.results194]) (of_decide_eq_true (by kernel_rfl)) ?_
 unfold arityV at hK
 cases k0 : (s == [108,101,110]) with
 | true=>
  simp only [k0,if_true] at hK
  simp (maxSteps:=999999) only [gx,implies_true,reduceMul,reducePow,reduceSub,Nat.reduceBEq,reduceToNat,reduceEqDiff,reduceLT,reduceCtorEq,reduceAdd,reduceLeDiff,k0]
  exact hK
 | false=>
 simp only [k0,Bool.false_eq_true,if_false] at hK
 cases k1 : (s == [115,116,114]) with
 | true=>
  simp only [k1,if_true] at hK
  simp (maxSteps:=999999) only [gx,implies_true,reduceMul,reducePow,reduceSub,Nat.reduceBEq,reduceToNat,reduceEqDiff,reduceLT,reduceCtorEq,reduceAdd,reduceLeDiff,k0,k1]
  exact hK
 | false=>
 simp only [k1,Bool.false_eq_true,if_false] at hK
 cases k2 : (s == [105,110,116]) with
 | true=>
  simp only [k2,if_true] at hK
  simp (maxSteps:=999999) only [gx,implies_true,reduceMul,reducePow,reduceSub,Nat.reduceBEq,reduceToNat,reduceEqDiff,reduceLT,reduceCtorEq,reduceAdd,reduceLeDiff,k0,k1,k2]
  exact hK
 | false=>
 simp only [k2,Bool.false_eq_true,if_false] at hK
 cases k3 : (s == [107,101,121,115]) with
 | true=>
  simp only [k3,if_true] at hK
  simp (maxSteps:=999999) only [gx,implies_true,reduceMul,reducePow,reduceSub,Nat.reduceBEq,reduceToNat,reduceEqDiff,reduceLT,reduceCtorEq,reduceAdd,reduceLeDiff,k0,k1,k2,k3]
  exact hK
 | false=>
 simp only [k3,Bool.false_eq_true,if_false] at hK
 cases k4 : (s == [112,117,115,104]) with
 | true=>
  simp only [k4,if_true] at hK
  simp (maxSteps:=999999) only [gx,implies_true,reduceMul,reducePow,reduceSub,Nat.reduceBEq,reduceToNat,reduceEqDiff,reduceLT,reduceCtorEq,reduceAdd,reduceLeDiff,k0,k1,k2,k3,k4]
  exact hK
 | false=>
 simp only [k4,Bool.false_eq_true,if_false] at hK
 cases k5 : (s == [104,97,115]) with
 | true=>
  simp only [k5,if_true] at hK
  simp (maxSteps:=999999) only [gx,implies_true,reduceMul,reducePow,reduceSub,Nat.reduceBEq,reduceToNat,reduceEqDiff,reduceLT,reduceCtorEq,reduceAdd,reduceLeDiff,k0,k1,k2,k3,k4,k5]
  exact hK
 | false=>
 simp only [k5,Bool.false_eq_true,if_false] at hK
 cases k6 : (s == [112,117,116]) with
 | true=>
  simp only [k6,if_true] at hK
  simp (maxSteps:=999999) only [gx,implies_true,reduceMul,reducePow,reduceSub,Nat.reduceBEq,reduceToNat,reduceEqDiff,reduceLT,reduceCtorEq,reduceAdd,reduceLeDiff,k0,k1,k2,k3,k4,k5,k6]
  exact hK
 | false=>
 simp only [k6,Bool.false_eq_true,if_false] at hK
 cases k7 : (s == [97,99,116,105,118,105,116,121]) with
 | true=>
  simp only [k7,if_true] at hK
  simp (maxSteps:=999999) only [gx,implies_true,reduceMul,reducePow,reduceSub,Nat.reduceBEq,reduceToNat,reduceEqDiff,reduceLT,reduceCtorEq,reduceAdd,reduceLeDiff,k0,k1,k2,k3,k4,k5,k6,k7]
  exact hK
 | false=>
 simp only [k7,Bool.false_eq_true,if_false] at hK
 cases k8 : (s == [116,105,109,101,114]) with
 | true=>
  simp only [k8,if_true] at hK
  simp (maxSteps:=999999) only [gx,implies_true,reduceMul,reducePow,reduceSub,Nat.reduceBEq,reduceToNat,reduceEqDiff,reduceLT,reduceCtorEq,reduceAdd,reduceLeDiff,k0,k1,k2,k3,k4,k5,k6,k7,k8]
  exact hK
 | false=>
 simp only [k8,Bool.false_eq_true,if_false] at hK
 cases k9 : (s == [114,101,99,101,105,118,101]) with
 | true=>
  simp only [k9,if_true] at hK
  simp (maxSteps:=999999) only [gx,implies_true,reduceMul,reducePow,reduceSub,Nat.reduceBEq,reduceToNat,reduceEqDiff,reduceLT,reduceCtorEq,reduceAdd,reduceLeDiff,k0,k1,k2,k3,k4,k5,k6,k7,k8,k9]
  exact hK
 | false=>
 simp only [k9,Bool.false_eq_true,if_false] at hK
 cases k10 : (s == [99,104,105,108,100]) with
 | true=>
  simp only [k10,if_true] at hK
  simp (maxSteps:=999999) only [gx,implies_true,reduceMul,reducePow,reduceSub,Nat.reduceBEq,reduceToNat,reduceEqDiff,reduceLT,reduceCtorEq,reduceAdd,reduceLeDiff,k0,k1,k2,k3,k4,k5,k6,k7,k8,k9,k10]
  exact hK
 | false=>
 simp only [k10,Bool.false_eq_true,if_false] at hK
 cases k11 : (s == [115,101,110,100]) with
 | true=>
  simp only [k11,if_true] at hK
  simp (maxSteps:=999999) only [gx,implies_true,reduceMul,reducePow,reduceSub,Nat.reduceBEq,reduceToNat,reduceEqDiff,reduceLT,reduceCtorEq,reduceAdd,reduceLeDiff,k0,k1,k2,k3,k4,k5,k6,k7,k8,k9,k10,k11]
  exact hK
 | false=>
 simp only [k11,Bool.false_eq_true,if_false] at hK
 cases k12 : (s == [99,97,110,99,101,108,108,97,116,105,111,110]) with
 | true=>
  simp only [k12,if_true] at hK
  simp (maxSteps:=999999) only [gx,implies_true,reduceMul,reducePow,reduceSub,Nat.reduceBEq,reduceToNat,reduceEqDiff,reduceLT,reduceCtorEq,reduceAdd,reduceLeDiff,k0,k1,k2,k3,k4,k5,k6,k7,k8,k9,k10,k11,k12]
  exact hK
 | false=>
 simp only [k12,Bool.false_eq_true,if_false] at hK
 cases k13 : (s == [110,111,119]) with
 | true=>
  simp only [k13,if_true] at hK
  simp (maxSteps:=999999) only [gx,implies_true,reduceMul,reducePow,reduceSub,Nat.reduceBEq,reduceToNat,reduceEqDiff,reduceLT,reduceCtorEq,reduceAdd,reduceLeDiff,k0,k1,k2,k3,k4,k5,k6,k7,k8,k9,k10,k11,k12,k13]
  exact hK
 | false=>
 simp only [k13,Bool.false_eq_true,if_false] at hK
 cases k14 : (s == [99,97,110,99,101,108,108,101,100]) with
 | true=>
  simp only [k14,if_true] at hK
  simp (maxSteps:=999999) only [gx,implies_true,reduceMul,reducePow,reduceSub,Nat.reduceBEq,reduceToNat,reduceEqDiff,reduceLT,reduceCtorEq,reduceAdd,reduceLeDiff,k0,k1,k2,k3,k4,k5,k6,k7,k8,k9,k10,k11,k12,k13,k14]
  exact hK
 | false=>
 simp only [k14,Bool.false_eq_true,if_false] at hK
 cases k15 : (s == [114,97,110,100,111,109]) with
 | true=>
  simp only [k15,if_true] at hK
  simp (maxSteps:=999999) only [gx,implies_true,reduceMul,reducePow,reduceSub,Nat.reduceBEq,reduceToNat,reduceEqDiff,reduceLT,reduceCtorEq,reduceAdd,reduceLeDiff,k0,k1,k2,k3,k4,k5,k6,k7,k8,k9,k10,k11,k12,k13,k14,k15]
  exact hK
 | false=>
 simp only [k15,Bool.false_eq_true,if_false] at hK
 cases k16 : (s == [114,101,99,111,114,100]) with
 | true=>
  simp only [k16,if_true] at hK
  simp (maxSteps:=999999) only [gx,implies_true,reduceMul,reducePow,reduceSub,Nat.reduceBEq,reduceToNat,reduceEqDiff,reduceLT,reduceCtorEq,reduceAdd,reduceLeDiff,k0,k1,k2,k3,k4,k5,k6,k7,k8,k9,k10,k11,k12,k13,k14,k15,k16]
  exact hK
 | false=>
 simp only [k16,Bool.false_eq_true,if_false] at hK
 cases k17 : (s == [100,111,110,101]) with
 | true=>
  simp only [k17,if_true] at hK
  simp (maxSteps:=999999) only [gx,implies_true,reduceMul,reducePow,reduceSub,Nat.reduceBEq,reduceToNat,reduceEqDiff,reduceLT,reduceCtorEq,reduceAdd,reduceLeDiff,k0,k1,k2,k3,k4,k5,k6,k7,k8,k9,k10,k11,k12,k13,k14,k15,k16,k17]
  exact hK
 | false=>
 simp only [k17,Bool.false_eq_true,if_false] at hK
 cases k18 : (s == [99,97,110,99,101,108]) with
 | true=>
  simp only [k18,if_true] at hK
  simp (maxSteps:=999999) only [gx,implies_true,reduceMul,reducePow,reduceSub,Nat.reduceBEq,reduceToNat,reduceEqDiff,reduceLT,reduceCtorEq,reduceAdd,reduceLeDiff,k0,k1,k2,k3,k4,k5,k6,k7,k8,k9,k10,k11,k12,k13,k14,k15,k16,k17,k18]
  exact hK
 | false=>
 simp only [k18,Bool.false_eq_true,if_false] at hK
 cases k19 : (s == [97,116,116,114,115]) with
 | true=>
  simp only [k19,if_true] at hK
  simp (maxSteps:=999999) only [gx,implies_true,reduceMul,reducePow,reduceSub,Nat.reduceBEq,reduceToNat,reduceEqDiff,reduceLT,reduceCtorEq,reduceAdd,reduceLeDiff,k0,k1,k2,k3,k4,k5,k6,k7,k8,k9,k10,k11,k12,k13,k14,k15,k16,k17,k18,k19]
  exact hK
 | false=>
 simp only [k19,Bool.false_eq_true,if_false] at hK
 cases k20 : (s == [99,111,110,116,105,110,117,101,65,115]) with
 | true=>
  simp only [k20,if_true] at hK
  simp (maxSteps:=999999) only [gx,implies_true,reduceMul,reducePow,reduceSub,Nat.reduceBEq,reduceToNat,reduceEqDiff,reduceLT,reduceCtorEq,reduceAdd,reduceLeDiff,k0,k1,k2,k3,k4,k5,k6,k7,k8,k9,k10,k11,k12,k13,k14,k15,k16,k17,k18,k19,k20]
  exact hK
 | false=>
 simp only [k20,Bool.false_eq_true,if_false] at hK
 cases k21 : (s == [99,97,110,99,101,108,101,100]) with
 | true=>
  simp only [k21,if_true] at hK
  simp (maxSteps:=999999) only [gx,implies_true,reduceMul,reducePow,reduceSub,Nat.reduceBEq,reduceToNat,reduceEqDiff,reduceLT,reduceCtorEq,reduceAdd,reduceLeDiff,k0,k1,k2,k3,k4,k5,k6,k7,k8,k9,k10,k11,k12,k13,k14,k15,k16,k17,k18,k19,k20,k21]
  exact hK
 | false=>
 simp only [k21,Bool.false_eq_true,if_false] at hK
 cases k22 : (s == [118,101,114,115,105,111,110]) with
 | true=>
  simp only [k22,if_true] at hK
  simp (maxSteps:=999999) only [gx,implies_true,reduceMul,reducePow,reduceSub,Nat.reduceBEq,reduceToNat,reduceEqDiff,reduceLT,reduceCtorEq,reduceAdd,reduceLeDiff,k0,k1,k2,k3,k4,k5,k6,k7,k8,k9,k10,k11,k12,k13,k14,k15,k16,k17,k18,k19,k20,k21,k22]
  exact hK
 | false=>
 simp only [k22,Bool.false_eq_true,if_false] at hK
 simp (maxSteps:=999999) only [gx,implies_true,reduceMul,reducePow,reduceSub,Nat.reduceBEq,reduceToNat,reduceEqDiff,reduceLT,reduceCtorEq,reduceAdd,reduceLeDiff,k0,k1,k2,k3,k4,k5,k6,k7,k8,k9,k10,k11,k12,k13,k14,k15,k16,k17,k18,k19,k20,k21,k22]
 exact hK

end Go.Proofs.T
