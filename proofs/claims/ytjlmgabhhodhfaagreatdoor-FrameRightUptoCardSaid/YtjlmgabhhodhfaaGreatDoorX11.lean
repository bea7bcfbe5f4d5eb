import Derived.Test.YtjlmgabhhodhfaaGreatDoorX4X10
set_option linter.unusedVariables false
set_option linter.unusedSimpArgs false
set_option maxRecDepth 100000
namespace Go.Proofs.T
open Go.Ev
open Nat (reduceMul reducePow reduceSub reduceEqDiff reduceLT reduceAdd reduceLeDiff)
open UInt8 (reduceToNat)
def pos0 (n : Int) : Int:=if 0 > n then 0 else n
def effV (k a b : Int) : Int × Int:=
 if k = 1 ∨ k = 2 ∨ k = 4 then (0,1) else
 if k = 3 ∨ k = 5 ∨ k = 6 ∨ k = 8 ∨ k = 9 ∨ k = 10 ∨ k = 19 ∨ k = 20 then (1,0) else
 if k = 11 ∨ k = 16 ∨ k = 26 then (1,1) else
 if k = 12 ∨ k = 15 then (2,1) else
 if k = 13 ∨ k = 14 then (pos0 a,1) else
 if k = 17 ∨ k = 18 ∨ k = 28 then (pos0 b,1) else
 if k = 25 then (pos0 b,0) else
 if k = 27 then (pos0 a,0) else
 (0,0)
theorem f178_ok (n : Int) (H : Heap) (hF : Free H) (K : AV → Heap → Prop) (hK : ∀ H',Up H H' → Free H' → K (.int .i64 (pos0 n)) H') : WF Tryz.prog 178 [.int .i64 n] H K:=by
 refine WF_body Tryz.func178 (by kernel_rfl) rfl Tryz.ntmps178 (by rw [Tryz.results178]) (of_decide_eq_true (by kernel_rfl)) ?_
 unfold pos0 at hK
 by_cases h : n < 0
 ·rw [if_pos (show 0 > n from h)] at hK
  simp (maxSteps:=999999) only [gx,Nat.reduceBEq,reduceEqDiff,reduceLT,reduceCtorEq,reduceAdd,reduceLeDiff,h]
  exact hK _ (Up.refl _) hF
 ·rw [if_neg (show ¬ 0 > n from h)] at hK
  simp (maxSteps:=999999) only [gx,Nat.reduceBEq,reduceEqDiff,reduceLT,reduceCtorEq,reduceAdd,reduceLeDiff,h]
  exact hK _ (Up.refl _) hF
theorem f125_ok (n l h : Int) (H : Heap) (hF : Free H) (K : AV → Heap → Prop) (hK : K (.bool (decide (n ≥ l) && decide (n ≤ h))) H) : WF Tryz.prog 125 [.int .i64 n,.int .i64 l,.int .i64 h] H K:=by
 refine WF_body Tryz.func125 (by kernel_rfl) rfl Tryz.ntmps125 (by rw [Tryz.results125]) (of_decide_eq_true (by kernel_rfl)) ?_
 by_cases h1 : n ≥ l
 ·simp (maxSteps:=999999) only [gx,Nat.reduceBEq,reduceEqDiff,reduceLT,reduceCtorEq,reduceAdd,reduceLeDiff,h1]
  simpa [h1] using hK
 ·simp (maxSteps:=999999) only [gx,Nat.reduceBEq,reduceEqDiff,reduceLT,reduceCtorEq,reduceAdd,reduceLeDiff,h1]
  simpa [h1] using hK
set_option maxHeartbeats 8000000 in
theorem f107_ok (k a b : Int) (t : List Nat) (c0 c1 c2 c3 c4 : AV) (hc : AV.isCell c0 = true ∧ AV.isCell c1 = true ∧ AV.isCell c2 = true ∧ AV.isCell c3 = true ∧ AV.isCell c4 = true) (H : Heap) (hF : Free H) (K : AV → Heap → Prop) (hK : ∀ H',Up H H' → Free H' → K (.tuple [.int .i64 (effV k a b).1,.int .i64 (effV k a b).2]) H') : WF Tryz.prog 107 [.agg [.int .i64 k,.int .i64 a,.int .i64 b,.str t,c0,c1,c2,c3,c4]] H K:=by
 obtain ⟨i0,i1,i2,i3,i4⟩:=hc
 refine WF_body Tryz.func107 (by kernel_rfl) rfl Tryz.ntmps107 (by rw [Tryz.results107]) (of_decide_eq_true (by kernel_rfl)) ?_
 simp (maxSteps:=999999) only [gx,Nat.reduceBEq,reduceEqDiff,reduceLT,reduceCtorEq,reduceAdd,reduceLeDiff,hF.at,hF.hp,i0,i1,i2,i3,i4]
 generalize hH1 : HP H [Blk.row 104 9 [[.int .i64 k,.int .i64 a,.int .i64 b,.str t,c0,c1,c2,c3,c4]] 0 0] = H1
 have hb : H1.blk H.next = some (.row 104 9 [[.int .i64 k,.int .i64 a,.int .i64 b,.str t,c0,c1,c2,c3,c4]] 0 0):=by rw [← hH1,hp_blk0];rfl
 have hF1 : Free H1:=hH1 ▸ hF.hpF _
 have hU1 : Up H H1:=hH1 ▸ hF.hpU _
 have hK:=fun G (hU : Up H1 G) (hG : Free G)=>hK G (hU1.trans hU) hG
 by_cases k1 : k = 1
 ·subst k1
  simp (maxSteps:=999999) only [gx,Nat.reduceBEq,reduceEqDiff,reduceLT,reduceCtorEq,reduceAdd,reduceLeDiff,hb,mx3,Int.reduceBEq]
  exact hK _ (Up.refl _) hF1
 by_cases k2 : k = 2
 ·subst k2
  simp (maxSteps:=999999) only [gx,Nat.reduceBEq,reduceEqDiff,reduceLT,reduceCtorEq,reduceAdd,reduceLeDiff,hb,mx3,Int.reduceBEq]
  exact hK _ (Up.refl _) hF1
 by_cases k4 : k = 4
 ·subst k4
  simp (maxSteps:=999999) only [gx,Nat.reduceBEq,reduceEqDiff,reduceLT,reduceCtorEq,reduceAdd,reduceLeDiff,hb,mx3,Int.reduceBEq]
  exact hK _ (Up.refl _) hF1
 by_cases k3 : k = 3
 ·subst k3
  simp (maxSteps:=999999) only [gx,Nat.reduceBEq,reduceEqDiff,reduceLT,reduceCtorEq,reduceAdd,reduceLeDiff,hb,mx3,Int.reduceBEq]
  exact hK _ (Up.refl _) hF1
 by_cases k5 : k = 5
 ·subst k5
  simp (maxSteps:=999999) only [gx,Nat.reduceBEq,reduceEqDiff,reduceLT,reduceCtorEq,reduceAdd,reduceLeDiff,hb,mx3,Int.reduceBEq]
  exact hK _ (Up.refl _) hF1
 by_cases k6 : k = 6
 ·subst k6
  simp (maxSteps:=999999) only [gx,Nat.reduceBEq,reduceEqDiff,reduceLT,reduceCtorEq,reduceAdd,reduceLeDiff,hb,mx3,Int.reduceBEq]
  exact hK _ (Up.refl _) hF1
 by_cases k8 : k = 8
 ·subst k8
  simp (maxSteps:=999999) only [gx,Nat.reduceBEq,reduceEqDiff,reduceLT,reduceCtorEq,reduceAdd,reduceLeDiff,hb,mx3,Int.reduceBEq]
  exact hK _ (Up.refl _) hF1
 by_cases k9 : k = 9
 ·subst k9
  simp (maxSteps:=999999) only [gx,Nat.reduceBEq,reduceEqDiff,reduceLT,reduceCtorEq,reduceAdd,reduceLeDiff,hb,mx3,Int.reduceBEq]
  exact hK _ (Up.refl _) hF1
 by_cases k10 : k = 10
 ·subst k10
  simp (maxSteps:=999999) only [gx,Nat.reduceBEq,reduceEqDiff,reduceLT,reduceCtorEq,reduceAdd,reduceLeDiff,hb,mx3,Int.reduceBEq]
  exact hK _ (Up.refl _) hF1
 by_cases k19 : k = 19
 ·subst k19
  simp (maxSteps:=999999) only [gx,Nat.reduceBEq,reduceEqDiff,reduceLT,reduceCtorEq,reduceAdd,reduceLeDiff,hb,mx3,Int.reduceBEq]
  exact hK _ (Up.refl _) hF1
 by_cases k20 : k = 20
 ·subst k20
  simp (maxSteps:=999999) only [gx,Nat.reduceBEq,reduceEqDiff,reduceLT,reduceCtorEq,reduceAdd,reduceLeDiff,hb,mx3,Int.reduceBEq]
  exact hK _ (Up.refl _) hF1
 by_cases k11 : k = 11
 ·subst k11
  simp (maxSteps:=999999) only [gx,Nat.reduceBEq,reduceEqDiff,reduceLT,reduceCtorEq,reduceAdd,reduceLeDiff,hb,mx3,Int.reduceBEq]
  exact hK _ (Up.refl _) hF1
 by_cases k16 : k = 16
 ·subst k16
  simp (maxSteps:=999999) only [gx,Nat.reduceBEq,reduceEqDiff,reduceLT,reduceCtorEq,reduceAdd,reduceLeDiff,hb,mx3,Int.reduceBEq]
  exact hK _ (Up.refl _) hF1
 by_cases k26 : k = 26
 ·subst k26
  simp (maxSteps:=999999) only [gx,Nat.reduceBEq,reduceEqDiff,reduceLT,reduceCtorEq,reduceAdd,reduceLeDiff,hb,mx3,Int.reduceBEq]
  exact hK _ (Up.refl _) hF1
 by_cases k12 : k = 12
 ·subst k12
  simp (maxSteps:=999999) only [gx,Nat.reduceBEq,reduceEqDiff,reduceLT,reduceCtorEq,reduceAdd,reduceLeDiff,hb,mx3,Int.reduceBEq]
  exact hK _ (Up.refl _) hF1
 by_cases k15 : k = 15
 ·subst k15
  simp (maxSteps:=999999) only [gx,Nat.reduceBEq,reduceEqDiff,reduceLT,reduceCtorEq,reduceAdd,reduceLeDiff,hb,mx3,Int.reduceBEq]
  exact hK _ (Up.refl _) hF1
 by_cases k13 : k = 13
 ·subst k13
  simp (maxSteps:=999999) only [gx,Nat.reduceBEq,reduceEqDiff,reduceLT,reduceCtorEq,reduceAdd,reduceLeDiff,hb,Int.reduceBEq]
  refine callStep (f178_ok _ H1 hF1 _ fun G hU hG=>?_)
  simp (maxSteps:=999999) only [gx,Nat.reduceBEq,reduceEqDiff,reduceLT,reduceCtorEq,reduceAdd,reduceLeDiff]
  exact hK _ hU hG
 by_cases k14 : k = 14
 ·subst k14
  simp (maxSteps:=999999) only [gx,Nat.reduceBEq,reduceEqDiff,reduceLT,reduceCtorEq,reduceAdd,reduceLeDiff,hb,Int.reduceBEq]
  refine callStep (f178_ok _ H1 hF1 _ fun G hU hG=>?_)
  simp (maxSteps:=999999) only [gx,Nat.reduceBEq,reduceEqDiff,reduceLT,reduceCtorEq,reduceAdd,reduceLeDiff]
  exact hK _ hU hG
 by_cases k17 : k = 17
 ·subst k17
  simp (maxSteps:=999999) only [gx,Nat.reduceBEq,reduceEqDiff,reduceLT,reduceCtorEq,reduceAdd,reduceLeDiff,hb,Int.reduceBEq]
  refine callStep (f178_ok _ H1 hF1 _ fun G hU hG=>?_)
  simp (maxSteps:=999999) only [gx,Nat.reduceBEq,reduceEqDiff,reduceLT,reduceCtorEq,reduceAdd,reduceLeDiff]
  exact hK _ hU hG
 by_cases k18 : k = 18
 ·subst k18
  simp (maxSteps:=999999) only [gx,Nat.reduceBEq,reduceEqDiff,reduceLT,reduceCtorEq,reduceAdd,reduceLeDiff,hb,Int.reduceBEq]
  refine callStep (f178_ok _ H1 hF1 _ fun G hU hG=>?_)
  simp (maxSteps:=999999) only [gx,Nat.reduceBEq,reduceEqDiff,reduceLT,reduceCtorEq,reduceAdd,reduceLeDiff]
  exact hK _ hU hG
 by_cases k28 : k = 28
 ·subst k28
  simp (maxSteps:=999999) only [gx,Nat.reduceBEq,reduceEqDiff,reduceLT,reduceCtorEq,reduceAdd,reduceLeDiff,hb,Int.reduceBEq]
  refine callStep (f178_ok _ H1 hF1 _ fun G hU hG=>?_)
  simp (maxSteps:=999999) only [gx,Nat.reduceBEq,reduceEqDiff,reduceLT,reduceCtorEq,reduceAdd,reduceLeDiff]
  exact hK _ hU hG
 by_cases k25 : k = 25
 ·subst k25
  simp (maxSteps:=999999) only [gx,Nat.reduceBEq,reduceEqDiff,reduceLT,reduceCtorEq,reduceAdd,reduceLeDiff,hb,Int.reduceBEq]
  refine callStep (f178_ok _ H1 hF1 _ fun G hU hG=>?_)
  simp (maxSteps:=999999) only [gx,Nat.reduceBEq,reduceEqDiff,reduceLT,reduceCtorEq,reduceAdd,reduceLeDiff]
  exact hK _ hU hG
 by_cases k27 : k = 27
 ·subst k27
  simp (maxSteps:=999999) only [gx,Nat.reduceBEq,reduceEqDiff,reduceLT,reduceCtorEq,reduceAdd,reduceLeDiff,hb,Int.reduceBEq]
  refine callStep (f178_ok _ H1 hF1 _ fun G hU hG=>?_)
  simp (maxSteps:=999999) only [gx,Nat.reduceBEq,reduceEqDiff,reduceLT,reduceCtorEq,reduceAdd,reduceLeDiff]
  exact hK _ hU hG
 have q1 : (k == 1) = false:=by simpa using k1
 have q2 : (k == 2) = false:=by simpa using k2
 have q4 : (k == 4) = false:=by simpa using k4
 have q3 : (k == 3) = false:=by simpa using k3
 have q5 : (k == 5) = false:=by simpa using k5
 have q6 : (k == 6) = false:=by simpa using k6
 have q8 : (k == 8) = false:=by simpa using k8
 have q9 : (k == 9) = false:=by simpa using k9
 have q10 : (k == 10) = false:=by simpa using k10
 have q19 : (k == 19) = false:=by simpa using k19
 have q20 : (k == 20) = false:=by simpa using k20
 have q11 : (k == 11) = false:=by simpa using k11
 have q16 : (k == 16) = false:=by simpa using k16
 have q26 : (k == 26) = false:=by simpa using k26
 have q12 : (k == 12) = false:=by simpa using k12
 have q15 : (k == 15) = false:=by simpa using k15
 have q13 : (k == 13) = false:=by simpa using k13
 have q14 : (k == 14) = false:=by simpa using k14
 have q17 : (k == 17) = false:=by simpa using k17
 have q18 : (k == 18) = false:=by simpa using k18
 have q28 : (k == 28) = false:=by simpa using k28
 have q25 : (k == 25) = false:=by simpa using k25
 have q27 : (k == 27) = false:=by simpa using k27
 simp (maxSteps:=999999) only [gx,Nat.reduceBEq,reduceEqDiff,reduceLT,reduceCtorEq,reduceAdd,reduceLeDiff,q1,q2,q4,q3,q5,q6,q8,q9,q10,q19,q20,q11,q16,q26,q12,q15,q13,q14,q17,q18,q28,q25,q27]
 have e : effV k a b = (0,0):=by simp [effV,k1,k2,k4,k3,k5,k6,k8,k9,k10,k19,k20,k11,k16,k26,k12,k15,k13,k14,k17,k18,k28,k25,k27]
 rw [e] at hK
 exact hK _ (Up.refl _) hF1

set_option maxHeartbeats 8000000 in
theorem f51_ok (k a b : Int) (t : List Nat) (c0 c1 c2 c3 c4 : AV) (hc : AV.isCell c0 = true ∧ AV.isCell c1 = true ∧ AV.isCell c2 = true ∧ AV.isCell c3 = true ∧ AV.isCell c4 = true) (H : Heap) (hF : Free H) (K : AV → Heap → Prop) (hK : ∀ H',Up H H' → Free H' → K (.tuple [.int .i64 (effV k a b).1,.int .i64 (effV k a b).2]) H') : WF Tryz.prog 51 [.agg [.int .i64 k,.int .i64 a,.int .i64 b,.str t,c0,c1,c2,c3,c4]] H K:=by
 obtain ⟨i0,i1,i2,i3,i4⟩:=hc
 refine WF_body Tryz.func51 (by kernel_rfl) rfl Tryz.ntmps51 (by rw [Tryz.results51]) (of_decide_eq_true (by kernel_rfl)) ?_
 simp (maxSteps:=999999) only [gx,Nat.reduceBEq,reduceEqDiff,reduceLT,reduceCtorEq,reduceAdd,reduceLeDiff,hF.at,hF.hp,i0,i1,i2,i3,i4]
 generalize hH1 : HP H [Blk.row 104 9 [[.int .i64 k,.int .i64 a,.int .i64 b,.str t,c0,c1,c2,c3,c4]] 0 0] = H1
 have hb : H1.blk H.next = some (.row 104 9 [[.int .i64 k,.int .i64 a,.int .i64 b,.str t,c0,c1,c2,c3,c4]] 0 0):=by rw [← hH1,hp_blk0];rfl
 have hF1 : Free H1:=hH1 ▸ hF.hpF _
 have hU1 : Up H H1:=hH1 ▸ hF.hpU _
 have hK:=fun G (hU : Up H1 G) (hG : Free G)=>hK G (hU1.trans hU) hG
 by_cases k1 : k = 1
 ·subst k1
  simp (maxSteps:=999999) only [gx,Nat.reduceBEq,reduceEqDiff,reduceLT,reduceCtorEq,reduceAdd,reduceLeDiff,hb,mx3,Int.reduceBEq]
  exact hK _ (Up.refl _) hF1
 by_cases k2 : k = 2
 ·subst k2
  simp (maxSteps:=999999) only [gx,Nat.reduceBEq,reduceEqDiff,reduceLT,reduceCtorEq,reduceAdd,reduceLeDiff,hb,mx3,Int.reduceBEq]
  exact hK _ (Up.refl _) hF1
 by_cases k4 : k = 4
 ·subst k4
  simp (maxSteps:=999999) only [gx,Nat.reduceBEq,reduceEqDiff,reduceLT,reduceCtorEq,reduceAdd,reduceLeDiff,hb,mx3,Int.reduceBEq]
  exact hK _ (Up.refl _) hF1
 by_cases k3 : k = 3
 ·subst k3
  simp (maxSteps:=999999) only [gx,Nat.reduceBEq,reduceEqDiff,reduceLT,reduceCtorEq,reduceAdd,reduceLeDiff,hb,mx3,Int.reduceBEq]
  exact hK _ (Up.refl _) hF1
 by_cases k5 : k = 5
 ·subst k5
  simp (maxSteps:=999999) only [gx,Nat.reduceBEq,reduceEqDiff,reduceLT,reduceCtorEq,reduceAdd,reduceLeDiff,hb,mx3,Int.reduceBEq]
  exact hK _ (Up.refl _) hF1
 by_cases k6 : k = 6
 ·subst k6
  simp (maxSteps:=999999) only [gx,Nat.reduceBEq,reduceEqDiff,reduceLT,reduceCtorEq,reduceAdd,reduceLeDiff,hb,mx3,Int.reduceBEq]
  exact hK _ (Up.refl _) hF1
 by_cases k8 : k = 8
 ·subst k8
  simp (maxSteps:=999999) only [gx,Nat.reduceBEq,reduceEqDiff,reduceLT,reduceCtorEq,reduceAdd,reduceLeDiff,hb,mx3,Int.reduceBEq]
  exact hK _ (Up.refl _) hF1
 by_cases k9 : k = 9
 ·subst k9
  simp (maxSteps:=999999) only [gx,Nat.reduceBEq,reduceEqDiff,reduceLT,reduceCtorEq,reduceAdd,reduceLeDiff,hb,mx3,Int.reduceBEq]
  exact hK _ (Up.refl _) hF1
 by_cases k10 : k = 10
 ·subst k10
  simp (maxSteps:=999999) only [gx,Nat.reduceBEq,reduceEqDiff,reduceLT,reduceCtorEq,reduceAdd,reduceLeDiff,hb,mx3,Int.reduceBEq]
  exact hK _ (Up.refl _) hF1
 by_cases k19 : k = 19
 ·subst k19
  simp (maxSteps:=999999) only [gx,Nat.reduceBEq,reduceEqDiff,reduceLT,reduceCtorEq,reduceAdd,reduceLeDiff,hb,mx3,Int.reduceBEq]
  exact hK _ (Up.refl _) hF1
 by_cases k20 : k = 20
 ·subst k20
  simp (maxSteps:=999999) only [gx,Nat.reduceBEq,reduceEqDiff,reduceLT,reduceCtorEq,reduceAdd,reduceLeDiff,hb,mx3,Int.reduceBEq]
  exact hK _ (Up.refl _) hF1
 by_cases k11 : k = 11
 ·subst k11
  simp (maxSteps:=999999) only [gx,Nat.reduceBEq,reduceEqDiff,reduceLT,reduceCtorEq,reduceAdd,reduceLeDiff,hb,mx3,Int.reduceBEq]
  exact hK _ (Up.refl _) hF1
 by_cases k16 : k = 16
 ·subst k16
  simp (maxSteps:=999999) only [gx,Nat.reduceBEq,reduceEqDiff,reduceLT,reduceCtorEq,reduceAdd,reduceLeDiff,hb,mx3,Int.reduceBEq]
  exact hK _ (Up.refl _) hF1
 by_cases k26 : k = 26
 ·subst k26
  simp (maxSteps:=999999) only [gx,Nat.reduceBEq,reduceEqDiff,reduceLT,reduceCtorEq,reduceAdd,reduceLeDiff,hb,mx3,Int.reduceBEq]
  exact hK _ (Up.refl _) hF1
 by_cases k12 : k = 12
 ·subst k12
  simp (maxSteps:=999999) only [gx,Nat.reduceBEq,reduceEqDiff,reduceLT,reduceCtorEq,reduceAdd,reduceLeDiff,hb,mx3,Int.reduceBEq]
  exact hK _ (Up.refl _) hF1
 by_cases k15 : k = 15
 ·subst k15
  simp (maxSteps:=999999) only [gx,Nat.reduceBEq,reduceEqDiff,reduceLT,reduceCtorEq,reduceAdd,reduceLeDiff,hb,mx3,Int.reduceBEq]
  exact hK _ (Up.refl _) hF1
 by_cases k13 : k = 13
 ·subst k13
  simp (maxSteps:=999999) only [gx,Nat.reduceBEq,reduceEqDiff,reduceLT,reduceCtorEq,reduceAdd,reduceLeDiff,hb,mx3,Int.reduceBEq]
  exact hK _ (Up.refl _) hF1
 by_cases k14 : k = 14
 ·subst k14
  simp (maxSteps:=999999) only [gx,Nat.reduceBEq,reduceEqDiff,reduceLT,reduceCtorEq,reduceAdd,reduceLeDiff,hb,mx3,Int.reduceBEq]
  exact hK _ (Up.refl _) hF1
 by_cases k17 : k = 17
 ·subst k17
  simp (maxSteps:=999999) only [gx,Nat.reduceBEq,reduceEqDiff,reduceLT,reduceCtorEq,reduceAdd,reduceLeDiff,hb,mx3,Int.reduceBEq]
  exact hK _ (Up.refl _) hF1
 by_cases k18 : k = 18
 ·subst k18
  simp (maxSteps:=999999) only [gx,Nat.reduceBEq,reduceEqDiff,reduceLT,reduceCtorEq,reduceAdd,reduceLeDiff,hb,mx3,Int.reduceBEq]
  exact hK _ (Up.refl _) hF1
 by_cases k28 : k = 28
 ·subst k28
  simp (maxSteps:=999999) only [gx,Nat.reduceBEq,reduceEqDiff,reduceLT,reduceCtorEq,reduceAdd,reduceLeDiff,hb,mx3,Int.reduceBEq]
  exact hK _ (Up.refl _) hF1
 by_cases k25 : k = 25
 ·subst k25
  simp (maxSteps:=999999) only [gx,Nat.reduceBEq,reduceEqDiff,reduceLT,reduceCtorEq,reduceAdd,reduceLeDiff,hb,mx3,Int.reduceBEq]
  exact hK _ (Up.refl _) hF1
 by_cases k27 : k = 27
 ·subst k27
  simp (maxSteps:=999999) only [gx,Nat.reduceBEq,reduceEqDiff,reduceLT,reduceCtorEq,reduceAdd,reduceLeDiff,hb,mx3,Int.reduceBEq]
  exact hK _ (Up.refl _) hF1
 have q1 : (k == 1) = false:=by simpa using k1
 have q2 : (k == 2) = false:=by simpa using k2
 have q4 : (k == 4) = false:=by simpa using k4
 have q3 : (k == 3) = false:=by simpa using k3
 have q5 : (k == 5) = false:=by simpa using k5
 have q6 : (k == 6) = false:=by simpa using k6
 have q8 : (k == 8) = false:=by simpa using k8
 have q9 : (k == 9) = false:=by simpa using k9
 have q10 : (k == 10) = false:=by simpa using k10
 have q19 : (k == 19) = false:=by simpa using k19
 have q20 : (k == 20) = false:=by simpa using k20
 have q11 : (k == 11) = false:=by simpa using k11
 have q16 : (k == 16) = false:=by simpa using k16
 have q26 : (k == 26) = false:=by simpa using k26
 have q12 : (k == 12) = false:=by simpa using k12
 have q15 : (k == 15) = false:=by simpa using k15
 have q13 : (k == 13) = false:=by simpa using k13
 have q14 : (k == 14) = false:=by simpa using k14
 have q17 : (k == 17) = false:=by simpa using k17
 have q18 : (k == 18) = false:=by simpa using k18
 have q28 : (k == 28) = false:=by simpa using k28
 have q25 : (k == 25) = false:=by simpa using k25
 have q27 : (k == 27) = false:=by simpa using k27
 simp (maxSteps:=999999) only [gx,Nat.reduceBEq,reduceEqDiff,reduceLT,reduceCtorEq,reduceAdd,reduceLeDiff,q1,q2,q4,q3,q5,q6,q8,q9,q10,q19,q20,q11,q16,q26,q12,q15,q13,q14,q17,q18,q28,q25,q27]
 have e : effV k a b = (0,0):=by simp [effV,k1,k2,k4,k3,k5,k6,k8,k9,k10,k19,k20,k11,k16,k26,k12,k15,k13,k14,k17,k18,k28,k25,k27]
 rw [e] at hK
 exact hK _ (Up.refl _) hF1

end Go.Proofs.T
