import Derived.Test.YtjlmgabhhodhfaaGreatDoorX7G1
import Derived.Test.YtjlmgabhhodhfaaGreatDoorFTy3XD
import Derived.Test.YtjlmgabhhodhfaaGreatDoorEvQGT
set_option linter.unusedVariables false
set_option linter.unusedSimpArgs false
set_option maxRecDepth 100000
namespace Go.Proofs.T
open Go.Ev
open Nat (reduceMul reducePow reduceSub reduceEqDiff reduceLT reduceAdd reduceLeDiff)
open UInt8 (reduceToNat)
theorem app319 : appB Tryz.prog 319 319 322 2 16 = true:=by kernel_rfl
theorem app201 : appB Tryz.prog 201 201 200 2 16 = true:=by kernel_rfl
set_option maxHeartbeats 4000000 in
theorem f308_ok (p : Nat) (h : Int) (op a b : Int) (t : List Nat) (c0 c1 c2 c3 c4 : AV) (hp : p < 2 ^ 60) (h0 : 0 ≤ h) (h1 : h ≤ 200) (hm : minI [.int .i64 op,.int .i64 a,.int .i64 b,.str t,c0,c1,c2,c3,c4] ≤ h) (hj : JmpOk [.int .i64 op,.int .i64 a,.int .i64 b,.str t,c0,c1,c2,c3,c4]) (hcl : AV.isCell c0 = true ∧ AV.isCell c1 = true ∧ AV.isCell c2 = true ∧ AV.isCell c3 = true ∧ AV.isCell c4 = true) (H : Heap) (hF : Free H) (K : AV → Heap → Prop) (hK : ∀ u H',Up H H' → Free H' → Own H H' 322 2 u (mvCells (mvI [.int .i64 op,.int .i64 a,.int .i64 b,.str t,c0,c1,c2,c3,c4] p h)) → K u H') : WF Tryz.prog 308 [.int .i64 p,.int .i64 h,.agg [.int .i64 op,.int .i64 a,.int .i64 b,.str t,c0,c1,c2,c3,c4]] H K:=by
 obtain ⟨i0,i1,i2,i3,i4⟩:=hcl
 have w1 : IntKind.i64.wrap ((p : Int) + 1) = ((p + 1 : Nat) : Int):=by rw [IntWalk.i64_in _ (by omega)];omega
 have w2 : IntKind.i64.wrap (h - 1) = h - 1:=IntWalk.i64_in _ (by omega)
 refine WF_body Tryz.func308 (by kernel_rfl) rfl Tryz.ntmps308 (by rw [Tryz.results308]) (of_decide_eq_true (by kernel_rfl)) ?_
 simp (maxSteps:=999999) only [ey,implies_true,reduceMul,reducePow,reduceSub,Nat.reduceBEq,reduceToNat,reduceEqDiff,reduceLT,reduceCtorEq,reduceAdd,reduceLeDiff,hF.at,hF.hp,i0,i1,i2,i3,i4,w1]
 generalize hH1 : HP H [Blk.row 104 9 [[.int .i64 op,.int .i64 a,.int .i64 b,.str t,c0,c1,c2,c3,c4]] 0 0] = H1
 have hb : H1.blk H.next = some (.row 104 9 [[.int .i64 op,.int .i64 a,.int .i64 b,.str t,c0,c1,c2,c3,c4]] 0 0):=by rw [← hH1,hp_blk0];rfl
 have hF1 : Free H1:=hH1 ▸ hF.hpF _
 have hU1 : Up H H1:=hH1 ▸ hF.hpU _
 refine callStep (f51_ok op a b t c0 c1 c2 c3 c4 ⟨i0,i1,i2,i3,i4⟩ H1 hF1 _ fun H2 hU2 hF2=>?_)
 have hb:=hU2 _ _ hb
 have hU2:=hU1.trans hU2
 by_cases k19 : op = 19
 ·subst k19
  simp (maxSteps:=999999) only [ey,implies_true,reduceMul,reducePow,reduceSub,Nat.reduceBEq,reduceToNat,reduceEqDiff,reduceLT,reduceCtorEq,reduceAdd,reduceLeDiff,hb,w1,w2,hF2.at,hF2.hp,Int.reduceBEq]
  exact hK _ _ hU2 hF2 Own.nil
 by_cases k20 : op = 20
 ·subst k20
  simp (maxSteps:=999999) only [ey,implies_true,reduceMul,reducePow,reduceSub,Nat.reduceBEq,reduceToNat,reduceEqDiff,reduceLT,reduceCtorEq,reduceAdd,reduceLeDiff,hb,w1,w2,hF2.at,hF2.hp,Int.reduceBEq]
  exact hK _ _ hU2 hF2 Own.nil
 by_cases k7 : op = 7
 ·subst k7
  have ha:=hj.1 (.inl rfl)
  simp only [aI,List.getD_cons_succ,List.getD_cons_zero] at ha
  obtain ⟨x,rfl⟩:=Int.eq_ofNat_of_zero_le ha.1
  have e : mvI [.int .i64 7,.int .i64 (x : Int),.int .i64 b,.str t,c0,c1,c2,c3,c4] p h = [(x,h)]:=rfl
  rw [e] at hK
  simp (maxSteps:=999999) only [ey,implies_true,reduceMul,reducePow,reduceSub,Nat.reduceBEq,reduceToNat,reduceEqDiff,reduceLT,reduceCtorEq,reduceAdd,reduceLeDiff,hb,w1,w2,hF2.at,hF2.hp,Int.reduceBEq]
  exact hK _ _ (hU2.trans (hF2.hpU _)) (hF2.hpF _) ((own_hp (k:=0) hF2 (Up.refl _) rfl rfl (by simp [mvCells,AV.isCell])).base hU2)
 by_cases k8 : op = 8
 ·subst k8
  have ha:=hj.1 (.inr (.inl rfl))
  simp only [aI,List.getD_cons_succ,List.getD_cons_zero] at ha
  obtain ⟨x,rfl⟩:=Int.eq_ofNat_of_zero_le ha.1
  have e : mvI [.int .i64 8,.int .i64 (x : Int),.int .i64 b,.str t,c0,c1,c2,c3,c4] p h = [(p + 1,h - 1),(x,h - 1)]:=rfl
  rw [e] at hK
  simp (maxSteps:=999999) only [ey,implies_true,reduceMul,reducePow,reduceSub,Nat.reduceBEq,reduceToNat,reduceEqDiff,reduceLT,reduceCtorEq,reduceAdd,reduceLeDiff,hb,w1,w2,hF2.at,hF2.hp,Int.reduceBEq]
  exact hK _ _ (hU2.trans (hF2.hpU _)) (hF2.hpF _) ((own_hp (k:=0) hF2 (Up.refl _) rfl rfl (by simp [mvCells,AV.isCell])).base hU2)
 by_cases k9 : op = 9
 ·subst k9
  have ha:=hj.1 (.inr (.inr (.inl rfl)))
  simp only [aI,List.getD_cons_succ,List.getD_cons_zero] at ha
  obtain ⟨x,rfl⟩:=Int.eq_ofNat_of_zero_le ha.1
  have e : mvI [.int .i64 9,.int .i64 (x : Int),.int .i64 b,.str t,c0,c1,c2,c3,c4] p h = [(p + 1,h - 1),(x,h)]:=rfl
  rw [e] at hK
  simp (maxSteps:=999999) only [ey,implies_true,reduceMul,reducePow,reduceSub,Nat.reduceBEq,reduceToNat,reduceEqDiff,reduceLT,reduceCtorEq,reduceAdd,reduceLeDiff,hb,w1,w2,hF2.at,hF2.hp,Int.reduceBEq]
  exact hK _ _ (hU2.trans (hF2.hpU _)) (hF2.hpF _) ((own_hp (k:=0) hF2 (Up.refl _) rfl rfl (by simp [mvCells,AV.isCell])).base hU2)
 by_cases k10 : op = 10
 ·subst k10
  have ha:=hj.1 (.inr (.inr (.inr (.inl rfl))))
  simp only [aI,List.getD_cons_succ,List.getD_cons_zero] at ha
  obtain ⟨x,rfl⟩:=Int.eq_ofNat_of_zero_le ha.1
  have e : mvI [.int .i64 10,.int .i64 (x : Int),.int .i64 b,.str t,c0,c1,c2,c3,c4] p h = [(p + 1,h - 1),(x,h)]:=rfl
  rw [e] at hK
  simp (maxSteps:=999999) only [ey,implies_true,reduceMul,reducePow,reduceSub,Nat.reduceBEq,reduceToNat,reduceEqDiff,reduceLT,reduceCtorEq,reduceAdd,reduceLeDiff,hb,w1,w2,hF2.at,hF2.hp,Int.reduceBEq]
  exact hK _ _ (hU2.trans (hF2.hpU _)) (hF2.hpF _) ((own_hp (k:=0) hF2 (Up.refl _) rfl rfl (by simp [mvCells,AV.isCell])).base hU2)
 by_cases k21 : op = 21
 ·subst k21
  have ha:=hj.1 (.inr (.inr (.inr (.inr rfl))))
  simp only [aI,List.getD_cons_succ,List.getD_cons_zero] at ha
  obtain ⟨x,rfl⟩:=Int.eq_ofNat_of_zero_le ha.1
  have e : mvI [.int .i64 21,.int .i64 (x : Int),.int .i64 b,.str t,c0,c1,c2,c3,c4] p h = [(p + 1,h),(x,h)]:=rfl
  rw [e] at hK
  simp (maxSteps:=999999) only [ey,implies_true,reduceMul,reducePow,reduceSub,Nat.reduceBEq,reduceToNat,reduceEqDiff,reduceLT,reduceCtorEq,reduceAdd,reduceLeDiff,hb,w1,w2,hF2.at,hF2.hp,Int.reduceBEq]
  exact hK _ _ (hU2.trans (hF2.hpU _)) (hF2.hpF _) ((own_hp (k:=0) hF2 (Up.refl _) rfl rfl (by simp [mvCells,AV.isCell])).base hU2)
 by_cases k27 : op = 27
 ·subst k27
  have ha:=hj.2 rfl
  simp only [aI,bI,List.getD_cons_succ,List.getD_cons_zero] at ha
  obtain ⟨x,rfl⟩:=Int.eq_ofNat_of_zero_le ha.1
  have hx : x ≤ 16:=by omega
  have e : mvI [.int .i64 27,.int .i64 (x : Int),.int .i64 b,.str t,c0,c1,c2,c3,c4] p h = (List.range x).map (fun j=>(p + 1 + j,h - (x : Int) + 1)) ++ (if b = 1 then [(p + 1 + x,h - (x : Int))] else []):=rfl
  rw [e] at hK
  have w3 : IntKind.i64.wrap (h - (x : Int)) = h - x:=IntWalk.i64_in _ (by omega)
  have w4 : IntKind.i64.wrap (h - (x : Int) + 1) = h - x + 1:=IntWalk.i64_in _ (by omega)
  have w5 : ∀ j : Nat,j ≤ x → IntKind.i64.wrap (((p + 1 : Nat) : Int) + (j : Int)) = ((p + 1 + j : Nat) : Int):=fun j hj=>by rw [IntWalk.i64_in _ (by omega)];omega
  simp (maxSteps:=999999) only [ey,implies_true,reduceMul,reducePow,reduceSub,Nat.reduceBEq,reduceToNat,reduceEqDiff,reduceLT,reduceCtorEq,reduceAdd,reduceLeDiff,hb,w1,w2,hF2.at,hF2.hp,Int.reduceBEq]
  refine loopStepR (fun env H'=>Up H2 H' ∧ Free H' ∧ ∃ (i : Nat) (u : AV),i ≤ x ∧ env.at (.tmp 77) = .int .i64 i ∧ env.at (.tmp 10) = u ∧ Own H2 H' 322 2 u (mvCells ((List.range i).map fun j=>(p + 1 + j,h - (x : Int) + 1))) ∧ env.at (.tmp 76) = .int .i64 x ∧ env.at (.tmp 9) = .int .i64 (p + 1 : Nat) ∧ env.at (.tmp 1) = .int .i64 h ∧ env.at (.tmp 5) = .ptr H.next 0 0 0)
   (fun env H'=>match env.at (.tmp 77) with | .int _ i=>((x : Int) - i).toNat | _=>0)
   (fun ex env H'=>ex = .exit 1 ∧ Up H2 H' ∧ Free H' ∧ ∃ (u : AV),env.at (.tmp 10) = u ∧ Own H2 H' 322 2 u (mvCells ((List.range x).map fun j=>(p + 1 + j,h - (x : Int) + 1))) ∧ env.at (.tmp 9) = .int .i64 (p + 1 : Nat) ∧ env.at (.tmp 1) = .int .i64 h ∧ env.at (.tmp 5) = .ptr H.next 0 0 0) ?_ ?_ ?_
  ·refine ⟨Up.refl _,hF2,0,.nilslice,Nat.zero_le _,by simp only [ey,implies_true,reduceMul,reducePow,reduceSub,Nat.reduceBEq,reduceToNat,reduceEqDiff,reduceLT,reduceCtorEq,reduceAdd,reduceLeDiff];rfl,by simp only [ey,implies_true,reduceMul,reducePow,reduceSub,Nat.reduceBEq,reduceToNat,reduceEqDiff,reduceLT,reduceCtorEq,reduceAdd,reduceLeDiff],Own.nil,by simp only [ey,implies_true,reduceMul,reducePow,reduceSub,Nat.reduceBEq,reduceToNat,reduceEqDiff,reduceLT,reduceCtorEq,reduceAdd,reduceLeDiff],by simp only [ey,implies_true,reduceMul,reducePow,reduceSub,Nat.reduceBEq,reduceToNat,reduceEqDiff,reduceLT,reduceCtorEq,reduceAdd,reduceLeDiff],by simp only [ey,implies_true,reduceMul,reducePow,reduceSub,Nat.reduceBEq,reduceToNat,reduceEqDiff,reduceLT,reduceCtorEq,reduceAdd,reduceLeDiff],by simp only [ey,implies_true,reduceMul,reducePow,reduceSub,Nat.reduceBEq,reduceToNat,reduceEqDiff,reduceLT,reduceCtorEq,reduceAdd,reduceLeDiff]⟩
  ·rintro env H' ⟨hU',hF',i,u,hi,ei,eu,hO,e76,e9,e1,e5⟩
   have hb':=hU' _ _ hb
   by_cases hlt : i < x
   ·obtain ⟨u1,u2,u3⟩:=own_plain hO
    simp (maxSteps:=999999) only [ey,implies_true,reduceMul,reducePow,reduceSub,Nat.reduceBEq,reduceToNat,reduceEqDiff,reduceLT,reduceCtorEq,reduceAdd,reduceLeDiff,ei,eu,e76,e9,e1,e5,hb',w1,w3,w4,w5 i hi,lt_true hlt,hF'.at,hF'.hp]
    refine opStep_append app319 (hO.up (hF'.hpU _)) (hF'.hpF _) (hU'.trans (hF'.hpU _)) (holds_hp (k:=0) (L:=[[.int .i64 ((p + 1 + i : Nat) : Int),.int .i64 (h - (x : Int) + 1)]]) rfl rfl (Nat.le_refl _) (by simp)) (by simp [AV.isCell]) (by simp [mvCells,maxBytes];omega) (by simp [mvCells,maxBytes];omega) (fun u' K' hO' hU3 hF3=>?_)
    simp (maxSteps:=999999) only [ey,implies_true,reduceMul,reducePow,reduceSub,Nat.reduceBEq,reduceToNat,reduceEqDiff,reduceLT,reduceCtorEq,reduceAdd,reduceLeDiff,ei,eu,e76,e9,e1,e5,wrap_succ (i:=i) (by omega)]
    refine ⟨⟨hU3,hF3,i + 1,u',hlt,rfl,rfl,?_,⟩,by omega⟩
    rw [List.range_succ,List.map_append]
    unfold mvCells at hO' ⊢
    rw [List.map_append]
    exact hO'
   ·obtain rfl : i = x:=by omega
    simp (maxSteps:=999999) only [ey,implies_true,reduceMul,reducePow,reduceSub,Nat.reduceBEq,reduceToNat,reduceEqDiff,reduceLT,reduceCtorEq,reduceAdd,reduceLeDiff,ei,eu,e76,e9,e1,e5,hb',lt_false hlt]
    exact ⟨hU',hF',u,rfl,hO⟩
  ·rintro ex env H' ⟨rfl,hU',hF',u,eu,hO,e9,e1,e5⟩
   have hb':=hU' _ _ hb
   obtain ⟨u1,u2,u3⟩:=own_plain hO
   cases hb1 : (b == 1) with
   | true=>
    obtain rfl : b = 1:=by simpa using hb1
    simp (maxSteps:=999999) only [ey,implies_true,reduceMul,reducePow,reduceSub,Nat.reduceBEq,reduceToNat,reduceEqDiff,reduceLT,reduceCtorEq,reduceAdd,reduceLeDiff,eu,e9,e1,e5,hb',hb1,Int.reduceBEq,w1,w3,w4,w5 x (Nat.le_refl _),hF'.at,hF'.hp]
    refine opStep_append app319 (hO.up (hF'.hpU _)) (hF'.hpF _) (hU'.trans (hF'.hpU _)) (holds_hp (k:=0) (L:=[[.int .i64 ((p + 1 + x : Nat) : Int),.int .i64 (h - (x : Int))]]) rfl rfl (Nat.le_refl _) (by simp)) (by simp [AV.isCell]) (by simp [mvCells,maxBytes];omega) (by simp [mvCells,maxBytes];omega) (fun u' K' hO' hU3 hF3=>?_)
    simp (maxSteps:=999999) only [ey,implies_true,reduceMul,reducePow,reduceSub,Nat.reduceBEq,reduceToNat,reduceEqDiff,reduceLT,reduceCtorEq,reduceAdd,reduceLeDiff,eu,e9,e1,e5]
    refine hK _ _ (hU2.trans hU3) hF3 (Own.base (G':=H2) ?_ hU2)
    rw [if_pos rfl]
    unfold mvCells at hO' ⊢
    rw [List.map_append]
    exact hO'
   | false=>
    have hbn : ¬ b = 1:=by simpa using hb1
    simp (maxSteps:=999999) only [ey,implies_true,reduceMul,reducePow,reduceSub,Nat.reduceBEq,reduceToNat,reduceEqDiff,reduceLT,reduceCtorEq,reduceAdd,reduceLeDiff,eu,e9,e1,e5,hb',hb1]
    refine hK _ _ (hU2.trans hU') hF' (Own.base (G':=H2) ?_ hU2)
    rw [if_neg hbn,List.append_nil]
    exact hO
 have q19 : (op == 19) = false:=by simpa using k19
 have q20 : (op == 20) = false:=by simpa using k20
 have q7 : (op == 7) = false:=by simpa using k7
 have q8 : (op == 8) = false:=by simpa using k8
 have q9 : (op == 9) = false:=by simpa using k9
 have q10 : (op == 10) = false:=by simpa using k10
 have q21 : (op == 21) = false:=by simpa using k21
 have q27 : (op == 27) = false:=by simpa using k27
 have e : mvI [.int .i64 op,.int .i64 a,.int .i64 b,.str t,c0,c1,c2,c3,c4] p h = [(p + 1,h - (effV op a b).1 + (effV op a b).2)]:=by
  have e' : mvI [.int .i64 op,.int .i64 a,.int .i64 b,.str t,c0,c1,c2,c3,c4] p h = if op = 19 ∨ op = 20 then [] else if op = 7 then [(a.toNat,h)] else if op = 8 then [(p + 1,h - 1),(a.toNat,h - 1)] else if op = 9 ∨ op = 10 then [(p + 1,h - 1),(a.toNat,h)] else if op = 21 then [(p + 1,h),(a.toNat,h)] else if op = 27 then (List.range a.toNat).map (fun j=>(p + 1 + j,h - a + 1)) ++ (if b = 1 then [(p + 1 + a.toNat,h - a)] else []) else [(p + 1,h - (effV op a b).1 + (effV op a b).2)]:=rfl
  rw [e'];simp only [k19,k20,k7,k8,k9,k10,k21,k27,or_self,if_false]
 rw [e] at hK
 have hm' : (effV op a b).1 ≤ h:=hm
 have z1:=eff_min op a b
 have z2:=eff_plus op a b
 have w3 : IntKind.i64.wrap (h - (effV op a b).1) = h - (effV op a b).1:=IntWalk.i64_in _ (by omega)
 have w4 : IntKind.i64.wrap (h - (effV op a b).1 + (effV op a b).2) = h - (effV op a b).1 + (effV op a b).2:=IntWalk.i64_in _ (by omega)
 simp (maxSteps:=999999) only [ey,implies_true,reduceMul,reducePow,reduceSub,Nat.reduceBEq,reduceToNat,reduceEqDiff,reduceLT,reduceCtorEq,reduceAdd,reduceLeDiff,hb,w1,w2,hF2.at,hF2.hp,w3,w4,q19,q20,q7,q8,q9,q10,q21,q27]
 exact hK _ _ (hU2.trans (hF2.hpU _)) (hF2.hpF _) ((own_hp (k:=0) hF2 (Up.refl _) rfl rfl (by simp [mvCells,AV.isCell])).base hU2)
set_option maxHeartbeats 4000000 in
theorem f153_ok (p : Nat) (h : Int) (op a b : Int) (t : List Nat) (c0 c1 c2 c3 c4 : AV) {v : AV} {nm : List Nat} {P S : Int} {L : List (List AV)} (hv : ∀ H,Holds H 9 v L) (hc : L[p]? = some [.int .i64 op,.int .i64 a,.int .i64 b,.str t,c0,c1,c2,c3,c4]) (hp : p < 2 ^ 60) (h0 : 0 ≤ h) (h1 : h ≤ 200) (hm : minI [.int .i64 op,.int .i64 a,.int .i64 b,.str t,c0,c1,c2,c3,c4] ≤ h) (hj : JmpOk [.int .i64 op,.int .i64 a,.int .i64 b,.str t,c0,c1,c2,c3,c4]) (hcl : AV.isCell c0 = true ∧ AV.isCell c1 = true ∧ AV.isCell c2 = true ∧ AV.isCell c3 = true ∧ AV.isCell c4 = true) (H : Heap) (hF : Free H) (K : AV → Heap → Prop) (hK : ∀ u H',Up H H' → Free H' → Own H H' 200 2 u (mvCells (mvI [.int .i64 op,.int .i64 a,.int .i64 b,.str t,c0,c1,c2,c3,c4] p h)) → K u H') : WF Tryz.prog 153 [.agg [.str nm,.int .i64 P,.int .i64 S,v],.int .i64 p,.int .i64 h] H K:=by
 obtain ⟨i0,i1,i2,i3,i4⟩:=hcl
 have w1 : IntKind.i64.wrap ((p : Int) + 1) = ((p + 1 : Nat) : Int):=by rw [IntWalk.i64_in _ (by omega)];omega
 have w2 : IntKind.i64.wrap (h - 1) = h - 1:=IntWalk.i64_in _ (by omega)
 have hix:=idx83 hv hc
 refine WF_body Tryz.func153 (by kernel_rfl) rfl Tryz.ntmps153 (by rw [Tryz.results153]) (of_decide_eq_true (by kernel_rfl)) ?_
 simp (maxSteps:=999999) only [ey,implies_true,reduceMul,reducePow,reduceSub,Nat.reduceBEq,reduceToNat,reduceEqDiff,reduceLT,reduceCtorEq,reduceAdd,reduceLeDiff,hF.at,hF.hp,i0,i1,i2,i3,i4,w1,hix]
 generalize hH1 : HP H [Blk.row 85 4 [[.str nm,.int .i64 P,.int .i64 S,v]] 0 0,Blk.row 104 9 [[.int .i64 op,.int .i64 a,.int .i64 b,.str t,c0,c1,c2,c3,c4]] 0 0] = H1
 have hb : H1.blk (H.next + 1) = some (.row 104 9 [[.int .i64 op,.int .i64 a,.int .i64 b,.str t,c0,c1,c2,c3,c4]] 0 0):=by rw [← hH1,hp_blk];rfl
 have hF1 : Free H1:=hH1 ▸ hF.hpF _
 have hU1 : Up H H1:=hH1 ▸ hF.hpU _
 refine callStep (f107_ok op a b t c0 c1 c2 c3 c4 ⟨i0,i1,i2,i3,i4⟩ H1 hF1 _ fun H2 hU2 hF2=>?_)
 have hb:=hU2 _ _ hb
 have hU2:=hU1.trans hU2
 by_cases k19 : op = 19
 ·subst k19
  simp (maxSteps:=999999) only [ey,implies_true,reduceMul,reducePow,reduceSub,Nat.reduceBEq,reduceToNat,reduceEqDiff,reduceLT,reduceCtorEq,reduceAdd,reduceLeDiff,hb,w1,w2,hF2.at,hF2.hp,Int.reduceBEq]
  exact hK _ _ hU2 hF2 Own.nil
 by_cases k20 : op = 20
 ·subst k20
  simp (maxSteps:=999999) only [ey,implies_true,reduceMul,reducePow,reduceSub,Nat.reduceBEq,reduceToNat,reduceEqDiff,reduceLT,reduceCtorEq,reduceAdd,reduceLeDiff,hb,w1,w2,hF2.at,hF2.hp,Int.reduceBEq]
  exact hK _ _ hU2 hF2 Own.nil
 by_cases k7 : op = 7
 ·subst k7
  have ha:=hj.1 (.inl rfl)
  simp only [aI,List.getD_cons_succ,List.getD_cons_zero] at ha
  obtain ⟨x,rfl⟩:=Int.eq_ofNat_of_zero_le ha.1
  have e : mvI [.int .i64 7,.int .i64 (x : Int),.int .i64 b,.str t,c0,c1,c2,c3,c4] p h = [(x,h)]:=rfl
  rw [e] at hK
  simp (maxSteps:=999999) only [ey,implies_true,reduceMul,reducePow,reduceSub,Nat.reduceBEq,reduceToNat,reduceEqDiff,reduceLT,reduceCtorEq,reduceAdd,reduceLeDiff,hb,w1,w2,hF2.at,hF2.hp,Int.reduceBEq]
  exact hK _ _ (hU2.trans (hF2.hpU _)) (hF2.hpF _) ((own_hp (k:=0) hF2 (Up.refl _) rfl rfl (by simp [mvCells,AV.isCell])).base hU2)
 by_cases k8 : op = 8
 ·subst k8
  have ha:=hj.1 (.inr (.inl rfl))
  simp only [aI,List.getD_cons_succ,List.getD_cons_zero] at ha
  obtain ⟨x,rfl⟩:=Int.eq_ofNat_of_zero_le ha.1
  have e : mvI [.int .i64 8,.int .i64 (x : Int),.int .i64 b,.str t,c0,c1,c2,c3,c4] p h = [(p + 1,h - 1),(x,h - 1)]:=rfl
  rw [e] at hK
  simp (maxSteps:=999999) only [ey,implies_true,reduceMul,reducePow,reduceSub,Nat.reduceBEq,reduceToNat,reduceEqDiff,reduceLT,reduceCtorEq,reduceAdd,reduceLeDiff,hb,w1,w2,hF2.at,hF2.hp,Int.reduceBEq]
  exact hK _ _ (hU2.trans (hF2.hpU _)) (hF2.hpF _) ((own_hp (k:=0) hF2 (Up.refl _) rfl rfl (by simp [mvCells,AV.isCell])).base hU2)
 by_cases k9 : op = 9
 ·subst k9
  have ha:=hj.1 (.inr (.inr (.inl rfl)))
  simp only [aI,List.getD_cons_succ,List.getD_cons_zero] at ha
  obtain ⟨x,rfl⟩:=Int.eq_ofNat_of_zero_le ha.1
  have e : mvI [.int .i64 9,.int .i64 (x : Int),.int .i64 b,.str t,c0,c1,c2,c3,c4] p h = [(p + 1,h - 1),(x,h)]:=rfl
  rw [e] at hK
  simp (maxSteps:=999999) only [ey,implies_true,reduceMul,reducePow,reduceSub,Nat.reduceBEq,reduceToNat,reduceEqDiff,reduceLT,reduceCtorEq,reduceAdd,reduceLeDiff,hb,w1,w2,hF2.at,hF2.hp,Int.reduceBEq]
  exact hK _ _ (hU2.trans (hF2.hpU _)) (hF2.hpF _) ((own_hp (k:=0) hF2 (Up.refl _) rfl rfl (by simp [mvCells,AV.isCell])).base hU2)
 by_cases k10 : op = 10
 ·subst k10
  have ha:=hj.1 (.inr (.inr (.inr (.inl rfl))))
  simp only [aI,List.getD_cons_succ,List.getD_cons_zero] at ha
  obtain ⟨x,rfl⟩:=Int.eq_ofNat_of_zero_le ha.1
  have e : mvI [.int .i64 10,.int .i64 (x : Int),.int .i64 b,.str t,c0,c1,c2,c3,c4] p h = [(p + 1,h - 1),(x,h)]:=rfl
  rw [e] at hK
  simp (maxSteps:=999999) only [ey,implies_true,reduceMul,reducePow,reduceSub,Nat.reduceBEq,reduceToNat,reduceEqDiff,reduceLT,reduceCtorEq,reduceAdd,reduceLeDiff,hb,w1,w2,hF2.at,hF2.hp,Int.reduceBEq]
  exact hK _ _ (hU2.trans (hF2.hpU _)) (hF2.hpF _) ((own_hp (k:=0) hF2 (Up.refl _) rfl rfl (by simp [mvCells,AV.isCell])).base hU2)
 by_cases k21 : op = 21
 ·subst k21
  have ha:=hj.1 (.inr (.inr (.inr (.inr rfl))))
  simp only [aI,List.getD_cons_succ,List.getD_cons_zero] at ha
  obtain ⟨x,rfl⟩:=Int.eq_ofNat_of_zero_le ha.1
  have e : mvI [.int .i64 21,.int .i64 (x : Int),.int .i64 b,.str t,c0,c1,c2,c3,c4] p h = [(p + 1,h),(x,h)]:=rfl
  rw [e] at hK
  simp (maxSteps:=999999) only [ey,implies_true,reduceMul,reducePow,reduceSub,Nat.reduceBEq,reduceToNat,reduceEqDiff,reduceLT,reduceCtorEq,reduceAdd,reduceLeDiff,hb,w1,w2,hF2.at,hF2.hp,Int.reduceBEq]
  exact hK _ _ (hU2.trans (hF2.hpU _)) (hF2.hpF _) ((own_hp (k:=0) hF2 (Up.refl _) rfl rfl (by simp [mvCells,AV.isCell])).base hU2)
 by_cases k27 : op = 27
 ·subst k27
  have ha:=hj.2 rfl
  simp only [aI,bI,List.getD_cons_succ,List.getD_cons_zero] at ha
  obtain ⟨x,rfl⟩:=Int.eq_ofNat_of_zero_le ha.1
  have hx : x ≤ 16:=by omega
  have e : mvI [.int .i64 27,.int .i64 (x : Int),.int .i64 b,.str t,c0,c1,c2,c3,c4] p h = (List.range x).map (fun j=>(p + 1 + j,h - (x : Int) + 1)) ++ (if b = 1 then [(p + 1 + x,h - (x : Int))] else []):=rfl
  rw [e] at hK
  have w3 : IntKind.i64.wrap (h - (x : Int)) = h - x:=IntWalk.i64_in _ (by omega)
  have w4 : IntKind.i64.wrap (h - (x : Int) + 1) = h - x + 1:=IntWalk.i64_in _ (by omega)
  have w5 : ∀ j : Nat,j ≤ x → IntKind.i64.wrap (((p + 1 : Nat) : Int) + (j : Int)) = ((p + 1 + j : Nat) : Int):=fun j hj=>by rw [IntWalk.i64_in _ (by omega)];omega
  simp (maxSteps:=999999) only [ey,implies_true,reduceMul,reducePow,reduceSub,Nat.reduceBEq,reduceToNat,reduceEqDiff,reduceLT,reduceCtorEq,reduceAdd,reduceLeDiff,hb,w1,w2,hF2.at,hF2.hp,Int.reduceBEq]
  refine loopStepR (fun env H'=>Up H2 H' ∧ Free H' ∧ ∃ (i : Nat) (u : AV),i ≤ x ∧ env.at (.tmp 11) = .int .i64 i ∧ env.at (.tmp 10) = u ∧ Own H2 H' 200 2 u (mvCells ((List.range i).map fun j=>(p + 1 + j,h - (x : Int) + 1))) ∧ env.at (.tmp 1) = .int .i64 p ∧ env.at (.tmp 2) = .int .i64 h ∧ env.at (.tmp 7) = .ptr (H.next + 1) 0 0 0)
   (fun env H'=>match env.at (.tmp 11) with | .int _ i=>((x : Int) - i).toNat | _=>0)
   (fun ex env H'=>ex = .exit 1 ∧ Up H2 H' ∧ Free H' ∧ ∃ (u : AV),env.at (.tmp 10) = u ∧ Own H2 H' 200 2 u (mvCells ((List.range x).map fun j=>(p + 1 + j,h - (x : Int) + 1))) ∧ env.at (.tmp 1) = .int .i64 p ∧ env.at (.tmp 2) = .int .i64 h ∧ env.at (.tmp 7) = .ptr (H.next + 1) 0 0 0) ?_ ?_ ?_
  ·refine ⟨Up.refl _,hF2,0,.nilslice,Nat.zero_le _,by simp only [ey,implies_true,reduceMul,reducePow,reduceSub,Nat.reduceBEq,reduceToNat,reduceEqDiff,reduceLT,reduceCtorEq,reduceAdd,reduceLeDiff];rfl,by simp only [ey,implies_true,reduceMul,reducePow,reduceSub,Nat.reduceBEq,reduceToNat,reduceEqDiff,reduceLT,reduceCtorEq,reduceAdd,reduceLeDiff],Own.nil,by simp only [ey,implies_true,reduceMul,reducePow,reduceSub,Nat.reduceBEq,reduceToNat,reduceEqDiff,reduceLT,reduceCtorEq,reduceAdd,reduceLeDiff],by simp only [ey,implies_true,reduceMul,reducePow,reduceSub,Nat.reduceBEq,reduceToNat,reduceEqDiff,reduceLT,reduceCtorEq,reduceAdd,reduceLeDiff],by simp only [ey,implies_true,reduceMul,reducePow,reduceSub,Nat.reduceBEq,reduceToNat,reduceEqDiff,reduceLT,reduceCtorEq,reduceAdd,reduceLeDiff]⟩
  ·rintro env H' ⟨hU',hF',i,u,hi,ei,eu,hO,e1,e2,e7⟩
   have hb':=hU' _ _ hb
   by_cases hlt : i < x
   ·obtain ⟨u1,u2,u3⟩:=own_plain hO
    simp (maxSteps:=999999) only [ey,implies_true,reduceMul,reducePow,reduceSub,Nat.reduceBEq,reduceToNat,reduceEqDiff,reduceLT,reduceCtorEq,reduceAdd,reduceLeDiff,ei,eu,e1,e2,e7,hb',w1,w3,w4,w5 i hi,lt_true hlt,hF'.at,hF'.hp]
    refine opStep_append app201 (hO.up (hF'.hpU _)) (hF'.hpF _) (hU'.trans (hF'.hpU _)) (holds_hp (k:=0) (L:=[[.int .i64 ((p + 1 + i : Nat) : Int),.int .i64 (h - (x : Int) + 1)]]) rfl rfl (Nat.le_refl _) (by simp)) (by simp [AV.isCell]) (by simp [mvCells,maxBytes];omega) (by simp [mvCells,maxBytes];omega) (fun u' K' hO' hU3 hF3=>?_)
    simp (maxSteps:=999999) only [ey,implies_true,reduceMul,reducePow,reduceSub,Nat.reduceBEq,reduceToNat,reduceEqDiff,reduceLT,reduceCtorEq,reduceAdd,reduceLeDiff,ei,eu,e1,e2,e7,wrap_succ (i:=i) (by omega)]
    refine ⟨⟨hU3,hF3,i + 1,u',hlt,rfl,rfl,?_,⟩,by omega⟩
    rw [List.range_succ,List.map_append]
    unfold mvCells at hO' ⊢
    rw [List.map_append]
    exact hO'
   ·obtain rfl : i = x:=by omega
    simp (maxSteps:=999999) only [ey,implies_true,reduceMul,reducePow,reduceSub,Nat.reduceBEq,reduceToNat,reduceEqDiff,reduceLT,reduceCtorEq,reduceAdd,reduceLeDiff,ei,eu,e1,e2,e7,hb',lt_false hlt]
    exact ⟨hU',hF',u,rfl,hO⟩
  ·rintro ex env H' ⟨rfl,hU',hF',u,eu,hO,e1,e2,e7⟩
   have hb':=hU' _ _ hb
   obtain ⟨u1,u2,u3⟩:=own_plain hO
   cases hb1 : (b == 1) with
   | true=>
    obtain rfl : b = 1:=by simpa using hb1
    simp (maxSteps:=999999) only [ey,implies_true,reduceMul,reducePow,reduceSub,Nat.reduceBEq,reduceToNat,reduceEqDiff,reduceLT,reduceCtorEq,reduceAdd,reduceLeDiff,eu,e1,e2,e7,hb',hb1,Int.reduceBEq,w1,w3,w4,w5 x (Nat.le_refl _),hF'.at,hF'.hp]
    refine opStep_append app201 (hO.up (hF'.hpU _)) (hF'.hpF _) (hU'.trans (hF'.hpU _)) (holds_hp (k:=0) (L:=[[.int .i64 ((p + 1 + x : Nat) : Int),.int .i64 (h - (x : Int))]]) rfl rfl (Nat.le_refl _) (by simp)) (by simp [AV.isCell]) (by simp [mvCells,maxBytes];omega) (by simp [mvCells,maxBytes];omega) (fun u' K' hO' hU3 hF3=>?_)
    simp (maxSteps:=999999) only [ey,implies_true,reduceMul,reducePow,reduceSub,Nat.reduceBEq,reduceToNat,reduceEqDiff,reduceLT,reduceCtorEq,reduceAdd,reduceLeDiff,eu,e1,e2,e7]
    refine hK _ _ (hU2.trans hU3) hF3 (Own.base (G':=H2) ?_ hU2)
    rw [if_pos rfl]
    unfold mvCells at hO' ⊢
    rw [List.map_append]
    exact hO'
   | false=>
    have hbn : ¬ b = 1:=by simpa using hb1
    simp (maxSteps:=999999) only [ey,implies_true,reduceMul,reducePow,reduceSub,Nat.reduceBEq,reduceToNat,reduceEqDiff,reduceLT,reduceCtorEq,reduceAdd,reduceLeDiff,eu,e1,e2,e7,hb',hb1]
    refine hK _ _ (hU2.trans hU') hF' (Own.base (G':=H2) ?_ hU2)
    rw [if_neg hbn,List.append_nil]
    exact hO
 have q19 : (op == 19) = false:=by simpa using k19
 have q20 : (op == 20) = false:=by simpa using k20
 have q7 : (op == 7) = false:=by simpa using k7
 have q8 : (op == 8) = false:=by simpa using k8
 have q9 : (op == 9) = false:=by simpa using k9
 have q10 : (op == 10) = false:=by simpa using k10
 have q21 : (op == 21) = false:=by simpa using k21
 have q27 : (op == 27) = false:=by simpa using k27
 have e : mvI [.int .i64 op,.int .i64 a,.int .i64 b,.str t,c0,c1,c2,c3,c4] p h = [(p + 1,h - (effV op a b).1 + (effV op a b).2)]:=by
  have e' : mvI [.int .i64 op,.int .i64 a,.int .i64 b,.str t,c0,c1,c2,c3,c4] p h = if op = 19 ∨ op = 20 then [] else if op = 7 then [(a.toNat,h)] else if op = 8 then [(p + 1,h - 1),(a.toNat,h - 1)] else if op = 9 ∨ op = 10 then [(p + 1,h - 1),(a.toNat,h)] else if op = 21 then [(p + 1,h),(a.toNat,h)] else if op = 27 then (List.range a.toNat).map (fun j=>(p + 1 + j,h - a + 1)) ++ (if b = 1 then [(p + 1 + a.toNat,h - a)] else []) else [(p + 1,h - (effV op a b).1 + (effV op a b).2)]:=rfl
  rw [e'];simp only [k19,k20,k7,k8,k9,k10,k21,k27,or_self,if_false]
 rw [e] at hK
 have hm' : (effV op a b).1 ≤ h:=hm
 have z1:=eff_min op a b
 have z2:=eff_plus op a b
 have w3 : IntKind.i64.wrap (h - (effV op a b).1) = h - (effV op a b).1:=IntWalk.i64_in _ (by omega)
 have w4 : IntKind.i64.wrap (h - (effV op a b).1 + (effV op a b).2) = h - (effV op a b).1 + (effV op a b).2:=IntWalk.i64_in _ (by omega)
 simp (maxSteps:=999999) only [ey,implies_true,reduceMul,reducePow,reduceSub,Nat.reduceBEq,reduceToNat,reduceEqDiff,reduceLT,reduceCtorEq,reduceAdd,reduceLeDiff,hb,w1,w2,hF2.at,hF2.hp,w3,w4,q19,q20,q7,q8,q9,q10,q21,q27]
 exact hK _ _ (hU2.trans (hF2.hpU _)) (hF2.hpF _) ((own_hp (k:=0) hF2 (Up.refl _) rfl rfl (by simp [mvCells,AV.isCell])).base hU2)
theorem app29 : appB Tryz.prog 29 29 3 1 8 = true:=by kernel_rfl
theorem by3 : bytesOf Tryz.prog 3 = some 8:=by kernel_rfl
theorem mk29 (G : Heap) {n : Nat} (hn : n ≤ 1000000) : evMakeSlice Tryz.prog G 29 (.int .i64 (n : Int)) (.int .i64 (n : Int)) = some (.slice G.next 0 n n true 0,G.push (.row 3 1 (List.replicate n [.int .i64 0]) 0 0)):=by
 have h1:=sz3
 have h2:=by3
 unfold szOf at h1
 unfold bytesOf at h2
 cases hi : Tryz.prog.info? 3 with
 | none=>rw [hi] at h1;cases h1
 | some i=>
  rw [hi] at h1 h2
  simp only [Option.map_some,Option.some.injEq] at h1 h2
  simp only [evMakeSlice,el29,Option.bind_some,hi,ze3]
  rw [if_pos ⟨by omega,Int.le_refl _,by omega,by rw [h2];omega,rfl,by rw [h1];rfl⟩]
  simp only [h1,Int.toNat_natCast];rfl
theorem ix29 {G : Heap} {b n : Nat} {els : List (List AV)} (hr : G.blk b = some (.row 3 1 els 0 0)) {i : Nat} (hi : i < n) : evIndexAddr Tryz.prog G 29 (.slice b 0 n n true 0) (.int .i64 (i : Int)) = some (.ptr b i 0 0):=by
 simp [evIndexAddr,und29,sz3,Heap.eszOf,hr,hi]
theorem ix29z {G : Heap} {b n : Nat} {els : List (List AV)} (hr : G.blk b = some (.row 3 1 els 0 0)) (hi : 0 < n) : evIndexAddr Tryz.prog G 29 (.slice b 0 n n true 0) (.int .i64 0) = some (.ptr b 0 0 0):=ix29 (i:=0) hr hi
theorem ic_len (l : List Int) : (intCells l).length = l.length:=by simp [intCells]
theorem ic_at {l : List Int} {i : Nat} (h : i < l.length) : (intCells l)[i]? = some [.int .i64 (hat l i)]:=by
 unfold intCells hat
 rw [List.getElem?_map,List.getD_eq_getElem?_getD,List.getElem?_eq_getElem h];rfl
theorem ic_set (l : List Int) (i : Nat) (x : Int) : (intCells l).set i [.int .i64 x] = intCells (l.set i x):=by
 unfold intCells
 rw [List.map_set]
def natCells (l : List Nat) : List (List AV):=l.map fun x : Nat=>[.int .i64 (x : Int)]
theorem nc_len (l : List Nat) : (natCells l).length = l.length:=by simp [natCells]
theorem nc_snoc (l : List Nat) (x : Nat) : natCells (l ++ [x]) = natCells l ++ [[.int .i64 (x : Int)]]:=by simp [natCells]
def negC (c : List AV) : Bool:=match c with | [.int _ x]=>decide (x < 0) | _=>false
def muH (b w : Nat) (u : AV) (H : Heap) : Nat:=w * (match H.blk b with | some (.row _ _ els _ _)=>els.countP negC | _=>0) + (u.len?).getD 0
theorem neg_ic (l : List Int) : (intCells l).countP negC = unv l:=by
 unfold intCells unv
 rw [List.countP_map]
 rfl
theorem muH_eq {b w : Nat} {u : AV} {H : Heap} {ty esz : Nat} {l : List Int} {M : List (List AV)} (hr : H.blk b = some (.row ty 1 (intCells l) 0 0)) (hu : Holds H esz u M) : muH b w u H = w * unv l + M.length:=by
 unfold muH
 rw [hr,hu.len?]
 show w * (intCells l).countP negC + M.length = _
 rw [neg_ic]
theorem wrap_last {n : Nat} (h : n < 2 ^ 60) : IntKind.i64.wrap (((n + 1 : Nat) : Int) - 1) = (n : Int):=by
 rw [IntWalk.i64_in _ (by omega)];omega
theorem gt_pos (n : Nat) : (((n + 1 : Nat) : Int) > 0) = True:=eq_true (by omega)
theorem splice1 (a b : AV) : splice [a] 0 [b] = [b]:=rfl
theorem ge_nat {a b : Nat} : ((a : Int) ≥ (b : Int)) = (b ≤ a):=by simp
theorem unv_rep (n : Nat) : unv (List.replicate n (-1)) = n:=by simp [unv,List.countP_replicate]
theorem snoc_cases {α : Type} (l : List α) : l = [] ∨ ∃ m x,l = m ++ [x]:=by
 rcases List.eq_nil_or_concat l with h | ⟨m,x,h⟩
 ·exact .inl h
 ·exact .inr ⟨m,x,by rw [h,List.concat_eq_append]⟩
theorem mc_len (l : List (Nat × Int)) : (mvCells l).length = l.length:=by simp [mvCells]
theorem mv_len (c : List AV) (p : Nat) (h : Int) (hj : JmpOk c) : (mvI c p h).length ≤ 20:=by
 unfold mvI
 split
 ·simp
 split
 ·simp
 split
 ·simp
 split
 ·simp
 split
 ·simp
 split
 ·rename_i hk
  have:=hj.2 hk
  rw [List.length_append,List.length_map,List.length_range]
  split
  ·simp;omega
  ·simp;omega
 ·simp
set_option maxHeartbeats 8000000 in
theorem f228_ok {n : Nat} {nm : List Nat} {P S : Int} {v : AV} {L : List (List AV)} (hv : ∀ H,Holds H 9 v L) (hL : ∀ c ∈ L,InsT n c) (hj : ∀ c ∈ L,JmpOk c) (h0 : 0 < L.length) (hn : L.length ≤ 10000) (H : Heap) (hF : Free H) (K : AV → Heap → Prop) (hK : ∀ H',Up H H' → Free H' → K (.bool (fineB L)) H') : WF Tryz.prog 228 [.agg [.str nm,.int .i64 P,.int .i64 S,v]] H K:=by
 have hlv : ∀ G,evBuiltin Tryz.prog G .len #[83] [v] = some (.int .i64 L.length,G):=fun G=>(hv G).lenAt und83 G
 have hmk : ∀ G,evMakeSlice Tryz.prog G 29 (.int .i64 (L.length : Int)) (.int .i64 (L.length : Int)) = some (.slice G.next 0 L.length L.length true 0,G.push (.row 3 1 (List.replicate L.length [.int .i64 0]) 0 0)):=fun G=>mk29 G (by omega)
 refine WF_body Tryz.func228 (by kernel_rfl) rfl Tryz.ntmps228 (by rw [Tryz.results228]) (of_decide_eq_true (by kernel_rfl)) ?_
 have hl29:=fun (G : Heap) (x o l c : Nat) (y : Bool) (g : Nat)=>len_slice und29 G x o l c y g
 simp (maxSteps:=999999) only [ey,implies_true,reduceMul,reducePow,reduceSub,Nat.reduceBEq,reduceToNat,reduceEqDiff,reduceLT,reduceCtorEq,reduceAdd,reduceLeDiff,hF.at,hF.hp,hlv,hmk,hl29]
 generalize hH1 : HP H [Blk.row 85 4 [[.str nm,.int .i64 P,.int .i64 S,v]] 0 0,Blk.row 3 1 (List.replicate L.length [.int .i64 0]) 0 0] = H1
 have hb1 : H1.blk H.next = some (.row 85 4 [[.str nm,.int .i64 P,.int .i64 S,v]] 0 0):=by rw [← hH1,hp_blk0];rfl
 have hr1 : H1.blk (H.next + 1) = some (.row 3 1 (List.replicate L.length [.int .i64 0]) 0 0):=by rw [← hH1,hp_blk];rfl
 have hF1 : Free H1:=hH1 ▸ hF.hpF _
 have hU1 : Up H H1:=hH1 ▸ hF.hpU _
 have hbF : (hbut H1 (some (H.next + 1))).blk H.next = some (.row 85 4 [[.str nm,.int .i64 P,.int .i64 S,v]] 0 0):=by rw [but_blk (fun e=>by injection e with e;omega)];exact hb1
 have hbase : Up H (hbut H1 (some (H.next + 1))):=fun c x hc=>by
  have:=hF.lt hc
  rw [but_blk (fun e=>by injection e with e;omega)];exact hU1 _ _ hc
 refine loopStepR (fun env H'=>Up (hbut H1 (some (H.next + 1))) H' ∧ Free H' ∧ ∃ i : Nat,i ≤ L.length ∧ env.at (.tmp 19) = .int .i64 i ∧ env.at (.tmp 18) = .int .i64 L.length ∧ env.at (.tmp 3) = (.slice (H.next + 1) 0 L.length L.length true 0) ∧ env.at (.tmp 1) = .ptr H.next 0 0 0 ∧ H'.blk (H.next + 1) = some (.row 3 1 (intCells (List.replicate i (-1) ++ List.replicate (L.length - i) 0)) 0 0))
  (fun env H'=>match env.at (.tmp 19) with | .int _ i=>((L.length : Int) - i).toNat | _=>0)
  (fun ex env H'=>ex = .exit 0 ∧ Up (hbut H1 (some (H.next + 1))) H' ∧ Free H' ∧ env.at (.tmp 3) = (.slice (H.next + 1) 0 L.length L.length true 0) ∧ env.at (.tmp 1) = .ptr H.next 0 0 0 ∧ H'.blk (H.next + 1) = some (.row 3 1 (intCells (List.replicate L.length (-1))) 0 0)) ?_ ?_ ?_
 ·exact ⟨but_up,hF1,0,Nat.zero_le _,by simp only [ey,implies_true,reduceMul,reducePow,reduceSub,Nat.reduceBEq,reduceToNat,reduceEqDiff,reduceLT,reduceCtorEq,reduceAdd,reduceLeDiff];rfl,by simp only [ey,implies_true,reduceMul,reducePow,reduceSub,Nat.reduceBEq,reduceToNat,reduceEqDiff,reduceLT,reduceCtorEq,reduceAdd,reduceLeDiff],by simp only [ey,implies_true,reduceMul,reducePow,reduceSub,Nat.reduceBEq,reduceToNat,reduceEqDiff,reduceLT,reduceCtorEq,reduceAdd,reduceLeDiff],by simp only [ey,implies_true,reduceMul,reducePow,reduceSub,Nat.reduceBEq,reduceToNat,reduceEqDiff,reduceLT,reduceCtorEq,reduceAdd,reduceLeDiff],by rw [hr1];simp [intCells]⟩
 ·rintro env H' ⟨hU',hF',i,hi,e19,e18,e3,e1,hr⟩
  by_cases hlt : i < L.length
  ·have hix:=ix29 (n:=L.length) hr hlt
   have hel:=ic_at (l:=List.replicate i (-1) ++ List.replicate (L.length - i) 0) (i:=i) (by simp;omega)
   simp (maxSteps:=999999) only [ey,implies_true,reduceMul,reducePow,reduceSub,Nat.reduceBEq,reduceToNat,reduceEqDiff,reduceLT,reduceCtorEq,reduceAdd,reduceLeDiff,e19,e18,e3,e1,lt_true hlt,hix,hr,hel,splice1,ic_set,wrap_succ (i:=i) (by omega)]
   refine ⟨⟨hU'.set (by simp [hbut]) _,hF'.set (hF'.lt hr) _,i + 1,hlt,rfl,?_⟩,by omega⟩
   congr 4
   rw [List.set_append_right _ _ (by simp),List.length_replicate,Nat.sub_self]
   obtain ⟨d,hd⟩ : ∃ d,L.length - i = d + 1:=⟨L.length - i - 1,by omega⟩
   rw [hd,List.replicate_succ,List.set_cons_zero,show L.length - (i + 1) = d by omega,List.replicate_succ',List.append_assoc];rfl
  ·obtain rfl : i = L.length:=by omega
   simp (maxSteps:=999999) only [ey,implies_true,reduceMul,reducePow,reduceSub,Nat.reduceBEq,reduceToNat,reduceEqDiff,reduceLT,reduceCtorEq,reduceAdd,reduceLeDiff,e19,e18,e3,e1,lt_false hlt]
   refine ⟨hU',hF',?_⟩
   rw [hr];simp
 ·rintro ex env H' ⟨rfl,hU',hF',e3,e1,hr⟩
  have hix:=ix29z (n:=L.length) hr h0
  have hel:=ic_at (l:=List.replicate L.length (-1)) (i:=0) (by simpa using h0)
  have hset : ∀ y,Free (H'.set (H.next + 1) y):=fun y=>hF'.set (hF'.lt hr) y
  have hat2 : ∀ y,(H'.set (H.next + 1) y).blk H'.next = none:=fun y=>(hset y).at
  have hhp2 : ∀ y x,(H'.set (H.next + 1) y).push x = HP (H'.set (H.next + 1) y) [x]:=fun y x=>(hset y).hp x
  simp (maxSteps:=999999) only [ey,implies_true,reduceMul,reducePow,reduceSub,Nat.reduceBEq,reduceToNat,reduceEqDiff,reduceLT,reduceCtorEq,reduceAdd,reduceLeDiff,e3,e1,hix,hr,hel,splice1,ic_set,hat2,hhp2]
  have hFs:=hset (.row 3 1 (intCells ((List.replicate L.length (-1)).set 0 0)) 0 0)
  generalize hHs : H'.set (H.next + 1) (.row 3 1 (intCells ((List.replicate L.length (-1)).set 0 0)) 0 0) = Hs at hFs ⊢
  have hnx : Hs.next = H'.next:=by rw [← hHs];rfl
  have hrs : Hs.blk (H.next + 1) = some (.row 3 1 (intCells ((List.replicate L.length (-1)).set 0 0)) 0 0):=by rw [← hHs];exact Heap.set_same _ _ _
  have hUs : Up (hbut H1 (some (H.next + 1))) Hs:=by rw [← hHs];exact hU'.set (by simp [hbut]) _
  generalize hHt : HP Hs [Blk.row 3 1 [[.int .i64 0]] 0 0] = Ht
  have hFt : Free Ht:=hHt ▸ hFs.hpF _
  have hUt : Up Hs Ht:=hHt ▸ hFs.hpU _
  have hdm : ∀ c,H1.blk c ≠ none → Hs.blk c ≠ none:=fun c hc=>by
   by_cases e : some (H.next + 1) = some c
   ·cases e;rw [hrs];simp
   ·cases hx : H1.blk c with
    | none=>exact absurd hx hc
    | some x=>rw [hUs c x (by rw [but_blk e];exact hx)];simp
  have hS0 : Stk H1 Ht 1 (.slice H'.next 0 1 1 true 0) (natCells [0]):=by
   have : Own Hs Ht 3 1 (.slice H'.next 0 1 1 true 0) [[.int .i64 0]]:=by rw [← hHt,← hnx];exact own_hp (k:=0) hFs (Up.refl _) rfl rfl (by simp [AV.isCell])
   exact this.stk.dom fun c hc=>by
    cases hx : H1.blk c with
    | none=>rfl
    | some x=>exact absurd hc (hdm c (by rw [hx];simp))
  have T0 : TS (hbut H1 (some (H.next + 1))) H1 (H.next + 1) 3 1 Ht (.slice H'.next 0 1 1 true 0) (natCells [0]) (intCells ((List.replicate L.length (-1)).set 0 0)):=by
   refine ⟨hUs.trans hUt,hFt,hS0,fun c hc=>?_,hUt _ _ hrs,by rw [hr1];simp,fun c x hx=>by rw [but_up _ _ hx];simp,by simp [hbut]⟩
   cases hx : Hs.blk c with
   | none=>exact absurd hx (hdm c hc)
   | some x=>rw [hUt _ _ hx];simp
  refine loopStep' (fun env H'=>∃ (u : AV) (td : List Nat) (l : List Int),TS (hbut H1 (some (H.next + 1))) H1 (H.next + 1) 3 1 H' u (natCells td) (intCells l) ∧ Inv1 L.length (chkL L) (mvL L) l td none ∧ 2 * unv l + td.length ≤ 2 * L.length ∧ env.at (.tmp 5) = u ∧ env.at (.tmp 3) = (.slice (H.next + 1) 0 L.length L.length true 0) ∧ env.at (.tmp 1) = .ptr H.next 0 0 0)
   (fun env H'=>muH (H.next + 1) 2 (env.at (.tmp 5)) H') ?_ ?_
  ·exact ⟨_,[0],_,T0,inv1_start h0,by have:=unv_set (l:=List.replicate L.length (-1)) (p:=0) (x:=0) (by simpa using h0) (by rw [hat_rep];omega) (Int.le_refl 0);rw [unv_rep] at this;simp;omega,by simp only [ey,implies_true,reduceMul,reducePow,reduceSub,Nat.reduceBEq,reduceToNat,reduceEqDiff,reduceLT,reduceCtorEq,reduceAdd,reduceLeDiff],by simp only [ey,implies_true,reduceMul,reducePow,reduceSub,Nat.reduceBEq,reduceToNat,reduceEqDiff,reduceLT,reduceCtorEq,reduceAdd,reduceLeDiff,e3],by simp only [ey,implies_true,reduceMul,reducePow,reduceSub,Nat.reduceBEq,reduceToNat,reduceEqDiff,reduceLT,reduceCtorEq,reduceAdd,reduceLeDiff,e1]⟩
  ·rintro env2 H2 ⟨u,td0,l,T,hI,hB0,e5,e3,e1⟩
   have hul : ∀ G,evBuiltin Tryz.prog G .len #[29] [u] = some (.int .i64 td0.length,G):=fun G=>by rw [← nc_len];exact T.stk.holds.lenAt und29 G
   rcases snoc_cases td0 with rfl | ⟨td,at_,rfl⟩
   ·simp (maxSteps:=999999) only [ey,implies_true,reduceMul,reducePow,reduceSub,Nat.reduceBEq,reduceToNat,reduceEqDiff,reduceLT,reduceCtorEq,reduceAdd,reduceLeDiff,e5,e3,e1,hul,List.length_nil,show (((0 : Nat) : Int) > 0) = False from by simp]
    rw [fineB_true (inv1_done (mvL_nn L) hI)] at hK
    exact hK _ (hbase.trans T.up) T.free
   ·obtain ⟨hg0,hrc,hat_lt⟩:=inv1_reach hI
    have hll : l.length = L.length:=hI.1
    obtain ⟨c,hc⟩ : ∃ c,L[at_]? = some c:=⟨_,List.getElem?_eq_getElem hat_lt⟩
    have hgd : L.getD at_ [] = c:=by rw [List.getD_eq_getElem?_getD,hc];rfl
    have hixc:=idx83 hv hc
    have hcm:=hL c (List.mem_of_getElem? hc)
    have hjc:=hj c (List.mem_of_getElem? hc)
    obtain ⟨op,a,b,t,V,rfl,hV⟩:=hcm
    obtain ⟨c0,c1,c2,c3,c4,rfl⟩:=five hV.len
    have hVc:=hV.cells
    simp only [List.all_cons,List.all_nil,Bool.and_true,Bool.and_eq_true] at hVc
    have hcc:=hVc
    obtain ⟨i0,i1,i2,i3,i4⟩:=hVc
    simp only [List.cons_append,List.nil_append] at hc hgd hixc hjc
    have hcE : chkL L at_ (hat l at_) = (decide (0 ≤ hat l at_) && decide (hat l at_ ≤ 200) && decide ((effV op a b).1 ≤ hat l at_) && (!((op == 21) || (op == 23)) || hat l at_ == 0)):=by unfold chkL;rw [hgd];rfl
    have htl : ((td ++ [at_]).length) = td.length + 1:=by simp
    rw [List.length_append,List.length_singleton] at hB0
    have hts : td.length < 2 ^ 60:=by omega
    obtain ⟨p1,hp1,hl1,_⟩:=T.stk.holds.index (P:=Tryz.prog) und29 sz3 .i64 (i:=td.length) (cs:=[.int .i64 (at_ : Int)]) (by rw [nc_snoc,List.getElem?_append_right (by rw [nc_len];exact Nat.le_refl _),nc_len,Nat.sub_self];rfl)
    obtain ⟨u2,hu2,hS2,hrow2⟩:=T.stk.cut (P:=Tryz.prog) und29 sz3 (i:=td.length) (by rw [nc_len,htl];omega)
    have hcut : (natCells (td ++ [at_])).take td.length = natCells td:=by rw [nc_snoc,List.take_append_of_le_length (by rw [nc_len];exact Nat.le_refl _),List.take_of_length_le (by rw [nc_len];exact Nat.le_refl _)]
    rw [hcut] at hS2
    have T2:=T.swap hS2
    obtain ⟨s1,s2,s3⟩:=hS2.plain
    have hixh:=ix29 (n:=L.length) T.row hat_lt
    have helh:=ic_at (l:=l) (i:=at_) (by omega)
    have hbx2:=T.up _ _ hbF
    simp (maxSteps:=999999) only [ey,implies_true,reduceMul,reducePow,reduceSub,Nat.reduceBEq,reduceToNat,reduceEqDiff,reduceLT,reduceCtorEq,reduceAdd,reduceLeDiff,e5,e3,e1,hul,htl,gt_pos,wrap_last hts,hp1,hl1 H2 (Up.refl _),optInt,hu2,s1,s2,s3]
    refine drawStep [] [0,1,2,3,4,5,6,7,8,9,10,11] _ rfl (by kernel_rfl) ?_
    simp (maxSteps:=999999) only [ey,implies_true,reduceMul,reducePow,reduceSub,Nat.reduceBEq,reduceToNat,reduceEqDiff,reduceLT,reduceCtorEq,reduceAdd,reduceLeDiff,e5,e3,e1,hixh,T.row,helh,hbx2,hixc,i0,i1,i2,i3,i4,T.free.at,T.free.hp]
    generalize hH3 : HP H2 [Blk.row 104 9 [[.int .i64 op,.int .i64 a,.int .i64 b,.str t,c0,c1,c2,c3,c4]] 0 0] = H3
    have hF3 : Free H3:=hH3 ▸ T.free.hpF _
    have T3:=T2.grow (hH3 ▸ T.free.hpU _) hF3
    have hb8 : H3.blk H2.next = some (.row 104 9 [[.int .i64 op,.int .i64 a,.int .i64 b,.str t,c0,c1,c2,c3,c4]] 0 0):=by rw [← hH3,hp_blk0];rfl
    refine callStep (f51_ok op a b t c0 c1 c2 c3 c4 hcc H3 hF3 _ fun H4 hU4 hF4=>?_)
    have T4:=T3.grow hU4 hF4
    have hb8:=hU4 _ _ hb8
    by_cases hA : hat l at_ < (effV op a b).1
    ·simp (maxSteps:=999999) only [ey,implies_true,reduceMul,reducePow,reduceSub,Nat.reduceBEq,reduceToNat,reduceEqDiff,reduceLT,reduceCtorEq,reduceAdd,reduceLeDiff,e5,e3,e1,hb8,hA]
     have : chkL L at_ (hat l at_) = false:=by rw [hcE];simp [show ¬ (effV op a b).1 ≤ hat l at_ from (by omega)]
     rw [fineB_false (inv1_bad hI this)] at hK
     exact hK _ (hbase.trans T4.up) hF4
    have hA' : (effV op a b).1 ≤ hat l at_:=by omega
    by_cases hB : hat l at_ > 200
    ·simp (maxSteps:=999999) only [ey,implies_true,reduceMul,reducePow,reduceSub,Nat.reduceBEq,reduceToNat,reduceEqDiff,reduceLT,reduceCtorEq,reduceAdd,reduceLeDiff,e5,e3,e1,hb8,hA,hB]
     have : chkL L at_ (hat l at_) = false:=by rw [hcE];simp [show ¬ hat l at_ ≤ 200 from (by omega)]
     rw [fineB_false (inv1_bad hI this)] at hK
     exact hK _ (hbase.trans T4.up) hF4
    have hB' : hat l at_ ≤ 200:=by omega
    cases h21 : (op == 21) with
    | true=>
     cases hz : (hat l at_ == 0) with
     | false=>
      have hzn : (hat l at_ != 0) = true:=by rw [bne,hz];rfl
      simp (maxSteps:=999999) only [ey,implies_true,reduceMul,reducePow,reduceSub,Nat.reduceBEq,reduceToNat,reduceEqDiff,reduceLT,reduceCtorEq,reduceAdd,reduceLeDiff,e5,e3,e1,hb8,hA,hB,h21,hz,hzn]
      have : chkL L at_ (hat l at_) = false:=by rw [hcE];simp only [h21,hz,Bool.true_or,Bool.false_or,Bool.not_true,Bool.or_false,Bool.or_true,Bool.and_false,Bool.or_self]
      rw [fineB_false (inv1_bad hI this)] at hK
      exact hK _ (hbase.trans T4.up) hF4
     | true=>
      have hzn : (hat l at_ != 0) = false:=by rw [bne,hz];rfl
      have hchk : chkL L at_ (hat l at_) = true:=by rw [hcE];simp only [h21,hz,hg0,hA',hB',decide_true,Bool.and_self,Bool.true_or,Bool.false_or,Bool.or_false,Bool.or_self,Bool.not_true,Bool.not_false,Bool.or_true,Bool.true_and,Bool.and_true]
      have hIn:=inv1_pop hI hchk
      simp (maxSteps:=999999) only [ey,implies_true,reduceMul,reducePow,reduceSub,Nat.reduceBEq,reduceToNat,reduceEqDiff,reduceLT,reduceCtorEq,reduceAdd,reduceLeDiff,e5,e3,e1,hb8,hA,hB,h21,hz,hzn]
      refine callStep (f308_ok at_ (hat l at_) op a b t c0 c1 c2 c3 c4 (by omega) hg0 hB' hA' hjc hcc H4 hF4 _ fun w H5 hU5 hF5 hOw=>?_)
      have T5:=T4.grow hU5 hF5
      have hms : mvI [.int .i64 op,.int .i64 a,.int .i64 b,.str t,c0,c1,c2,c3,c4] at_ (hat l at_) = mvL L at_ (hat l at_):=by unfold mvL;rw [hgd]
      rw [hms] at hOw
      generalize hM : mvL L at_ (hat l at_) = ms at hOw
      have hmsl : ms.length ≤ 20:=by rw [← hM];unfold mvL;rw [hgd];exact mv_len _ _ _ hjc
      obtain ⟨z1,z2,z3⟩:=own_plain hOw
      have hwl : ∀ G,evBuiltin Tryz.prog G .len #[319] [w] = some (.int .i64 ms.length,G):=fun G=>by rw [← mc_len];exact hOw.holds.lenAt und319 G
      have hw : Holds (hbut (hbut H5 (rowOf u2)) (some (H.next + 1))) 2 w (mvCells ms):=(own_keep (K:=hbut (hbut H5 (rowOf u2)) (some (H.next + 1))) hOw fun c x hc hx=>by
       have h4:=(own_row hOw hc).1
       rw [but_blk (fun e=>by cases e;rw [T4.row] at h4;cases h4),but_blk (fun e=>(T4.stk.row e).2 h4)];exact hx).holds
      have hbx : (hbut (hbut H5 (rowOf u2)) (some (H.next + 1))).blk H.next = some (.row 85 4 [[.str nm,.int .i64 P,.int .i64 S,v]] 0 0):=by
       rw [but_blk (fun e=>by injection e with e;omega),but_blk (fun e=>by have:=(T5.stk.row e).1;rw [hb1] at this;cases this)]
       exact T5.up _ _ hbF
      simp (maxSteps:=999999) only [ey,implies_true,reduceMul,reducePow,reduceSub,Nat.reduceBEq,reduceToNat,reduceEqDiff,reduceLT,reduceCtorEq,reduceAdd,reduceLeDiff,e5,e3,e1,z1,z2,z3,hwl]
      refine loopStep' (fun env H'=>∃ (j : Nat) (x : AV) (td' : List Nat) (l' : List Int),j ≤ ms.length ∧ env.at (.tmp 83) = .int .i64 j ∧ env.at (.tmp 82) = .int .i64 ms.length ∧ env.at (.tmp 81) = w ∧ env.at (.tmp 5) = x ∧ env.at (.tmp 3) = (.slice (H.next + 1) 0 L.length L.length true 0) ∧ env.at (.tmp 1) = .ptr H.next 0 0 0 ∧
        TS (hbut (hbut H5 (rowOf u2)) (some (H.next + 1))) (hbut H5 (rowOf u2)) (H.next + 1) 3 1 H' x (natCells td') (intCells l') ∧ Inn1 L.length (chkL L) (mvL L) l' td' at_ (hat l at_) j ∧ 2 * unv l' + td'.length ≤ 2 * unv l + td.length)
       (fun env H'=>match env.at (.tmp 83) with | .int _ i=>((ms.length : Int) - i).toNat | _=>0) ?_ ?_
      ·exact ⟨0,u2,td,l,Nat.zero_le _,by simp only [ey,implies_true,reduceMul,reducePow,reduceSub,Nat.reduceBEq,reduceToNat,reduceEqDiff,reduceLT,reduceCtorEq,reduceAdd,reduceLeDiff];rfl,by simp only [ey,implies_true,reduceMul,reducePow,reduceSub,Nat.reduceBEq,reduceToNat,reduceEqDiff,reduceLT,reduceCtorEq,reduceAdd,reduceLeDiff],by simp only [ey,implies_true,reduceMul,reducePow,reduceSub,Nat.reduceBEq,reduceToNat,reduceEqDiff,reduceLT,reduceCtorEq,reduceAdd,reduceLeDiff],by simp only [ey,implies_true,reduceMul,reducePow,reduceSub,Nat.reduceBEq,reduceToNat,reduceEqDiff,reduceLT,reduceCtorEq,reduceAdd,reduceLeDiff],by simp only [ey,implies_true,reduceMul,reducePow,reduceSub,Nat.reduceBEq,reduceToNat,reduceEqDiff,reduceLT,reduceCtorEq,reduceAdd,reduceLeDiff,e3],by simp only [ey,implies_true,reduceMul,reducePow,reduceSub,Nat.reduceBEq,reduceToNat,reduceEqDiff,reduceLT,reduceCtorEq,reduceAdd,reduceLeDiff,e1],T5.inner,hIn,Nat.le_refl _⟩
      ·rintro env5 H6 ⟨j,x,td',l',hj,d83,d82,d81,d5,d3,d1,T6,hN,hmu⟩
       have hll : l'.length = L.length:=hN.1.1
       by_cases hlt : j < ms.length
       ·obtain ⟨m,hmj⟩ : ∃ m,ms[j]? = some m:=⟨_,List.getElem?_eq_getElem hlt⟩
        obtain ⟨q,k⟩:=m
        have hmv : (mvL L at_ (hat l at_))[j]? = some (q,k):=by rw [hM];exact hmj
        have hmc : (mvCells ms)[j]? = some [.int .i64 (q : Int),.int .i64 k]:=by unfold mvCells;rw [List.getElem?_map,hmj];rfl
        obtain ⟨p2,hp2,hl2,_⟩:=(hw.up T6.up).index (P:=Tryz.prog) und319 sz322 .i64 hmc
        simp (maxSteps:=999999) only [ey,implies_true,reduceMul,reducePow,reduceSub,Nat.reduceBEq,reduceToNat,reduceEqDiff,reduceLT,reduceCtorEq,reduceAdd,reduceLeDiff,d83,d82,d81,d5,d3,d1,lt_true hlt,hp2,hl2 H6 (Up.refl _),T6.free.at,T6.free.hp]
        generalize hH7 : HP H6 [Blk.row 322 2 [[.int .i64 (q : Int),.int .i64 k]] 0 0] = H7
        have hF7 : Free H7:=hH7 ▸ T6.free.hpF _
        have T7:=T6.grow (hH7 ▸ T6.free.hpU _) hF7
        have hb12 : H7.blk H6.next = some (.row 322 2 [[.int .i64 (q : Int),.int .i64 k]] 0 0):=by rw [← hH7,hp_blk0];rfl
        have hb7:=T7.up _ _ hbx
        have hout:=hbase.trans (T5.outer T7).up
        refine drawStep [] [0,1,2,3,4,5,6,7,8,9,10,11,12,13,14,15,16,17,18,19,20,21,22,23,24] _ rfl (by kernel_rfl) ?_
        by_cases hq : L.length ≤ q
        ·simp (maxSteps:=999999) only [ey,implies_true,reduceMul,reducePow,reduceSub,Nat.reduceBEq,reduceToNat,reduceEqDiff,reduceLT,reduceCtorEq,reduceAdd,reduceLeDiff,d83,d82,d81,d5,d3,d1,hb12,hb7,hlv,ge_nat,hq]
         rw [fineB_false (inn1_out hN hmv hq)] at hK
         exact hK _ hout hF7
        ·have hql : q < L.length:=by omega
         have hix7:=ix29 (n:=L.length) T7.row hql
         have hel:=ic_at (l:=l') (i:=q) (by omega)
         by_cases hge : hat l' q ≥ 0
         ·cases hk : (hat l' q == k) with
          | false=>
           have hkn : (hat l' q != k) = true:=by rw [bne,hk];rfl
           simp (maxSteps:=999999) only [ey,implies_true,reduceMul,reducePow,reduceSub,Nat.reduceBEq,reduceToNat,reduceEqDiff,reduceLT,reduceCtorEq,reduceAdd,reduceLeDiff,d83,d82,d81,d5,d3,d1,hb12,hb7,hlv,ge_nat,hq,hix7,T7.row,hel,hge,hkn]
           rw [fineB_false (inn1_two hN hmv hge (by simpa using hk))] at hK
           exact hK _ hout hF7
          | true=>
           have hkn : (hat l' q != k) = false:=by rw [bne,hk];rfl
           have hlt0 : ¬ hat l' q < 0:=by omega
           simp (maxSteps:=999999) only [ey,implies_true,reduceMul,reducePow,reduceSub,Nat.reduceBEq,reduceToNat,reduceEqDiff,reduceLT,reduceCtorEq,reduceAdd,reduceLeDiff,d83,d82,d81,d5,d3,d1,hb12,hb7,hlv,ge_nat,hq,hix7,T7.row,hel,hge,hkn,hlt0,wrap_succ (i:=j) (by omega)]
           exact ⟨⟨j + 1,x,td',l',hlt,rfl,rfl,T7,inn1_same hN hmv (by simpa using hk),hmu⟩,by omega⟩
         ·have hlt0 : hat l' q < 0:=by omega
          have hkk : 0 ≤ k:=mvL_nn L at_ _ hchk _ (List.mem_of_getElem? hmv)
          have hun:=unv_set (l:=l') (p:=q) (x:=k) (by omega) hlt0 hkk
          have T8:=T7.store (intCells (l'.set q k))
          have hfr8:=T8.free
          simp (maxSteps:=999999) only [ey,implies_true,reduceMul,reducePow,reduceSub,Nat.reduceBEq,reduceToNat,reduceEqDiff,reduceLT,reduceCtorEq,reduceAdd,reduceLeDiff,d83,d82,d81,d5,d3,d1,hb12,hb7,hlv,ge_nat,hq,hix7,T7.row,hel,hge,hlt0,splice1,ic_set]
          have hb12' : ∀ y,(H7.set (H.next + 1) y).blk H6.next = some (.row 322 2 [[.int .i64 (q : Int),.int .i64 k]] 0 0):=fun y=>by
           rw [Heap.set_other _ _ _ (fun e=>by have:=T6.free.lt T6.row;omega)];exact hb12
          simp (maxSteps:=999999) only [ey,implies_true,reduceMul,reducePow,reduceSub,Nat.reduceBEq,reduceToNat,reduceEqDiff,reduceLT,reduceCtorEq,reduceAdd,reduceLeDiff,d5,d3,d1,hb12',show ∀ y,(H7.set (H.next + 1) y).blk H7.next = none from fun y=>(hF7.set (hF7.lt T7.row) y).at,hfr8.hp]
          refine opStep_push app29 ((T8.stk.up (hfr8.hpU _)).but) (hfr8.hpF _) but_up (holds_hp (k:=0) (L:=[[.int .i64 (q : Int)]]) rfl rfl (Nat.le_refl _) (by simp)) (by simp [AV.isCell]) (by simp [nc_len,maxBytes];omega) (by simp [nc_len,maxBytes];omega) (fun x' K' hS' hU' hF'=>?_)
          have T9:=(T8.grow (hfr8.hpU _) (hfr8.hpF _)).push hS' hU' hF'
          rw [← nc_snoc] at T9
          obtain ⟨y1,y2,y3⟩:=T9.stk.plain
          simp (maxSteps:=999999) only [ey,implies_true,reduceMul,reducePow,reduceSub,Nat.reduceBEq,reduceToNat,reduceEqDiff,reduceLT,reduceCtorEq,reduceAdd,reduceLeDiff,d83,d82,d81,d5,d3,d1,wrap_succ (i:=j) (by omega)]
          exact ⟨⟨j + 1,x',td' ++ [q],l'.set q k,hlt,rfl,rfl,T9,inn1_new (mvL_nn L) hN hmv hql hlt0,by rw [List.length_append,List.length_singleton];omega⟩,by omega⟩
       ·obtain rfl : j = ms.length:=by omega
        simp (maxSteps:=999999) only [ey,implies_true,reduceMul,reducePow,reduceSub,Nat.reduceBEq,reduceToNat,reduceEqDiff,reduceLT,reduceCtorEq,reduceAdd,reduceLeDiff,d83,d82,d81,d5,d3,d1,lt_false hlt]
        refine ⟨⟨x,td',l',T5.outer T6,inn1_end hN (by rw [hM];exact Nat.le_refl _),by omega,rfl⟩,?_⟩
        rw [muH_eq T6.row T6.stk.holds,muH_eq T.row T.stk.holds,nc_len,nc_len,List.length_append,List.length_singleton]
        omega
    | false=>
     cases h23 : (op == 23) with
     | true=>
      cases hz : (hat l at_ == 0) with
      | false=>
       have hzn : (hat l at_ != 0) = true:=by rw [bne,hz];rfl
       simp (maxSteps:=999999) only [ey,implies_true,reduceMul,reducePow,reduceSub,Nat.reduceBEq,reduceToNat,reduceEqDiff,reduceLT,reduceCtorEq,reduceAdd,reduceLeDiff,e5,e3,e1,hb8,hA,hB,h21,h23,hz,hzn]
       have : chkL L at_ (hat l at_) = false:=by rw [hcE];simp only [h21,h23,hz,Bool.true_or,Bool.false_or,Bool.not_true,Bool.or_false,Bool.or_true,Bool.and_false,Bool.or_self]
       rw [fineB_false (inv1_bad hI this)] at hK
       exact hK _ (hbase.trans T4.up) hF4
      | true=>
       have hzn : (hat l at_ != 0) = false:=by rw [bne,hz];rfl
       have hchk : chkL L at_ (hat l at_) = true:=by rw [hcE];simp only [h21,h23,hz,hg0,hA',hB',decide_true,Bool.and_self,Bool.true_or,Bool.false_or,Bool.or_false,Bool.or_self,Bool.not_true,Bool.not_false,Bool.or_true,Bool.true_and,Bool.and_true]
       have hIn:=inv1_pop hI hchk
       simp (maxSteps:=999999) only [ey,implies_true,reduceMul,reducePow,reduceSub,Nat.reduceBEq,reduceToNat,reduceEqDiff,reduceLT,reduceCtorEq,reduceAdd,reduceLeDiff,e5,e3,e1,hb8,hA,hB,h21,h23,hz,hzn]
       refine callStep (f308_ok at_ (hat l at_) op a b t c0 c1 c2 c3 c4 (by omega) hg0 hB' hA' hjc hcc H4 hF4 _ fun w H5 hU5 hF5 hOw=>?_)
       have T5:=T4.grow hU5 hF5
       have hms : mvI [.int .i64 op,.int .i64 a,.int .i64 b,.str t,c0,c1,c2,c3,c4] at_ (hat l at_) = mvL L at_ (hat l at_):=by unfold mvL;rw [hgd]
       rw [hms] at hOw
       generalize hM : mvL L at_ (hat l at_) = ms at hOw
       have hmsl : ms.length ≤ 20:=by rw [← hM];unfold mvL;rw [hgd];exact mv_len _ _ _ hjc
       obtain ⟨z1,z2,z3⟩:=own_plain hOw
       have hwl : ∀ G,evBuiltin Tryz.prog G .len #[319] [w] = some (.int .i64 ms.length,G):=fun G=>by rw [← mc_len];exact hOw.holds.lenAt und319 G
       have hw : Holds (hbut (hbut H5 (rowOf u2)) (some (H.next + 1))) 2 w (mvCells ms):=(own_keep (K:=hbut (hbut H5 (rowOf u2)) (some (H.next + 1))) hOw fun c x hc hx=>by
        have h4:=(own_row hOw hc).1
        rw [but_blk (fun e=>by cases e;rw [T4.row] at h4;cases h4),but_blk (fun e=>(T4.stk.row e).2 h4)];exact hx).holds
       have hbx : (hbut (hbut H5 (rowOf u2)) (some (H.next + 1))).blk H.next = some (.row 85 4 [[.str nm,.int .i64 P,.int .i64 S,v]] 0 0):=by
        rw [but_blk (fun e=>by injection e with e;omega),but_blk (fun e=>by have:=(T5.stk.row e).1;rw [hb1] at this;cases this)]
        exact T5.up _ _ hbF
       simp (maxSteps:=999999) only [ey,implies_true,reduceMul,reducePow,reduceSub,Nat.reduceBEq,reduceToNat,reduceEqDiff,reduceLT,reduceCtorEq,reduceAdd,reduceLeDiff,e5,e3,e1,z1,z2,z3,hwl]
       refine loopStep' (fun env H'=>∃ (j : Nat) (x : AV) (td' : List Nat) (l' : List Int),j ≤ ms.length ∧ env.at (.tmp 83) = .int .i64 j ∧ env.at (.tmp 82) = .int .i64 ms.length ∧ env.at (.tmp 81) = w ∧ env.at (.tmp 5) = x ∧ env.at (.tmp 3) = (.slice (H.next + 1) 0 L.length L.length true 0) ∧ env.at (.tmp 1) = .ptr H.next 0 0 0 ∧
         TS (hbut (hbut H5 (rowOf u2)) (some (H.next + 1))) (hbut H5 (rowOf u2)) (H.next + 1) 3 1 H' x (natCells td') (intCells l') ∧ Inn1 L.length (chkL L) (mvL L) l' td' at_ (hat l at_) j ∧ 2 * unv l' + td'.length ≤ 2 * unv l + td.length)
        (fun env H'=>match env.at (.tmp 83) with | .int _ i=>((ms.length : Int) - i).toNat | _=>0) ?_ ?_
       ·exact ⟨0,u2,td,l,Nat.zero_le _,by simp only [ey,implies_true,reduceMul,reducePow,reduceSub,Nat.reduceBEq,reduceToNat,reduceEqDiff,reduceLT,reduceCtorEq,reduceAdd,reduceLeDiff];rfl,by simp only [ey,implies_true,reduceMul,reducePow,reduceSub,Nat.reduceBEq,reduceToNat,reduceEqDiff,reduceLT,reduceCtorEq,reduceAdd,reduceLeDiff],by simp only [ey,implies_true,reduceMul,reducePow,reduceSub,Nat.reduceBEq,reduceToNat,reduceEqDiff,reduceLT,reduceCtorEq,reduceAdd,reduceLeDiff],by simp only [ey,implies_true,reduceMul,reducePow,reduceSub,Nat.reduceBEq,reduceToNat,reduceEqDiff,reduceLT,reduceCtorEq,reduceAdd,reduceLeDiff],by simp only [ey,implies_true,reduceMul,reducePow,reduceSub,Nat.reduceBEq,reduceToNat,reduceEqDiff,reduceLT,reduceCtorEq,reduceAdd,reduceLeDiff,e3],by simp only [ey,implies_true,reduceMul,reducePow,reduceSub,Nat.reduceBEq,reduceToNat,reduceEqDiff,reduceLT,reduceCtorEq,reduceAdd,reduceLeDiff,e1],T5.inner,hIn,Nat.le_refl _⟩
       ·rintro env5 H6 ⟨j,x,td',l',hj,d83,d82,d81,d5,d3,d1,T6,hN,hmu⟩
        have hll : l'.length = L.length:=hN.1.1
        by_cases hlt : j < ms.length
        ·obtain ⟨m,hmj⟩ : ∃ m,ms[j]? = some m:=⟨_,List.getElem?_eq_getElem hlt⟩
         obtain ⟨q,k⟩:=m
         have hmv : (mvL L at_ (hat l at_))[j]? = some (q,k):=by rw [hM];exact hmj
         have hmc : (mvCells ms)[j]? = some [.int .i64 (q : Int),.int .i64 k]:=by unfold mvCells;rw [List.getElem?_map,hmj];rfl
         obtain ⟨p2,hp2,hl2,_⟩:=(hw.up T6.up).index (P:=Tryz.prog) und319 sz322 .i64 hmc
         simp (maxSteps:=999999) only [ey,implies_true,reduceMul,reducePow,reduceSub,Nat.reduceBEq,reduceToNat,reduceEqDiff,reduceLT,reduceCtorEq,reduceAdd,reduceLeDiff,d83,d82,d81,d5,d3,d1,lt_true hlt,hp2,hl2 H6 (Up.refl _),T6.free.at,T6.free.hp]
         generalize hH7 : HP H6 [Blk.row 322 2 [[.int .i64 (q : Int),.int .i64 k]] 0 0] = H7
         have hF7 : Free H7:=hH7 ▸ T6.free.hpF _
         have T7:=T6.grow (hH7 ▸ T6.free.hpU _) hF7
         have hb12 : H7.blk H6.next = some (.row 322 2 [[.int .i64 (q : Int),.int .i64 k]] 0 0):=by rw [← hH7,hp_blk0];rfl
         have hb7:=T7.up _ _ hbx
         have hout:=hbase.trans (T5.outer T7).up
         refine drawStep [] [0,1,2,3,4,5,6,7,8,9,10,11,12,13,14,15,16,17,18,19,20,21,22,23,24] _ rfl (by kernel_rfl) ?_
         by_cases hq : L.length ≤ q
         ·simp (maxSteps:=999999) only [ey,implies_true,reduceMul,reducePow,reduceSub,Nat.reduceBEq,reduceToNat,reduceEqDiff,reduceLT,reduceCtorEq,reduceAdd,reduceLeDiff,d83,d82,d81,d5,d3,d1,hb12,hb7,hlv,ge_nat,hq]
          rw [fineB_false (inn1_out hN hmv hq)] at hK
          exact hK _ hout hF7
         ·have hql : q < L.length:=by omega
          have hix7:=ix29 (n:=L.length) T7.row hql
          have hel:=ic_at (l:=l') (i:=q) (by omega)
          by_cases hge : hat l' q ≥ 0
          ·cases hk : (hat l' q == k) with
           | false=>
            have hkn : (hat l' q != k) = true:=by rw [bne,hk];rfl
            simp (maxSteps:=999999) only [ey,implies_true,reduceMul,reducePow,reduceSub,Nat.reduceBEq,reduceToNat,reduceEqDiff,reduceLT,reduceCtorEq,reduceAdd,reduceLeDiff,d83,d82,d81,d5,d3,d1,hb12,hb7,hlv,ge_nat,hq,hix7,T7.row,hel,hge,hkn]
            rw [fineB_false (inn1_two hN hmv hge (by simpa using hk))] at hK
            exact hK _ hout hF7
           | true=>
            have hkn : (hat l' q != k) = false:=by rw [bne,hk];rfl
            have hlt0 : ¬ hat l' q < 0:=by omega
            simp (maxSteps:=999999) only [ey,implies_true,reduceMul,reducePow,reduceSub,Nat.reduceBEq,reduceToNat,reduceEqDiff,reduceLT,reduceCtorEq,reduceAdd,reduceLeDiff,d83,d82,d81,d5,d3,d1,hb12,hb7,hlv,ge_nat,hq,hix7,T7.row,hel,hge,hkn,hlt0,wrap_succ (i:=j) (by omega)]
            exact ⟨⟨j + 1,x,td',l',hlt,rfl,rfl,T7,inn1_same hN hmv (by simpa using hk),hmu⟩,by omega⟩
          ·have hlt0 : hat l' q < 0:=by omega
           have hkk : 0 ≤ k:=mvL_nn L at_ _ hchk _ (List.mem_of_getElem? hmv)
           have hun:=unv_set (l:=l') (p:=q) (x:=k) (by omega) hlt0 hkk
           have T8:=T7.store (intCells (l'.set q k))
           have hfr8:=T8.free
           simp (maxSteps:=999999) only [ey,implies_true,reduceMul,reducePow,reduceSub,Nat.reduceBEq,reduceToNat,reduceEqDiff,reduceLT,reduceCtorEq,reduceAdd,reduceLeDiff,d83,d82,d81,d5,d3,d1,hb12,hb7,hlv,ge_nat,hq,hix7,T7.row,hel,hge,hlt0,splice1,ic_set]
           have hb12' : ∀ y,(H7.set (H.next + 1) y).blk H6.next = some (.row 322 2 [[.int .i64 (q : Int),.int .i64 k]] 0 0):=fun y=>by
            rw [Heap.set_other _ _ _ (fun e=>by have:=T6.free.lt T6.row;omega)];exact hb12
           simp (maxSteps:=999999) only [ey,implies_true,reduceMul,reducePow,reduceSub,Nat.reduceBEq,reduceToNat,reduceEqDiff,reduceLT,reduceCtorEq,reduceAdd,reduceLeDiff,d5,d3,d1,hb12',show ∀ y,(H7.set (H.next + 1) y).blk H7.next = none from fun y=>(hF7.set (hF7.lt T7.row) y).at,hfr8.hp]
           refine opStep_push app29 ((T8.stk.up (hfr8.hpU _)).but) (hfr8.hpF _) but_up (holds_hp (k:=0) (L:=[[.int .i64 (q : Int)]]) rfl rfl (Nat.le_refl _) (by simp)) (by simp [AV.isCell]) (by simp [nc_len,maxBytes];omega) (by simp [nc_len,maxBytes];omega) (fun x' K' hS' hU' hF'=>?_)
           have T9:=(T8.grow (hfr8.hpU _) (hfr8.hpF _)).push hS' hU' hF'
           rw [← nc_snoc] at T9
           obtain ⟨y1,y2,y3⟩:=T9.stk.plain
           simp (maxSteps:=999999) only [ey,implies_true,reduceMul,reducePow,reduceSub,Nat.reduceBEq,reduceToNat,reduceEqDiff,reduceLT,reduceCtorEq,reduceAdd,reduceLeDiff,d83,d82,d81,d5,d3,d1,wrap_succ (i:=j) (by omega)]
           exact ⟨⟨j + 1,x',td' ++ [q],l'.set q k,hlt,rfl,rfl,T9,inn1_new (mvL_nn L) hN hmv hql hlt0,by rw [List.length_append,List.length_singleton];omega⟩,by omega⟩
        ·obtain rfl : j = ms.length:=by omega
         simp (maxSteps:=999999) only [ey,implies_true,reduceMul,reducePow,reduceSub,Nat.reduceBEq,reduceToNat,reduceEqDiff,reduceLT,reduceCtorEq,reduceAdd,reduceLeDiff,d83,d82,d81,d5,d3,d1,lt_false hlt]
         refine ⟨⟨x,td',l',T5.outer T6,inn1_end hN (by rw [hM];exact Nat.le_refl _),by omega,rfl⟩,?_⟩
         rw [muH_eq T6.row T6.stk.holds,muH_eq T.row T.stk.holds,nc_len,nc_len,List.length_append,List.length_singleton]
         omega
     | false=>
      have hchk : chkL L at_ (hat l at_) = true:=by rw [hcE];simp only [h21,h23,hg0,hA',hB',decide_true,Bool.and_self,Bool.true_or,Bool.false_or,Bool.or_false,Bool.or_self,Bool.not_true,Bool.not_false,Bool.or_true,Bool.true_and,Bool.and_true]
      have hIn:=inv1_pop hI hchk
      simp (maxSteps:=999999) only [ey,implies_true,reduceMul,reducePow,reduceSub,Nat.reduceBEq,reduceToNat,reduceEqDiff,reduceLT,reduceCtorEq,reduceAdd,reduceLeDiff,e5,e3,e1,hb8,hA,hB,h21,h23]
      refine callStep (f308_ok at_ (hat l at_) op a b t c0 c1 c2 c3 c4 (by omega) hg0 hB' hA' hjc hcc H4 hF4 _ fun w H5 hU5 hF5 hOw=>?_)
      have T5:=T4.grow hU5 hF5
      have hms : mvI [.int .i64 op,.int .i64 a,.int .i64 b,.str t,c0,c1,c2,c3,c4] at_ (hat l at_) = mvL L at_ (hat l at_):=by unfold mvL;rw [hgd]
      rw [hms] at hOw
      generalize hM : mvL L at_ (hat l at_) = ms at hOw
      have hmsl : ms.length ≤ 20:=by rw [← hM];unfold mvL;rw [hgd];exact mv_len _ _ _ hjc
      obtain ⟨z1,z2,z3⟩:=own_plain hOw
      have hwl : ∀ G,evBuiltin Tryz.prog G .len #[319] [w] = some (.int .i64 ms.length,G):=fun G=>by rw [← mc_len];exact hOw.holds.lenAt und319 G
      have hw : Holds (hbut (hbut H5 (rowOf u2)) (some (H.next + 1))) 2 w (mvCells ms):=(own_keep (K:=hbut (hbut H5 (rowOf u2)) (some (H.next + 1))) hOw fun c x hc hx=>by
       have h4:=(own_row hOw hc).1
       rw [but_blk (fun e=>by cases e;rw [T4.row] at h4;cases h4),but_blk (fun e=>(T4.stk.row e).2 h4)];exact hx).holds
      have hbx : (hbut (hbut H5 (rowOf u2)) (some (H.next + 1))).blk H.next = some (.row 85 4 [[.str nm,.int .i64 P,.int .i64 S,v]] 0 0):=by
       rw [but_blk (fun e=>by injection e with e;omega),but_blk (fun e=>by have:=(T5.stk.row e).1;rw [hb1] at this;cases this)]
       exact T5.up _ _ hbF
      simp (maxSteps:=999999) only [ey,implies_true,reduceMul,reducePow,reduceSub,Nat.reduceBEq,reduceToNat,reduceEqDiff,reduceLT,reduceCtorEq,reduceAdd,reduceLeDiff,e5,e3,e1,z1,z2,z3,hwl]
      refine loopStep' (fun env H'=>∃ (j : Nat) (x : AV) (td' : List Nat) (l' : List Int),j ≤ ms.length ∧ env.at (.tmp 83) = .int .i64 j ∧ env.at (.tmp 82) = .int .i64 ms.length ∧ env.at (.tmp 81) = w ∧ env.at (.tmp 5) = x ∧ env.at (.tmp 3) = (.slice (H.next + 1) 0 L.length L.length true 0) ∧ env.at (.tmp 1) = .ptr H.next 0 0 0 ∧
        TS (hbut (hbut H5 (rowOf u2)) (some (H.next + 1))) (hbut H5 (rowOf u2)) (H.next + 1) 3 1 H' x (natCells td') (intCells l') ∧ Inn1 L.length (chkL L) (mvL L) l' td' at_ (hat l at_) j ∧ 2 * unv l' + td'.length ≤ 2 * unv l + td.length)
       (fun env H'=>match env.at (.tmp 83) with | .int _ i=>((ms.length : Int) - i).toNat | _=>0) ?_ ?_
      ·exact ⟨0,u2,td,l,Nat.zero_le _,by simp only [ey,implies_true,reduceMul,reducePow,reduceSub,Nat.reduceBEq,reduceToNat,reduceEqDiff,reduceLT,reduceCtorEq,reduceAdd,reduceLeDiff];rfl,by simp only [ey,implies_true,reduceMul,reducePow,reduceSub,Nat.reduceBEq,reduceToNat,reduceEqDiff,reduceLT,reduceCtorEq,reduceAdd,reduceLeDiff],by simp only [ey,implies_true,reduceMul,reducePow,reduceSub,Nat.reduceBEq,reduceToNat,reduceEqDiff,reduceLT,reduceCtorEq,reduceAdd,reduceLeDiff],by simp only [ey,implies_true,reduceMul,reducePow,reduceSub,Nat.reduceBEq,reduceToNat,reduceEqDiff,reduceLT,reduceCtorEq,reduceAdd,reduceLeDiff],by simp only [ey,implies_true,reduceMul,reducePow,reduceSub,Nat.reduceBEq,reduceToNat,reduceEqDiff,reduceLT,reduceCtorEq,reduceAdd,reduceLeDiff,e3],by simp only [ey,implies_true,reduceMul,reducePow,reduceSub,Nat.reduceBEq,reduceToNat,reduceEqDiff,reduceLT,reduceCtorEq,reduceAdd,reduceLeDiff,e1],T5.inner,hIn,Nat.le_refl _⟩
      ·rintro env5 H6 ⟨j,x,td',l',hj,d83,d82,d81,d5,d3,d1,T6,hN,hmu⟩
       have hll : l'.length = L.length:=hN.1.1
       by_cases hlt : j < ms.length
       ·obtain ⟨m,hmj⟩ : ∃ m,ms[j]? = some m:=⟨_,List.getElem?_eq_getElem hlt⟩
        obtain ⟨q,k⟩:=m
        have hmv : (mvL L at_ (hat l at_))[j]? = some (q,k):=by rw [hM];exact hmj
        have hmc : (mvCells ms)[j]? = some [.int .i64 (q : Int),.int .i64 k]:=by unfold mvCells;rw [List.getElem?_map,hmj];rfl
        obtain ⟨p2,hp2,hl2,_⟩:=(hw.up T6.up).index (P:=Tryz.prog) und319 sz322 .i64 hmc
        simp (maxSteps:=999999) only [ey,implies_true,reduceMul,reducePow,reduceSub,Nat.reduceBEq,reduceToNat,reduceEqDiff,reduceLT,reduceCtorEq,reduceAdd,reduceLeDiff,d83,d82,d81,d5,d3,d1,lt_true hlt,hp2,hl2 H6 (Up.refl _),T6.free.at,T6.free.hp]
        generalize hH7 : HP H6 [Blk.row 322 2 [[.int .i64 (q : Int),.int .i64 k]] 0 0] = H7
        have hF7 : Free H7:=hH7 ▸ T6.free.hpF _
        have T7:=T6.grow (hH7 ▸ T6.free.hpU _) hF7
        have hb12 : H7.blk H6.next = some (.row 322 2 [[.int .i64 (q : Int),.int .i64 k]] 0 0):=by rw [← hH7,hp_blk0];rfl
        have hb7:=T7.up _ _ hbx
        have hout:=hbase.trans (T5.outer T7).up
        refine drawStep [] [0,1,2,3,4,5,6,7,8,9,10,11,12,13,14,15,16,17,18,19,20,21,22,23,24] _ rfl (by kernel_rfl) ?_
        by_cases hq : L.length ≤ q
        ·simp (maxSteps:=999999) only [ey,implies_true,reduceMul,reducePow,reduceSub,Nat.reduceBEq,reduceToNat,reduceEqDiff,reduceLT,reduceCtorEq,reduceAdd,reduceLeDiff,d83,d82,d81,d5,d3,d1,hb12,hb7,hlv,ge_nat,hq]
         rw [fineB_false (inn1_out hN hmv hq)] at hK
         exact hK _ hout hF7
        ·have hql : q < L.length:=by omega
         have hix7:=ix29 (n:=L.length) T7.row hql
         have hel:=ic_at (l:=l') (i:=q) (by omega)
         by_cases hge : hat l' q ≥ 0
         ·cases hk : (hat l' q == k) with
          | false=>
           have hkn : (hat l' q != k) = true:=by rw [bne,hk];rfl
           simp (maxSteps:=999999) only [ey,implies_true,reduceMul,reducePow,reduceSub,Nat.reduceBEq,reduceToNat,reduceEqDiff,reduceLT,reduceCtorEq,reduceAdd,reduceLeDiff,d83,d82,d81,d5,d3,d1,hb12,hb7,hlv,ge_nat,hq,hix7,T7.row,hel,hge,hkn]
           rw [fineB_false (inn1_two hN hmv hge (by simpa using hk))] at hK
           exact hK _ hout hF7
          | true=>
           have hkn : (hat l' q != k) = false:=by rw [bne,hk];rfl
           have hlt0 : ¬ hat l' q < 0:=by omega
           simp (maxSteps:=999999) only [ey,implies_true,reduceMul,reducePow,reduceSub,Nat.reduceBEq,reduceToNat,reduceEqDiff,reduceLT,reduceCtorEq,reduceAdd,reduceLeDiff,d83,d82,d81,d5,d3,d1,hb12,hb7,hlv,ge_nat,hq,hix7,T7.row,hel,hge,hkn,hlt0,wrap_succ (i:=j) (by omega)]
           exact ⟨⟨j + 1,x,td',l',hlt,rfl,rfl,T7,inn1_same hN hmv (by simpa using hk),hmu⟩,by omega⟩
         ·have hlt0 : hat l' q < 0:=by omega
          have hkk : 0 ≤ k:=mvL_nn L at_ _ hchk _ (List.mem_of_getElem? hmv)
          have hun:=unv_set (l:=l') (p:=q) (x:=k) (by omega) hlt0 hkk
          have T8:=T7.store (intCells (l'.set q k))
          have hfr8:=T8.free
          simp (maxSteps:=999999) only [ey,implies_true,reduceMul,reducePow,reduceSub,Nat.reduceBEq,reduceToNat,reduceEqDiff,reduceLT,reduceCtorEq,reduceAdd,reduceLeDiff,d83,d82,d81,d5,d3,d1,hb12,hb7,hlv,ge_nat,hq,hix7,T7.row,hel,hge,hlt0,splice1,ic_set]
          have hb12' : ∀ y,(H7.set (H.next + 1) y).blk H6.next = some (.row 322 2 [[.int .i64 (q : Int),.int .i64 k]] 0 0):=fun y=>by
           rw [Heap.set_other _ _ _ (fun e=>by have:=T6.free.lt T6.row;omega)];exact hb12
          simp (maxSteps:=999999) only [ey,implies_true,reduceMul,reducePow,reduceSub,Nat.reduceBEq,reduceToNat,reduceEqDiff,reduceLT,reduceCtorEq,reduceAdd,reduceLeDiff,d5,d3,d1,hb12',show ∀ y,(H7.set (H.next + 1) y).blk H7.next = none from fun y=>(hF7.set (hF7.lt T7.row) y).at,hfr8.hp]
          refine opStep_push app29 ((T8.stk.up (hfr8.hpU _)).but) (hfr8.hpF _) but_up (holds_hp (k:=0) (L:=[[.int .i64 (q : Int)]]) rfl rfl (Nat.le_refl _) (by simp)) (by simp [AV.isCell]) (by simp [nc_len,maxBytes];omega) (by simp [nc_len,maxBytes];omega) (fun x' K' hS' hU' hF'=>?_)
          have T9:=(T8.grow (hfr8.hpU _) (hfr8.hpF _)).push hS' hU' hF'
          rw [← nc_snoc] at T9
          obtain ⟨y1,y2,y3⟩:=T9.stk.plain
          simp (maxSteps:=999999) only [ey,implies_true,reduceMul,reducePow,reduceSub,Nat.reduceBEq,reduceToNat,reduceEqDiff,reduceLT,reduceCtorEq,reduceAdd,reduceLeDiff,d83,d82,d81,d5,d3,d1,wrap_succ (i:=j) (by omega)]
          exact ⟨⟨j + 1,x',td' ++ [q],l'.set q k,hlt,rfl,rfl,T9,inn1_new (mvL_nn L) hN hmv hql hlt0,by rw [List.length_append,List.length_singleton];omega⟩,by omega⟩
       ·obtain rfl : j = ms.length:=by omega
        simp (maxSteps:=999999) only [ey,implies_true,reduceMul,reducePow,reduceSub,Nat.reduceBEq,reduceToNat,reduceEqDiff,reduceLT,reduceCtorEq,reduceAdd,reduceLeDiff,d83,d82,d81,d5,d3,d1,lt_false hlt]
        refine ⟨⟨x,td',l',T5.outer T6,inn1_end hN (by rw [hM];exact Nat.le_refl _),by omega,rfl⟩,?_⟩
        rw [muH_eq T6.row T6.stk.holds,muH_eq T.row T.stk.holds,nc_len,nc_len,List.length_append,List.length_singleton]
        omega
end Go.Proofs.T
