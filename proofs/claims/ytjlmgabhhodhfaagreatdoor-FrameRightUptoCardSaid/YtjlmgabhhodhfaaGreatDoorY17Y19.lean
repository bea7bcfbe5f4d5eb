import Derived.Test.YtjlmgabhhodhfaaGreatDoorY12Y16
set_option linter.unusedVariables false
set_option linter.unusedSimpArgs false
set_option maxRecDepth 100000
namespace Go.Proofs.T
open Go.Ev
open Nat (reduceMul reducePow reduceSub reduceEqDiff reduceLT reduceAdd reduceLeDiff)
open UInt8 (reduceToNat)
def unvH (b : Nat) (H : Heap) : Nat:=match H.blk b with | some (.row _ _ els _ _)=>els.countP negC | _=>0
theorem unvH_eq {b : Nat} {H : Heap} {ty : Nat} {l : List Int} (hr : H.blk b = some (.row ty 1 (intCells l) 0 0)) : unvH b H = unv l:=by
 unfold unvH
 rw [hr]
 exact neg_ic l
theorem but_trans {A B C : Heap} {o : Option Nat} (h : Up (hbut A o) B) (k : Up (hbut B o) C) : Up (hbut A o) C:=fun c x hc=>by
 have hne : o ≠ some c:=fun e=>by simp only [hbut] at hc;rw [if_pos e] at hc;cases hc
 exact k _ _ (by rw [but_blk hne];exact h _ _ hc)
theorem mv_mem {L : List (List AV)} (hF : FineL L) {p q : Nat} {h k : Int} (hr : Reach (chkL L) (mvL L) p h) (hm : (q,k) ∈ mvL L p h) : Reach (chkL L) (mvL L) q k:=.step p h q k hr (hF p h hr).2.1 hm
set_option maxHeartbeats 8000000 in
theorem f313_ok {n : Nat} {nm : List Nat} {P S : Int} {v : AV} {L : List (List AV)} (hv : ∀ H,Holds H 9 v L) (hL : ∀ c ∈ L,InsT n c) (hj : ∀ c ∈ L,JmpOk c) (hn : L.length ≤ 10000) (hFi : FineL L) (bf bo bv br : Nat) (n1 : bf ≠ br) (n2 : bo ≠ br) (n3 : bv ≠ br) : ∀ (k : Nat) (l : List Int) (H : Heap) (at_ : Nat) (h : Int),unv l ≤ k → Snd L.length (chkL L) (mvL L) l → Reach (chkL L) (mvL L) at_ h → Free H → H.blk bf = some (.row 85 4 [[.str nm,.int .i64 P,.int .i64 S,v]] 0 0) → H.blk bo = some (.row 29 1 [[(.slice br 0 L.length L.length true 0)]] 0 0) → H.blk bv = some (.row 325 1 [[(.func (.func 313) [] [.ptr bf 0 0 0,.ptr bo 0 0 0,.ptr bv 0 0 0])]] 0 0) → H.blk br = some (.row 3 1 (intCells l) 0 0) →
  ∀ (K : AV → Heap → Prop),(∀ m H',Up (hbut H (some br)) H' → Free H' → H'.blk br = some (.row 3 1 (intCells m) 0 0) → Pend L.length (chkL L) (mvL L) l m [] → 0 ≤ hat m at_ → K (.tuple []) H') → WF Tryz.prog 313 [.int .i64 (at_ : Int),.int .i64 h,.ptr bf 0 0 0,.ptr bo 0 0 0,.ptr bv 0 0 0] H K:=by
 have hlv : ∀ G,evBuiltin Tryz.prog G .len #[83] [v] = some (.int .i64 L.length,G):=fun G=>(hv G).lenAt und83 G
 intro k
 induction k using Nat.strongRecOn with
 | _ k ih=>
 intro l H at_ h hk hS hR hF b1 b2 b3 b4 K hK
 refine WF_body Tryz.func313 (by kernel_rfl) rfl Tryz.ntmps313 (by rw [Tryz.results313]) (of_decide_eq_true (by kernel_rfl)) ?_
 simp (maxSteps:=999999) only [ey,implies_true,reduceMul,reducePow,reduceSub,Nat.reduceBEq,reduceToNat,reduceEqDiff,reduceLT,reduceCtorEq,reduceAdd,reduceLeDiff]
 have g1 : (hbut H (some br)).blk bf = some (.row 85 4 [[.str nm,.int .i64 P,.int .i64 S,v]] 0 0):=by rw [but_blk (fun e=>n1 (by injection e with e;exact e.symm))];exact b1
 have g2 : (hbut H (some br)).blk bo = some (.row 29 1 [[(.slice br 0 L.length L.length true 0)]] 0 0):=by rw [but_blk (fun e=>n2 (by injection e with e;exact e.symm))];exact b2
 have g3 : (hbut H (some br)).blk bv = some (.row 325 1 [[(.func (.func 313) [] [.ptr bf 0 0 0,.ptr bo 0 0 0,.ptr bv 0 0 0])]] 0 0):=by rw [but_blk (fun e=>n3 (by injection e with e;exact e.symm))];exact b3
 refine loopStep' (fun env H2=>∃ (l' : List Int) (p : Nat) (hh : Int),env.at (.tmp 0) = .int .i64 (p : Int) ∧ env.at (.tmp 1) = .int .i64 hh ∧ env.at (.tmp 2) = .ptr bf 0 0 0 ∧ env.at (.tmp 3) = .ptr bo 0 0 0 ∧ env.at (.tmp 4) = .ptr bv 0 0 0 ∧ Up (hbut H (some br)) H2 ∧ Free H2 ∧ H2.blk br = some (.row 3 1 (intCells l') 0 0) ∧ Pend L.length (chkL L) (mvL L) l l' [p] ∧ Reach (chkL L) (mvL L) p hh ∧ (p = at_ ∨ 0 ≤ hat l' at_))
  (fun env H2=>unvH br H2) ?_ ?_
 ·exact ⟨l,at_,h,by simp only [ey,implies_true,reduceMul,reducePow,reduceSub,Nat.reduceBEq,reduceToNat,reduceEqDiff,reduceLT,reduceCtorEq,reduceAdd,reduceLeDiff],by simp only [ey,implies_true,reduceMul,reducePow,reduceSub,Nat.reduceBEq,reduceToNat,reduceEqDiff,reduceLT,reduceCtorEq,reduceAdd,reduceLeDiff],by simp only [ey,implies_true,reduceMul,reducePow,reduceSub,Nat.reduceBEq,reduceToNat,reduceEqDiff,reduceLT,reduceCtorEq,reduceAdd,reduceLeDiff],by simp only [ey,implies_true,reduceMul,reducePow,reduceSub,Nat.reduceBEq,reduceToNat,reduceEqDiff,reduceLT,reduceCtorEq,reduceAdd,reduceLeDiff],by simp only [ey,implies_true,reduceMul,reducePow,reduceSub,Nat.reduceBEq,reduceToNat,reduceEqDiff,reduceLT,reduceCtorEq,reduceAdd,reduceLeDiff],but_up,hF,b4,pend_refl hS _,hR,.inl rfl⟩
 rintro env H2 ⟨l',p,hh,e0,e1,e2,e3,e4,hU2,hF2,hrow,hP,hRp,hat'⟩
 have c1:=hU2 _ _ g1
 have c2:=hU2 _ _ g2
 have c3:=hU2 _ _ g3
 obtain ⟨hpl,hchk,_⟩:=hFi p hh hRp
 have hll : l'.length = L.length:=hP.1
 have hix:=ix29 (n:=L.length) hrow hpl
 have hel:=ic_at (l:=l') (i:=p) (by omega)
 by_cases hneg : hat l' p < 0
 case neg=>
  simp (maxSteps:=999999) only [ey,implies_true,reduceMul,reducePow,reduceSub,Nat.reduceBEq,reduceToNat,reduceEqDiff,reduceLT,reduceCtorEq,reduceAdd,reduceLeDiff,e0,e1,e2,e3,e4,c1,c2,hlv,lt_true hpl,hix,hrow,hel,hneg]
  refine hK l' H2 hU2 hF2 hrow (pend_exit hP (by omega)) ?_
  rcases hat' with rfl | h
  ·omega
  ·exact h
 have hh0:=reach_nn hRp
 have hun:=unv_set (l:=l') (p:=p) (x:=hh) (by omega) hneg hh0
 have hP1:=pend_enter hP hpl hneg hh0 hRp
 have hpu:=pend_unv hP
 obtain ⟨c,hc⟩ : ∃ c,L[p]? = some c:=⟨_,List.getElem?_eq_getElem hpl⟩
 have hgd : L.getD p [] = c:=by rw [List.getD_eq_getElem?_getD,hc];rfl
 have hixc:=idx83 hv hc
 have hcm:=hL c (List.mem_of_getElem? hc)
 have hjc:=hj c (List.mem_of_getElem? hc)
 obtain ⟨op,a,b,t,V,rfl,hV⟩:=hcm
 obtain ⟨d0,d1,d2,d3,d4,rfl⟩:=five hV.len
 have hVc:=hV.cells
 simp only [List.all_cons,List.all_nil,Bool.and_true,Bool.and_eq_true] at hVc
 have hcc:=hVc
 obtain ⟨i0,i1,i2,i3,i4⟩:=hVc
 simp only [List.cons_append,List.nil_append] at hc hgd hixc hjc
 have hms : mvL L p hh = mvI [.int .i64 op,.int .i64 a,.int .i64 b,.str t,d0,d1,d2,d3,d4] p hh:=by unfold mvL;rw [hgd]
 have hcE : chkL L p hh = (decide (0 ≤ hh) && decide (hh ≤ 200) && decide ((effV op a b).1 ≤ hh) && (!((op == 21) || (op == 23)) || hh == 0)):=by unfold chkL;rw [hgd];rfl
 rw [hcE] at hchk
 simp only [Bool.and_eq_true,decide_eq_true_eq] at hchk
 obtain ⟨⟨⟨_,hh2⟩,hmin⟩,_⟩:=hchk
 have w1 : IntKind.i64.wrap ((p : Int) + 1) = ((p + 1 : Nat) : Int):=by rw [IntWalk.i64_in _ (by omega)];omega
 have w2 : IntKind.i64.wrap (hh - 1) = hh - 1:=IntWalk.i64_in _ (by omega)
 have m1:=eff_min op a b
 have m2:=eff_plus op a b
 have w3 : IntKind.i64.wrap (hh - (effV op a b).1) = hh - (effV op a b).1:=IntWalk.i64_in _ (by omega)
 have w4 : IntKind.i64.wrap (hh - (effV op a b).1 + (effV op a b).2) = hh - (effV op a b).1 + (effV op a b).2:=IntWalk.i64_in _ (by omega)
 have hFs : ∀ y,Free (H2.set br y):=fun y=>hF2.set (hF2.lt hrow) y
 have hsat : ∀ y,(H2.set br y).blk H2.next = none:=fun y=>(hFs y).at
 have hshp : ∀ y x,(H2.set br y).push x = HP (H2.set br y) [x]:=fun y x=>(hFs y).hp x
 have hpat : ∀ y xs,(HP (H2.set br y) xs).blk H2.next = xs[0]?:=fun y xs=>hp_blk0 (H:=H2.set br y)
 have hpst : ∀ y x z,(HP (H2.set br y) [x]).set H2.next z = HP (H2.set br y) [z]:=fun y x z=>hp_set0 (H:=H2.set br y) (xs:=[x]) (by simp)
 have s1 : ∀ y,(H2.set br y).blk bf = some (.row 85 4 [[.str nm,.int .i64 P,.int .i64 S,v]] 0 0):=fun y=>by rw [Heap.set_other _ _ _ n1];exact c1
 simp (maxSteps:=999999) only [ey,implies_true,reduceMul,reducePow,reduceSub,Nat.reduceBEq,reduceToNat,reduceEqDiff,reduceLT,reduceCtorEq,reduceAdd,reduceLeDiff,e0,e1,e2,e3,e4,c1,c2,hlv,lt_true hpl,hix,hrow,hel,hneg,splice1,ic_set,s1,hixc,hsat,hshp,hpat,hpst,i0,i1,i2,i3,i4]
 generalize hH3 : HP (H2.set br (.row 3 1 (intCells (l'.set p hh)) 0 0)) [Blk.row 104 9 [[.int .i64 op,.int .i64 a,.int .i64 b,.str t,d0,d1,d2,d3,d4]] 0 0] = H3
 have hF3 : Free H3:=hH3 ▸ (hFs _).hpF _
 have hU23 : Up (hbut H2 (some br)) H3:=fun c x hx=>by
  have hne : some br ≠ some c:=fun e=>by simp only [hbut] at hx;rw [if_pos e] at hx;cases hx
  rw [but_blk hne] at hx
  rw [← hH3]
  exact (hFs _).hpU _ _ _ (by rw [Heap.set_other _ _ _ (fun e=>hne (by rw [e]))];exact hx)
 have hrow3 : H3.blk br = some (.row 3 1 (intCells (l'.set p hh)) 0 0):=by rw [← hH3];exact (hFs _).hpU _ _ _ (Heap.set_same _ _ _)
 have hb7 : H3.blk H2.next = some (.row 104 9 [[.int .i64 op,.int .i64 a,.int .i64 b,.str t,d0,d1,d2,d3,d4]] 0 0):=by rw [← hH3];exact hp_blk0
 have hU03:=but_trans hU2 hU23
 refine callStep (f51_ok op a b t d0 d1 d2 d3 d4 hcc H3 hF3 _ fun H4 hU4 hF4=>?_)
 have hrow4:=hU4 _ _ hrow3
 have hb7:=hU4 _ _ hb7
 have hU04 : Up (hbut H (some br)) H4:=hU03.trans hU4
 have k1:=hU04 _ _ g1
 have k2:=hU04 _ _ g2
 have k3:=hU04 _ _ g3
 have hn7 : H2.next ≠ br:=fun e=>by have:=hF2.lt hrow;omega
 have hat1 : 0 ≤ hat (l'.set p hh) at_:=by
  rw [hat_set (by omega)]
  split
  ·exact hh0
  ·rcases hat' with h | h
   ·rename_i hne;exact absurd h.symm hne
   ·exact h
 have reach : ∀ q j,(q,j) ∈ mvL L p hh → Reach (chkL L) (mvL L) q j:=fun q j hm=>mv_mem hFi hRp hm
 have recc : ∀ (m : List Int) (G : Heap) (q : Nat) (j : Int),unv m ≤ unv (l'.set p hh) → Snd L.length (chkL L) (mvL L) m → Reach (chkL L) (mvL L) q j → Free G → Up (hbut H4 (some br)) G → G.blk br = some (.row 3 1 (intCells m) 0 0) → ∀ (K : AV → Heap → Prop),(∀ m' G',Up (hbut H4 (some br)) G' → Free G' → G'.blk br = some (.row 3 1 (intCells m') 0 0) → Pend L.length (chkL L) (mvL L) m m' [] → 0 ≤ hat m' q → K (.tuple []) G') → WF Tryz.prog 313 [.int .i64 (q : Int),.int .i64 j,.ptr bf 0 0 0,.ptr bo 0 0 0,.ptr bv 0 0 0] G K:=fun m G q j hu hs hr hg hug hrw K hK=>by
  have t1 : (hbut H4 (some br)).blk bf = some (.row 85 4 [[.str nm,.int .i64 P,.int .i64 S,v]] 0 0):=by rw [but_blk (fun e=>n1 (by injection e with e;exact e.symm))];exact k1
  have t2 : (hbut H4 (some br)).blk bo = some (.row 29 1 [[(.slice br 0 L.length L.length true 0)]] 0 0):=by rw [but_blk (fun e=>n2 (by injection e with e;exact e.symm))];exact k2
  have t3 : (hbut H4 (some br)).blk bv = some (.row 325 1 [[(.func (.func 313) [] [.ptr bf 0 0 0,.ptr bo 0 0 0,.ptr bv 0 0 0])]] 0 0):=by rw [but_blk (fun e=>n3 (by injection e with e;exact e.symm))];exact k3
  exact ih (unv m) (by omega) m G q j (Nat.le_refl _) hs hr hg (hug _ _ t1) (hug _ _ t2) (hug _ _ t3) hrw K fun m' G' a1 a2 a3 a4 a5=>hK m' G' (but_trans hug a1) a2 a3 a4 a5
 have hb7' : (hbut H4 (some br)).blk H2.next = some (.row 104 9 [[.int .i64 op,.int .i64 a,.int .i64 b,.str t,d0,d1,d2,d3,d4]] 0 0):=by rw [but_blk (fun e=>hn7 (by injection e with e;exact e.symm))];exact hb7
 have kv' : (hbut H4 (some br)).blk bv = some (.row 325 1 [[(.func (.func 313) [] [.ptr bf 0 0 0,.ptr bo 0 0 0,.ptr bv 0 0 0])]] 0 0):=by rw [but_blk (fun e=>n3 (by injection e with e;exact e.symm))];exact k3
 have ext : ∀ m,Pend L.length (chkL L) (mvL L) (l'.set p hh) m [] → 0 ≤ hat m at_:=fun m hm=>by rw [hm.2.2.2.1 at_ hat1];exact hat1
 have fin : ∀ (m : List Int) (G : Heap),unv m ≤ unv (l'.set p hh) → G.blk br = some (.row 3 1 (intCells m) 0 0) → unvH br G < unvH br H2:=fun m G hu hr=>by
  rw [unvH_eq hr,unvH_eq hrow];omega
 by_cases k19 : op = 19 ∨ op = 20
 ·have hmv : mvL L p hh = []:=by rw [hms];rcases k19 with rfl | rfl <;> rfl
  rw [hmv] at hP1
  rcases k19 with rfl | rfl
  ·simp (maxSteps:=999999) only [ey,implies_true,reduceMul,reducePow,reduceSub,Nat.reduceBEq,reduceToNat,reduceEqDiff,reduceLT,reduceCtorEq,reduceAdd,reduceLeDiff,e0,e1,e2,e3,e4,hb7,w1,Int.reduceBEq]
   exact hK _ H4 hU04 hF4 hrow4 hP1 hat1
  ·simp (maxSteps:=999999) only [ey,implies_true,reduceMul,reducePow,reduceSub,Nat.reduceBEq,reduceToNat,reduceEqDiff,reduceLT,reduceCtorEq,reduceAdd,reduceLeDiff,e0,e1,e2,e3,e4,hb7,w1,Int.reduceBEq]
   exact hK _ H4 hU04 hF4 hrow4 hP1 hat1
 have x19 : (op == 19) = false:=by simp;exact fun e=>k19 (.inl e)
 have x20 : (op == 20) = false:=by simp;exact fun e=>k19 (.inr e)
 by_cases k7 : op = 7
 ·subst k7
  have ha:=hjc.1 (.inl rfl)
  simp only [aI,List.getD_cons_succ,List.getD_cons_zero] at ha
  obtain ⟨x,rfl⟩:=Int.eq_ofNat_of_zero_le ha.1
  have hmv : mvL L p hh = [(x,hh)]:=by rw [hms];rfl
  rw [hmv] at hP1
  have w5 : IntKind.i64.wrap (hh - 0) = hh:=by rw [IntWalk.i64_in _ (by omega)] <;> omega
  have w6 : IntKind.i64.wrap (hh + 0) = hh:=by rw [IntWalk.i64_in _ (by omega)] <;> omega
  simp (maxSteps:=999999) only [ey,implies_true,reduceMul,reducePow,reduceSub,Nat.reduceBEq,reduceToNat,reduceEqDiff,reduceLT,reduceCtorEq,reduceAdd,reduceLeDiff,e0,e1,e2,e3,e4,hb7,w1,w5,w6,Int.reduceBEq,show (effV 7 (x : Int) b).1 = 0 from rfl,show (effV 7 (x : Int) b).2 = 0 from rfl]
  exact ⟨⟨_,x,hh,rfl,rfl,hU04,hF4,hrow4,hP1,reach _ _ (by rw [hmv];simp),.inr hat1⟩,fin _ H4 (Nat.le_refl _) hrow4⟩
 by_cases k8 : op = 8
 ·subst k8
  have ha:=hjc.1 (.inr (.inl rfl))
  simp only [aI,List.getD_cons_succ,List.getD_cons_zero] at ha
  obtain ⟨x,rfl⟩:=Int.eq_ofNat_of_zero_le ha.1
  have hmv : mvL L p hh = [(p + 1,hh - 1),(x,hh - 1)]:=by rw [hms];rfl
  rw [hmv] at hP1
  have v1 : (effV 8 (x : Int) b).1 = 1:=rfl
  have v2 : (effV 8 (x : Int) b).2 = 0:=rfl
  have w5 : IntKind.i64.wrap (hh - 1) = hh - 1:=by rw [IntWalk.i64_in _ (by omega)] <;> omega
  have w6 : IntKind.i64.wrap (hh - 1 + 0) = hh - 1:=by rw [IntWalk.i64_in _ (by omega)] <;> omega
  simp (maxSteps:=999999) only [ey,implies_true,reduceMul,reducePow,reduceSub,Nat.reduceBEq,reduceToNat,reduceEqDiff,reduceLT,reduceCtorEq,reduceAdd,reduceLeDiff,e0,e1,e2,e3,e4,hb7,k3,w1,w2,Int.reduceBEq]
  refine callStep (recc _ H4 x (hh - 1) (Nat.le_refl _) hP1.snd (reach _ _ (by rw [hmv];simp)) hF4 but_up hrow4 _ fun m' G' a1 a2 a3 a4 a5=>?_)
  have hPm:=pend_call (q:=x) (S:=[p + 1]) (pend_weak hP1 (fun z hz=>by simp only [List.map_cons,List.map_nil,List.mem_cons,List.not_mem_nil,or_false] at hz ⊢;exact hz.symm)) a4 a5
  simp (maxSteps:=999999) only [ey,implies_true,reduceMul,reducePow,reduceSub,Nat.reduceBEq,reduceToNat,reduceEqDiff,reduceLT,reduceCtorEq,reduceAdd,reduceLeDiff,e0,e1,e2,e3,e4,v1,v2,w5,w6]
  exact ⟨⟨m',p + 1,hh - 1,rfl,rfl,but_trans hU04 a1,a2,a3,hPm,reach _ _ (by rw [hmv];simp),.inr (ext _ a4)⟩,fin _ G' (pend_unv a4) a3⟩
 by_cases k9 : op = 9
 ·subst k9
  have ha:=hjc.1 (.inr (.inr (.inl rfl)))
  simp only [aI,List.getD_cons_succ,List.getD_cons_zero] at ha
  obtain ⟨x,rfl⟩:=Int.eq_ofNat_of_zero_le ha.1
  have hmv : mvL L p hh = [(p + 1,hh - 1),(x,hh)]:=by rw [hms];rfl
  rw [hmv] at hP1
  have v1 : (effV 9 (x : Int) b).1 = 1:=rfl
  have v2 : (effV 9 (x : Int) b).2 = 0:=rfl
  have w5 : IntKind.i64.wrap (hh - 1) = hh - 1:=by rw [IntWalk.i64_in _ (by omega)] <;> omega
  have w6 : IntKind.i64.wrap (hh - 1 + 0) = hh - 1:=by rw [IntWalk.i64_in _ (by omega)] <;> omega
  simp (maxSteps:=999999) only [ey,implies_true,reduceMul,reducePow,reduceSub,Nat.reduceBEq,reduceToNat,reduceEqDiff,reduceLT,reduceCtorEq,reduceAdd,reduceLeDiff,e0,e1,e2,e3,e4,hb7,k3,w1,w2,Int.reduceBEq]
  refine callStep (recc _ H4 x (hh) (Nat.le_refl _) hP1.snd (reach _ _ (by rw [hmv];simp)) hF4 but_up hrow4 _ fun m' G' a1 a2 a3 a4 a5=>?_)
  have hPm:=pend_call (q:=x) (S:=[p + 1]) (pend_weak hP1 (fun z hz=>by simp only [List.map_cons,List.map_nil,List.mem_cons,List.not_mem_nil,or_false] at hz ⊢;exact hz.symm)) a4 a5
  simp (maxSteps:=999999) only [ey,implies_true,reduceMul,reducePow,reduceSub,Nat.reduceBEq,reduceToNat,reduceEqDiff,reduceLT,reduceCtorEq,reduceAdd,reduceLeDiff,e0,e1,e2,e3,e4,v1,v2,w5,w6]
  exact ⟨⟨m',p + 1,hh - 1,rfl,rfl,but_trans hU04 a1,a2,a3,hPm,reach _ _ (by rw [hmv];simp),.inr (ext _ a4)⟩,fin _ G' (pend_unv a4) a3⟩
 by_cases k10 : op = 10
 ·subst k10
  have ha:=hjc.1 (.inr (.inr (.inr (.inl rfl))))
  simp only [aI,List.getD_cons_succ,List.getD_cons_zero] at ha
  obtain ⟨x,rfl⟩:=Int.eq_ofNat_of_zero_le ha.1
  have hmv : mvL L p hh = [(p + 1,hh - 1),(x,hh)]:=by rw [hms];rfl
  rw [hmv] at hP1
  have v1 : (effV 10 (x : Int) b).1 = 1:=rfl
  have v2 : (effV 10 (x : Int) b).2 = 0:=rfl
  have w5 : IntKind.i64.wrap (hh - 1) = hh - 1:=by rw [IntWalk.i64_in _ (by omega)] <;> omega
  have w6 : IntKind.i64.wrap (hh - 1 + 0) = hh - 1:=by rw [IntWalk.i64_in _ (by omega)] <;> omega
  simp (maxSteps:=999999) only [ey,implies_true,reduceMul,reducePow,reduceSub,Nat.reduceBEq,reduceToNat,reduceEqDiff,reduceLT,reduceCtorEq,reduceAdd,reduceLeDiff,e0,e1,e2,e3,e4,hb7,k3,w1,w2,Int.reduceBEq]
  refine callStep (recc _ H4 x (hh) (Nat.le_refl _) hP1.snd (reach _ _ (by rw [hmv];simp)) hF4 but_up hrow4 _ fun m' G' a1 a2 a3 a4 a5=>?_)
  have hPm:=pend_call (q:=x) (S:=[p + 1]) (pend_weak hP1 (fun z hz=>by simp only [List.map_cons,List.map_nil,List.mem_cons,List.not_mem_nil,or_false] at hz ⊢;exact hz.symm)) a4 a5
  simp (maxSteps:=999999) only [ey,implies_true,reduceMul,reducePow,reduceSub,Nat.reduceBEq,reduceToNat,reduceEqDiff,reduceLT,reduceCtorEq,reduceAdd,reduceLeDiff,e0,e1,e2,e3,e4,v1,v2,w5,w6]
  exact ⟨⟨m',p + 1,hh - 1,rfl,rfl,but_trans hU04 a1,a2,a3,hPm,reach _ _ (by rw [hmv];simp),.inr (ext _ a4)⟩,fin _ G' (pend_unv a4) a3⟩
 by_cases k21 : op = 21
 ·subst k21
  have ha:=hjc.1 (.inr (.inr (.inr (.inr rfl))))
  simp only [aI,List.getD_cons_succ,List.getD_cons_zero] at ha
  obtain ⟨x,rfl⟩:=Int.eq_ofNat_of_zero_le ha.1
  have hmv : mvL L p hh = [(p + 1,hh),(x,hh)]:=by rw [hms];rfl
  rw [hmv] at hP1
  have v1 : (effV 21 (x : Int) b).1 = 0:=rfl
  have v2 : (effV 21 (x : Int) b).2 = 0:=rfl
  have w5 : IntKind.i64.wrap (hh - 0) = hh:=by rw [IntWalk.i64_in _ (by omega)] <;> omega
  have w6 : IntKind.i64.wrap (hh + 0) = hh:=by rw [IntWalk.i64_in _ (by omega)] <;> omega
  simp (maxSteps:=999999) only [ey,implies_true,reduceMul,reducePow,reduceSub,Nat.reduceBEq,reduceToNat,reduceEqDiff,reduceLT,reduceCtorEq,reduceAdd,reduceLeDiff,e0,e1,e2,e3,e4,hb7,k3,w1,w2,Int.reduceBEq]
  refine callStep (recc _ H4 x (hh) (Nat.le_refl _) hP1.snd (reach _ _ (by rw [hmv];simp)) hF4 but_up hrow4 _ fun m' G' a1 a2 a3 a4 a5=>?_)
  have hPm:=pend_call (q:=x) (S:=[p + 1]) (pend_weak hP1 (fun z hz=>by simp only [List.map_cons,List.map_nil,List.mem_cons,List.not_mem_nil,or_false] at hz ⊢;exact hz.symm)) a4 a5
  simp (maxSteps:=999999) only [ey,implies_true,reduceMul,reducePow,reduceSub,Nat.reduceBEq,reduceToNat,reduceEqDiff,reduceLT,reduceCtorEq,reduceAdd,reduceLeDiff,e0,e1,e2,e3,e4,v1,v2,w5,w6]
  exact ⟨⟨m',p + 1,hh,rfl,rfl,but_trans hU04 a1,a2,a3,hPm,reach _ _ (by rw [hmv];simp),.inr (ext _ a4)⟩,fin _ G' (pend_unv a4) a3⟩
 by_cases k27 : op = 27
 ·subst k27
  have ha:=hjc.2 rfl
  simp only [aI,bI,List.getD_cons_succ,List.getD_cons_zero] at ha
  obtain ⟨x,rfl⟩:=Int.eq_ofNat_of_zero_le ha.1
  have hx : x ≤ 16:=by omega
  have hmv : mvL L p hh = (List.range x).map (fun j=>(p + 1 + j,hh - (x : Int) + 1)) ++ (if b = 1 then [(p + 1 + x,hh - (x : Int))] else []):=by rw [hms];rfl
  rw [hmv,List.map_append,List.map_map] at hP1
  have v1 : (effV 27 (x : Int) b).1 = x:=by show pos0 (x : Int) = x;unfold pos0;rw [if_neg (by omega)]
  have v2 : (effV 27 (x : Int) b).2 = 0:=rfl
  have w5 : IntKind.i64.wrap (hh - (x : Int)) = hh - x:=IntWalk.i64_in _ (by omega)
  have w6 : IntKind.i64.wrap (hh - (x : Int) + 1) = hh - x + 1:=IntWalk.i64_in _ (by omega)
  have w7 : ∀ j : Nat,j ≤ x → IntKind.i64.wrap (((p + 1 : Nat) : Int) + (j : Int)) = ((p + 1 + j : Nat) : Int):=fun j hj=>by rw [IntWalk.i64_in _ (by omega)];omega
  have w8 : IntKind.i64.wrap (hh - (x : Int) + 0) = hh - x:=by rw [IntWalk.i64_in _ (by omega)] <;> omega
  simp (maxSteps:=999999) only [ey,implies_true,reduceMul,reducePow,reduceSub,Nat.reduceBEq,reduceToNat,reduceEqDiff,reduceLT,reduceCtorEq,reduceAdd,reduceLeDiff,e0,e1,e2,e3,e4,hb7,k3,w1,w2,Int.reduceBEq]
  refine loopStep' (fun env3 G=>∃ (j : Nat) (m : List Int),j ≤ x ∧ env3.at (.tmp 70) = .int .i64 j ∧ env3.at (.tmp 69) = .int .i64 x ∧ env3.at (.tmp 10) = .int .i64 (p + 1 : Nat) ∧ env3.at (.tmp 1) = .int .i64 hh ∧ env3.at (.tmp 2) = .ptr bf 0 0 0 ∧ env3.at (.tmp 3) = .ptr bo 0 0 0 ∧ env3.at (.tmp 4) = .ptr bv 0 0 0 ∧ env3.at (.tmp 7) = .ptr H2.next 0 0 0 ∧ env3.at (.tmp 8) = .int .i64 x ∧ env3.at (.tmp 9) = .int .i64 0 ∧ Up (hbut H4 (some br)) G ∧ Free G ∧ G.blk br = some (.row 3 1 (intCells m) 0 0) ∧
    Pend L.length (chkL L) (mvL L) l m (((List.range x).drop j).map (fun j=>p + 1 + j) ++ (if b = 1 then [(p + 1 + x,hh - (x : Int))] else []).map (·.1)) ∧ unv m ≤ unv (l'.set p hh) ∧ 0 ≤ hat m at_)
   (fun env3 G=>match env3.at (.tmp 70) with | .int _ j=>((x : Int) - j).toNat | _=>0) ?_ ?_
  ·exact ⟨0,_,Nat.zero_le _,by simp only [ey,implies_true,reduceMul,reducePow,reduceSub,Nat.reduceBEq,reduceToNat,reduceEqDiff,reduceLT,reduceCtorEq,reduceAdd,reduceLeDiff];rfl,by simp only [ey,implies_true,reduceMul,reducePow,reduceSub,Nat.reduceBEq,reduceToNat,reduceEqDiff,reduceLT,reduceCtorEq,reduceAdd,reduceLeDiff],by simp only [ey,implies_true,reduceMul,reducePow,reduceSub,Nat.reduceBEq,reduceToNat,reduceEqDiff,reduceLT,reduceCtorEq,reduceAdd,reduceLeDiff],by simp only [ey,implies_true,reduceMul,reducePow,reduceSub,Nat.reduceBEq,reduceToNat,reduceEqDiff,reduceLT,reduceCtorEq,reduceAdd,reduceLeDiff,e1],by simp only [ey,implies_true,reduceMul,reducePow,reduceSub,Nat.reduceBEq,reduceToNat,reduceEqDiff,reduceLT,reduceCtorEq,reduceAdd,reduceLeDiff,e2],by simp only [ey,implies_true,reduceMul,reducePow,reduceSub,Nat.reduceBEq,reduceToNat,reduceEqDiff,reduceLT,reduceCtorEq,reduceAdd,reduceLeDiff,e3],by simp only [ey,implies_true,reduceMul,reducePow,reduceSub,Nat.reduceBEq,reduceToNat,reduceEqDiff,reduceLT,reduceCtorEq,reduceAdd,reduceLeDiff,e4],by simp only [ey,implies_true,reduceMul,reducePow,reduceSub,Nat.reduceBEq,reduceToNat,reduceEqDiff,reduceLT,reduceCtorEq,reduceAdd,reduceLeDiff],by simp only [ey,implies_true,reduceMul,reducePow,reduceSub,Nat.reduceBEq,reduceToNat,reduceEqDiff,reduceLT,reduceCtorEq,reduceAdd,reduceLeDiff,v1],by simp only [ey,implies_true,reduceMul,reducePow,reduceSub,Nat.reduceBEq,reduceToNat,reduceEqDiff,reduceLT,reduceCtorEq,reduceAdd,reduceLeDiff,v2],but_up,hF4,hrow4,by rw [List.drop_zero];exact hP1,Nat.le_refl _,hat1⟩
  rintro env3 G ⟨j,m,hjx,f70,f69,f10,f1,f2,f3,f4,f7,f8,f9,hUG,hFG,hrG,hPG,huG,haG⟩
  have q7:=hUG _ _ hb7'
  have qv:=hUG _ _ kv'
  by_cases hlt : j < x
  ·simp (maxSteps:=999999) only [ey,implies_true,reduceMul,reducePow,reduceSub,Nat.reduceBEq,reduceToNat,reduceEqDiff,reduceLT,reduceCtorEq,reduceAdd,reduceLeDiff,f70,f69,f10,f1,f2,f3,f4,f7,lt_true hlt,q7,qv,w5,w6,w7 j hjx]
   have hdj : (List.range x).drop j = j :: (List.range x).drop (j + 1):=by
    rw [List.drop_eq_getElem_cons (by simpa using hlt)];simp
   refine callStep (recc m G (p + 1 + j) (hh - x + 1) huG hPG.snd (reach _ _ (by rw [hmv];exact List.mem_append_left _ (List.mem_map.2 ⟨j,List.mem_range.2 hlt,rfl⟩))) hFG hUG hrG _ fun m' G' a1 a2 a3 a4 a5=>?_)
   rw [hdj,List.map_cons,List.cons_append] at hPG
   have hPm:=pend_call hPG a4 a5
   simp (maxSteps:=999999) only [ey,implies_true,reduceMul,reducePow,reduceSub,Nat.reduceBEq,reduceToNat,reduceEqDiff,reduceLT,reduceCtorEq,reduceAdd,reduceLeDiff,f70,f69,f10,f1,f2,f3,f4,f7,f8,f9,wrap_succ (i:=j) (by omega)]
   exact ⟨⟨j + 1,m',hlt,rfl,a1,a2,a3,hPm,Nat.le_trans (pend_unv a4) huG,by rw [a4.2.2.2.1 at_ haG];exact haG⟩,by omega⟩
  ·obtain rfl : j = x:=by omega
   rw [List.drop_of_length_le (by simp),List.map_nil,List.nil_append] at hPG
   cases hb0 : (b == 0) with
   | true=>
    have hb : b = 0:=by simpa using hb0
    rw [if_neg (by omega),List.map_nil] at hPG
    simp (maxSteps:=999999) only [ey,implies_true,reduceMul,reducePow,reduceSub,Nat.reduceBEq,reduceToNat,reduceEqDiff,reduceLT,reduceCtorEq,reduceAdd,reduceLeDiff,f70,f69,f10,f1,f2,f3,f4,f7,f8,f9,lt_false hlt,q7,hb0]
    exact hK _ G (but_trans hU04 hUG) hFG hrG hPG haG
   | false=>
    have hb : b = 1:=by
     have : ¬ b = 0:=by simpa using hb0
     omega
    rw [if_pos hb,List.map_cons,List.map_nil] at hPG
    simp (maxSteps:=999999) only [ey,implies_true,reduceMul,reducePow,reduceSub,Nat.reduceBEq,reduceToNat,reduceEqDiff,reduceLT,reduceCtorEq,reduceAdd,reduceLeDiff,f70,f69,f10,f1,f2,f3,f4,f7,f8,f9,lt_false hlt,q7,hb0,w7 j hjx,w5,w8]
    exact ⟨⟨m,p + 1 + j,hh - j,rfl,rfl,but_trans hU04 hUG,hFG,hrG,hPG,reach _ _ (by rw [hmv,if_pos hb];simp),.inr haG⟩,fin _ G huG hrG⟩
 have x7 : (op == 7) = false:=by simpa using k7
 have x8 : (op == 8) = false:=by simpa using k8
 have x9 : (op == 9) = false:=by simpa using k9
 have x10 : (op == 10) = false:=by simpa using k10
 have x21 : (op == 21) = false:=by simpa using k21
 have x27 : (op == 27) = false:=by simpa using k27
 have hmv : mvL L p hh = [(p + 1,hh - (effV op a b).1 + (effV op a b).2)]:=by
  rw [hms]
  have e' : mvI [.int .i64 op,.int .i64 a,.int .i64 b,.str t,d0,d1,d2,d3,d4] p hh = if op = 19 ∨ op = 20 then [] else if op = 7 then [(a.toNat,hh)] else if op = 8 then [(p + 1,hh - 1),(a.toNat,hh - 1)] else if op = 9 ∨ op = 10 then [(p + 1,hh - 1),(a.toNat,hh)] else if op = 21 then [(p + 1,hh),(a.toNat,hh)] else if op = 27 then (List.range a.toNat).map (fun j=>(p + 1 + j,hh - a + 1)) ++ (if b = 1 then [(p + 1 + a.toNat,hh - a)] else []) else [(p + 1,hh - (effV op a b).1 + (effV op a b).2)]:=rfl
  rw [e',if_neg k19];simp only [k7,k8,k9,k10,k21,k27,or_self,if_false]
 rw [hmv] at hP1
 simp (maxSteps:=999999) only [ey,implies_true,reduceMul,reducePow,reduceSub,Nat.reduceBEq,reduceToNat,reduceEqDiff,reduceLT,reduceCtorEq,reduceAdd,reduceLeDiff,e0,e1,e2,e3,e4,hb7,w1,w3,w4,x19,x20,x7,x8,x9,x10,x21,x27]
 exact ⟨⟨_,p + 1,hh - (effV op a b).1 + (effV op a b).2,rfl,rfl,hU04,hF4,hrow4,hP1,reach _ _ (by rw [hmv];simp),.inr hat1⟩,fin _ H4 (Nat.le_refl _) hrow4⟩
set_option maxHeartbeats 4000000 in
theorem f242_ok {n : Nat} {nm : List Nat} {P S : Int} {v : AV} {L : List (List AV)} (hv : ∀ H,Holds H 9 v L) (hL : ∀ c ∈ L,InsT n c) (hj : ∀ c ∈ L,JmpOk c) (hn : L.length ≤ 10000) (hFi : FineL L) (H : Heap) (hF : Free H) (K : AV → Heap → Prop) (hK : ∀ u H',Up H H' → Free H' → Own H H' 3 1 u (intCells (htsL L)) → K u H') : WF Tryz.prog 242 [.agg [.str nm,.int .i64 P,.int .i64 S,v]] H K:=by
 have hlv : ∀ G,evBuiltin Tryz.prog G .len #[83] [v] = some (.int .i64 L.length,G):=fun G=>(hv G).lenAt und83 G
 have hmk : ∀ G,evMakeSlice Tryz.prog G 29 (.int .i64 (L.length : Int)) (.int .i64 (L.length : Int)) = some (.slice G.next 0 L.length L.length true 0,G.push (.row 3 1 (List.replicate L.length [.int .i64 0]) 0 0)):=fun G=>mk29 G (by omega)
 have hl29:=fun (G : Heap) (x o l c : Nat) (y : Bool) (g : Nat)=>len_slice und29 G x o l c y g
 refine WF_body Tryz.func242 (by kernel_rfl) rfl Tryz.ntmps242 (by rw [Tryz.results242]) (of_decide_eq_true (by kernel_rfl)) ?_
 simp (maxSteps:=999999) only [ey,implies_true,reduceMul,reducePow,reduceSub,Nat.reduceBEq,reduceToNat,reduceEqDiff,reduceLT,reduceCtorEq,reduceAdd,reduceLeDiff,hF.at,hF.hp,hlv,hmk,hl29,iuN,clN]
 generalize hH1 : HP H [Blk.row 85 4 [[.str nm,.int .i64 P,.int .i64 S,v]] 0 0,Blk.row 3 1 (List.replicate L.length [.int .i64 0]) 0 0,Blk.row 29 1 [[(.slice (H.next + 1) 0 L.length L.length true 0)]] 0 0] = H1
 have hb1 : H1.blk H.next = some (.row 85 4 [[.str nm,.int .i64 P,.int .i64 S,v]] 0 0):=by rw [← hH1,hp_blk0];rfl
 have hr1 : H1.blk (H.next + 1) = some (.row 3 1 (List.replicate L.length [.int .i64 0]) 0 0):=by rw [← hH1,hp_blk];rfl
 have hb2 : H1.blk (H.next + 2) = some (.row 29 1 [[(.slice (H.next + 1) 0 L.length L.length true 0)]] 0 0):=by rw [← hH1,hp_blk];rfl
 have hF1 : Free H1:=hH1 ▸ hF.hpF _
 have hU1 : Up H H1:=hH1 ▸ hF.hpU _
 have g1 : (hbut H1 (some (H.next + 1))).blk H.next = some (.row 85 4 [[.str nm,.int .i64 P,.int .i64 S,v]] 0 0):=by rw [but_blk (fun e=>by injection e with e;omega)];exact hb1
 have g2 : (hbut H1 (some (H.next + 1))).blk (H.next + 2) = some (.row 29 1 [[(.slice (H.next + 1) 0 L.length L.length true 0)]] 0 0):=by rw [but_blk (fun e=>by injection e with e;omega)];exact hb2
 have hbase : Up H (hbut H1 (some (H.next + 1))):=fun c x hc=>by
  have:=hF.lt hc
  rw [but_blk (fun e=>by injection e with e;omega)];exact hU1 _ _ hc
 refine loopStepR (fun env H'=>Up (hbut H1 (some (H.next + 1))) H' ∧ Free H' ∧ ∃ i : Nat,i ≤ L.length ∧ env.at (.tmp 12) = .int .i64 i ∧ env.at (.tmp 11) = .int .i64 L.length ∧ env.at (.tmp 3) = .ptr (H.next + 2) 0 0 0 ∧ env.at (.tmp 1) = .ptr H.next 0 0 0 ∧ H'.blk (H.next + 1) = some (.row 3 1 (intCells (List.replicate i (-1) ++ List.replicate (L.length - i) 0)) 0 0))
  (fun env H'=>match env.at (.tmp 12) with | .int _ i=>((L.length : Int) - i).toNat | _=>0)
  (fun ex env H'=>ex = .exit 0 ∧ Up (hbut H1 (some (H.next + 1))) H' ∧ Free H' ∧ env.at (.tmp 3) = .ptr (H.next + 2) 0 0 0 ∧ env.at (.tmp 1) = .ptr H.next 0 0 0 ∧ H'.blk (H.next + 1) = some (.row 3 1 (intCells (List.replicate L.length (-1))) 0 0)) ?_ ?_ ?_
 ·exact ⟨but_up,hF1,0,Nat.zero_le _,by simp only [ey,implies_true,reduceMul,reducePow,reduceSub,Nat.reduceBEq,reduceToNat,reduceEqDiff,reduceLT,reduceCtorEq,reduceAdd,reduceLeDiff];rfl,by simp only [ey,implies_true,reduceMul,reducePow,reduceSub,Nat.reduceBEq,reduceToNat,reduceEqDiff,reduceLT,reduceCtorEq,reduceAdd,reduceLeDiff],by simp only [ey,implies_true,reduceMul,reducePow,reduceSub,Nat.reduceBEq,reduceToNat,reduceEqDiff,reduceLT,reduceCtorEq,reduceAdd,reduceLeDiff],by simp only [ey,implies_true,reduceMul,reducePow,reduceSub,Nat.reduceBEq,reduceToNat,reduceEqDiff,reduceLT,reduceCtorEq,reduceAdd,reduceLeDiff],by rw [hr1];simp [intCells]⟩
 ·rintro env H' ⟨hU',hF',i,hi,e12,e11,e3,e1,hr⟩
  by_cases hlt : i < L.length
  ·have hix:=ix29 (n:=L.length) hr hlt
   have hel:=ic_at (l:=List.replicate i (-1) ++ List.replicate (L.length - i) 0) (i:=i) (by simp;omega)
   simp (maxSteps:=999999) only [ey,implies_true,reduceMul,reducePow,reduceSub,Nat.reduceBEq,reduceToNat,reduceEqDiff,reduceLT,reduceCtorEq,reduceAdd,reduceLeDiff,e12,e11,e3,e1,lt_true hlt,hU' _ _ g2,hix,hr,hel,splice1,ic_set,wrap_succ (i:=i) (by omega)]
   refine ⟨⟨hU'.set (by simp [hbut]) _,hF'.set (hF'.lt hr) _,i + 1,hlt,rfl,?_⟩,by omega⟩
   congr 4
   rw [List.set_append_right _ _ (by simp),List.length_replicate,Nat.sub_self]
   obtain ⟨d,hd⟩ : ∃ d,L.length - i = d + 1:=⟨L.length - i - 1,by omega⟩
   rw [hd,List.replicate_succ,List.set_cons_zero,show L.length - (i + 1) = d by omega,List.replicate_succ',List.append_assoc];rfl
  ·obtain rfl : i = L.length:=by omega
   simp (maxSteps:=999999) only [ey,implies_true,reduceMul,reducePow,reduceSub,Nat.reduceBEq,reduceToNat,reduceEqDiff,reduceLT,reduceCtorEq,reduceAdd,reduceLeDiff,e12,e11,e3,e1,lt_false hlt]
   refine ⟨hU',hF',?_⟩
   rw [hr];simp
 ·rintro ex env Hs ⟨rfl,hUs,hFs,e3,e1,hrs⟩
  have c1:=hUs _ _ g1
  have c2:=hUs _ _ g2
  have hl1:=hFs.lt c1
  have hl2:=hFs.lt c2
  have hl3:=hFs.lt hrs
  simp (maxSteps:=999999) only [gx,fx2,fx3,implies_true,reduceMul,reducePow,reduceSub,Nat.reduceBEq,reduceToNat,reduceEqDiff,reduceLT,reduceCtorEq,reduceAdd,reduceLeDiff,e3,e1,hFs.at,hFs.hp]
  generalize hHt : HP Hs [Blk.row 325 1 [[.func (.func 313) [] [.ptr H.next 0 0 0,.ptr (H.next + 2) 0 0 0,.ptr Hs.next 0 0 0]]] 0 0] = Ht
  have hFt : Free Ht:=hHt ▸ hFs.hpF _
  have hUt : Up Hs Ht:=hHt ▸ hFs.hpU _
  have c5 : Ht.blk Hs.next = some (.row 325 1 [[.func (.func 313) [] [.ptr H.next 0 0 0,.ptr (H.next + 2) 0 0 0,.ptr Hs.next 0 0 0]]] 0 0):=by rw [← hHt,hp_blk0];rfl
  refine callStep (f313_ok hv hL hj hn hFi H.next (H.next + 2) Hs.next (H.next + 1) (by omega) (by omega) (by omega) _ (List.replicate L.length (-1)) Ht 0 0 (Nat.le_refl _) snd_start .start hFt (hUt _ _ c1) (hUt _ _ c2) c5 (hUt _ _ hrs) _ fun m H5 hU5 hF5 hr5 hP5 h05=>?_)
  have hUF:=but_trans (hUs.trans hUt) hU5
  simp (maxSteps:=999999) only [gx,fx2,fx3,implies_true,reduceMul,reducePow,reduceSub,Nat.reduceBEq,reduceToNat,reduceEqDiff,reduceLT,reduceCtorEq,reduceAdd,reduceLeDiff,e3,e1,hUF _ _ g2]
  have hm:=htsL_uniq hFi (pend_done hFi hP5 h05)
  rw [hm] at hr5
  exact hK _ _ (hbase.trans hUF) hF5 (own_row29 (htsL_ok hFi).1 (hF _ (by omega)) hr5)
theorem wide3 : wideK Tryz.prog 3 = true:=by simp [wideK,und3]
theorem key3 (z : Int) : keyOk Tryz.prog 3 (.int .i64 z) = some (.int .i64 z):=by simp [keyOk,valOf,keyGood,und3]
end Go.Proofs.T
