import Derived.Test.YtjlmgabhhodhfaaGreatDoorY6Y7
set_option linter.unusedVariables false
set_option linter.unusedSimpArgs false
set_option maxRecDepth 100000
namespace Go.Proofs.T
open Go.Ev
open Nat (reduceMul reducePow reduceSub reduceEqDiff reduceLT reduceAdd reduceLeDiff)
open UInt8 (reduceToNat)
theorem mc_snoc (l : List (Nat × Int)) (x : Nat × Int) : mvCells (l ++ [x]) = mvCells l ++ [[.int .i64 (x.1 : Int),.int .i64 x.2]]:=by simp [mvCells]
theorem mc_app (l m : List (Nat × Int)) : mvCells (l ++ m) = mvCells l ++ mvCells m:=by simp [mvCells]
theorem mc_cells (l : List (Nat × Int)) : ∀ cs ∈ mvCells l,cs.all AV.isCell = true:=by
 intro cs hc
 unfold mvCells at hc
 obtain ⟨x,_,rfl⟩:=List.mem_map.1 hc
 rfl
theorem nat_neg (p : Nat) : ((p : Int) < 0) = False:=eq_false (by omega)
theorem own_row29 {H G : Heap} {b : Nat} {l : List Int} {n : Nat} (hl : l.length = n) (hb : H.blk b = none) (hr : G.blk b = some (.row 3 1 (intCells l) 0 0)) : Own H G 3 1 (.slice b 0 n n true 0) (intCells l):=by
 refine ⟨fun cs hc=>?_,.inr (.inr ⟨b,0,3,0,0,by rw [ic_len,hl],hr,⟨Nat.le_refl _,rfl⟩,hb⟩)⟩
 unfold intCells at hc
 obtain ⟨x,_,rfl⟩:=List.mem_map.1 hc
 exact ⟨rfl,rfl⟩
set_option maxHeartbeats 8000000 in
theorem f83_ok {n : Nat} {nm : List Nat} {P S : Int} {v : AV} {L : List (List AV)} (hv : ∀ H,Holds H 9 v L) (hL : ∀ c ∈ L,InsT n c) (hj : ∀ c ∈ L,JmpOk c) (hn : L.length ≤ 10000) (H : Heap) (hF : Free H) (K : AV → Heap → Prop)
  (hK1 : FineL L → ∀ u H',Up H H' → Free H' → Own H H' 3 1 u (intCells (htsL L)) → K (.tuple [u,.bool true]) H') (hK2 : ¬ FineL L → ∀ H',Up H H' → Free H' → K (.tuple [.nilslice,.bool false]) H') : WF Tryz.prog 83 [.agg [.str nm,.int .i64 P,.int .i64 S,v]] H K:=by
 have hlv : ∀ G,evBuiltin Tryz.prog G .len #[83] [v] = some (.int .i64 L.length,G):=fun G=>(hv G).lenAt und83 G
 have hmk : ∀ G,evMakeSlice Tryz.prog G 29 (.int .i64 (L.length : Int)) (.int .i64 (L.length : Int)) = some (.slice G.next 0 L.length L.length true 0,G.push (.row 3 1 (List.replicate L.length [.int .i64 0]) 0 0)):=fun G=>mk29 G (by omega)
 have hl29:=fun (G : Heap) (x o l c : Nat) (y : Bool) (g : Nat)=>len_slice und29 G x o l c y g
 refine WF_body Tryz.func83 (by kernel_rfl) rfl Tryz.ntmps83 (by rw [Tryz.results83]) (of_decide_eq_true (by kernel_rfl)) ?_
 simp (maxSteps:=999999) only [ey,implies_true,reduceMul,reducePow,reduceSub,Nat.reduceBEq,reduceToNat,reduceEqDiff,reduceLT,reduceCtorEq,reduceAdd,reduceLeDiff,hF.at,hF.hp,hlv,hmk]
 generalize hH1 : HP H [Blk.row 85 4 [[.str nm,.int .i64 P,.int .i64 S,v]] 0 0,Blk.row 3 1 (List.replicate L.length [.int .i64 0]) 0 0] = H1
 have hb1 : H1.blk H.next = some (.row 85 4 [[.str nm,.int .i64 P,.int .i64 S,v]] 0 0):=by rw [← hH1,hp_blk0];rfl
 have hr1 : H1.blk (H.next + 1) = some (.row 3 1 (List.replicate L.length [.int .i64 0]) 0 0):=by rw [← hH1,hp_blk];rfl
 have hF1 : Free H1:=hH1 ▸ hF.hpF _
 have hU1 : Up H H1:=hH1 ▸ hF.hpU _
 have hbF : (hbut H1 (some (H.next + 1))).blk H.next = some (.row 85 4 [[.str nm,.int .i64 P,.int .i64 S,v]] 0 0):=by rw [but_blk (fun e=>by injection e with e;omega)];exact hb1
 have hbase : Up H (hbut H1 (some (H.next + 1))):=fun c x hc=>by
  have:=hF.lt hc
  rw [but_blk (fun e=>by injection e with e;omega)];exact hU1 _ _ hc
 refine loopStepR (fun env H'=>Up (hbut H1 (some (H.next + 1))) H' ∧ Free H' ∧ ∃ i : Nat,i ≤ L.length ∧ env.at (.tmp 5) = .int .i64 i ∧ env.at (.tmp 4) = (.slice (H.next + 1) 0 L.length L.length true 0) ∧ env.at (.tmp 1) = .ptr H.next 0 0 0 ∧ H'.blk (H.next + 1) = some (.row 3 1 (intCells (List.replicate i (-1) ++ List.replicate (L.length - i) 0)) 0 0))
  (fun env H'=>match env.at (.tmp 5) with | .int _ i=>((L.length : Int) - i).toNat | _=>0)
  (fun ex env H'=>ex = .exit 0 ∧ Up (hbut H1 (some (H.next + 1))) H' ∧ Free H' ∧ env.at (.tmp 4) = (.slice (H.next + 1) 0 L.length L.length true 0) ∧ env.at (.tmp 1) = .ptr H.next 0 0 0 ∧ H'.blk (H.next + 1) = some (.row 3 1 (intCells (List.replicate L.length (-1))) 0 0)) ?_ ?_ ?_
 ·exact ⟨but_up,hF1,0,Nat.zero_le _,by simp only [ey,implies_true,reduceMul,reducePow,reduceSub,Nat.reduceBEq,reduceToNat,reduceEqDiff,reduceLT,reduceCtorEq,reduceAdd,reduceLeDiff];rfl,by simp only [ey,implies_true,reduceMul,reducePow,reduceSub,Nat.reduceBEq,reduceToNat,reduceEqDiff,reduceLT,reduceCtorEq,reduceAdd,reduceLeDiff],by simp only [ey,implies_true,reduceMul,reducePow,reduceSub,Nat.reduceBEq,reduceToNat,reduceEqDiff,reduceLT,reduceCtorEq,reduceAdd,reduceLeDiff],by rw [hr1];simp [intCells]⟩
 ·rintro env H' ⟨hU',hF',i,hi,e5,e4,e1,hr⟩
  by_cases hlt : i < L.length
  ·have hix:=ix29 (n:=L.length) hr hlt
   have hel:=ic_at (l:=List.replicate i (-1) ++ List.replicate (L.length - i) 0) (i:=i) (by simp;omega)
   simp (maxSteps:=999999) only [ey,implies_true,reduceMul,reducePow,reduceSub,Nat.reduceBEq,reduceToNat,reduceEqDiff,reduceLT,reduceCtorEq,reduceAdd,reduceLeDiff,e5,e4,e1,hl29,lt_true hlt,hix,hr,hel,splice1,ic_set,wrap_succ (i:=i) (by omega)]
   refine ⟨⟨hU'.set (by simp [hbut]) _,hF'.set (hF'.lt hr) _,i + 1,hlt,rfl,?_⟩,by omega⟩
   congr 4
   rw [List.set_append_right _ _ (by simp),List.length_replicate,Nat.sub_self]
   obtain ⟨d,hd⟩ : ∃ d,L.length - i = d + 1:=⟨L.length - i - 1,by omega⟩
   rw [hd,List.replicate_succ,List.set_cons_zero,show L.length - (i + 1) = d by omega,List.replicate_succ',List.append_assoc];rfl
  ·obtain rfl : i = L.length:=by omega
   simp (maxSteps:=999999) only [ey,implies_true,reduceMul,reducePow,reduceSub,Nat.reduceBEq,reduceToNat,reduceEqDiff,reduceLT,reduceCtorEq,reduceAdd,reduceLeDiff,e5,e4,e1,hl29,lt_false hlt]
   refine ⟨hU',hF',?_⟩
   rw [hr];simp
 ·rintro ex env Hs ⟨rfl,hUs,hFs,e4,e1,hrs⟩
  simp (maxSteps:=999999) only [ey,implies_true,reduceMul,reducePow,reduceSub,Nat.reduceBEq,reduceToNat,reduceEqDiff,reduceLT,reduceCtorEq,reduceAdd,reduceLeDiff,e4,e1,hFs.at,hFs.hp]
  generalize hHt : HP Hs [Blk.row 200 2 [[.int .i64 0,.int .i64 0]] 0 0] = Ht
  have hFt : Free Ht:=hHt ▸ hFs.hpF _
  have hUt : Up Hs Ht:=hHt ▸ hFs.hpU _
  have hdm : ∀ c,H1.blk c ≠ none → Hs.blk c ≠ none:=fun c hc=>by
   by_cases e : some (H.next + 1) = some c
   ·cases e;rw [hrs];simp
   ·cases hx : H1.blk c with
    | none=>exact absurd hx hc
    | some x=>rw [hUs c x (by rw [but_blk e];exact hx)];simp
  have hS0 : Stk H1 Ht 2 (.slice Hs.next 0 1 1 true 0) (mvCells [(0,0)]):=by
   have : Own Hs Ht 200 2 (.slice (Hs.next + 0) 0 1 1 true 0) [[.int .i64 0,.int .i64 0]]:=by rw [← hHt];exact own_hp (k:=0) hFs (Up.refl _) rfl rfl (by simp [AV.isCell])
   exact this.stk.dom fun c hc=>by
    cases hx : H1.blk c with
    | none=>rfl
    | some x=>exact absurd hc (hdm c (by rw [hx];simp))
  have T0 : TS (hbut H1 (some (H.next + 1))) H1 (H.next + 1) 3 2 Ht (.slice Hs.next 0 1 1 true 0) (mvCells [(0,0)]) (intCells (List.replicate L.length (-1))):=by
   refine ⟨hUs.trans hUt,hFt,hS0,fun c hc=>?_,hUt _ _ hrs,by rw [hr1];simp,fun c x hx=>by rw [but_up _ _ hx];simp,by simp [hbut]⟩
   cases hx : Hs.blk c with
   | none=>exact absurd hx (hdm c hc)
   | some x=>rw [hUt _ _ hx];simp
  refine loopStep' (fun env H'=>∃ (u : AV) (td : List (Nat × Int)) (l : List Int),TS (hbut H1 (some (H.next + 1))) H1 (H.next + 1) 3 2 H' u (mvCells td) (intCells l) ∧ Inv2 L.length (chkL L) (mvL L) l td ∧ 21 * unv l + td.length ≤ 21 * L.length + 1 ∧ env.at (.tmp 6) = u ∧ env.at (.tmp 4) = (.slice (H.next + 1) 0 L.length L.length true 0) ∧ env.at (.tmp 1) = .ptr H.next 0 0 0)
   (fun env H'=>muH (H.next + 1) 21 (env.at (.tmp 6)) H') ?_ ?_
  ·exact ⟨_,[(0,0)],_,T0,inv2_start,by rw [unv_rep];simp,by simp only [ey,implies_true,reduceMul,reducePow,reduceSub,Nat.reduceBEq,reduceToNat,reduceEqDiff,reduceLT,reduceCtorEq,reduceAdd,reduceLeDiff],by simp only [ey,implies_true,reduceMul,reducePow,reduceSub,Nat.reduceBEq,reduceToNat,reduceEqDiff,reduceLT,reduceCtorEq,reduceAdd,reduceLeDiff,e4],by simp only [ey,implies_true,reduceMul,reducePow,reduceSub,Nat.reduceBEq,reduceToNat,reduceEqDiff,reduceLT,reduceCtorEq,reduceAdd,reduceLeDiff,e1]⟩
  ·rintro env2 H2 ⟨u,td0,l,T,hI,hB0,e6,e4,e1⟩
   have hul : ∀ G,evBuiltin Tryz.prog G .len #[201] [u] = some (.int .i64 td0.length,G):=fun G=>by rw [← mc_len];exact T.stk.holds.lenAt und201 G
   rcases snoc_cases td0 with rfl | ⟨td,⟨p,h⟩,rfl⟩
   ·simp (maxSteps:=999999) only [ey,implies_true,reduceMul,reducePow,reduceSub,Nat.reduceBEq,reduceToNat,reduceEqDiff,reduceLT,reduceCtorEq,reduceAdd,reduceLeDiff,e6,e4,e1,hul,List.length_nil,show (((0 : Nat) : Int) > 0) = False from by simp]
    obtain ⟨d1,d2⟩:=inv2_done (mvL_nn L) hI
    refine hK1 d1 _ _ (hbase.trans T.up) T.free ?_
    rw [← htsL_uniq d1 d2]
    exact own_row29 hI.1 (hF _ (by omega)) T.row
   ·have hll : l.length = L.length:=hI.1
    have htl : ((td ++ [(p,h)]).length) = td.length + 1:=by simp
    rw [htl] at hB0
    have hts : td.length < 2 ^ 60:=by omega
    obtain ⟨p1,hp1,hl1,_⟩:=T.stk.holds.index (P:=Tryz.prog) und201 sz200 .i64 (i:=td.length) (cs:=[.int .i64 (p : Int),.int .i64 h]) (by rw [mc_snoc,List.getElem?_append_right (by rw [mc_len];exact Nat.le_refl _),mc_len,Nat.sub_self];rfl)
    have T3:=T.grow (T.free.hpU [(Blk.row 200 2 [[.int .i64 (p : Int),.int .i64 h]] 0 0)]) (T.free.hpF _)
    obtain ⟨u2,hu2,hS2,hrow2⟩:=T3.stk.cut (P:=Tryz.prog) und201 sz200 (i:=td.length) (by rw [mc_len,htl];omega)
    have hcut : (mvCells (td ++ [(p,h)])).take td.length = mvCells td:=by rw [mc_snoc,List.take_append_of_le_length (by rw [mc_len];exact Nat.le_refl _),List.take_of_length_le (by rw [mc_len];exact Nat.le_refl _)]
    rw [hcut] at hS2
    have T3:=T3.swap hS2
    obtain ⟨s1,s2,s3⟩:=hS2.plain
    have hbx3:=T3.up _ _ hbF
    by_cases hq : L.length ≤ p
    ·simp (maxSteps:=999999) only [ey,implies_true,reduceMul,reducePow,reduceSub,Nat.reduceBEq,reduceToNat,reduceEqDiff,reduceLT,reduceCtorEq,reduceAdd,reduceLeDiff,e6,e4,e1,hul,htl,gt_pos,wrap_last hts,hp1,hl1 H2 (Up.refl _),T.free.at,T.free.hp,optInt,hu2,s1,s2,s3,nat_neg,hl29,ge_nat,hq]
     exact hK2 (inv2_out hI hq) _ (hbase.trans T3.up) T3.free
    by_cases hneg : h < 0
    ·simp (maxSteps:=999999) only [ey,implies_true,reduceMul,reducePow,reduceSub,Nat.reduceBEq,reduceToNat,reduceEqDiff,reduceLT,reduceCtorEq,reduceAdd,reduceLeDiff,e6,e4,e1,hul,htl,gt_pos,wrap_last hts,hp1,hl1 H2 (Up.refl _),T.free.at,T.free.hp,optInt,hu2,s1,s2,s3,nat_neg,hl29,ge_nat,hq,hneg]
     exact hK2 (inv2_bad hI (by simp [chkL,chkI,show ¬ 0 ≤ h from (by omega)])) _ (hbase.trans T3.up) T3.free
    by_cases hbig : h > 200
    ·simp (maxSteps:=999999) only [ey,implies_true,reduceMul,reducePow,reduceSub,Nat.reduceBEq,reduceToNat,reduceEqDiff,reduceLT,reduceCtorEq,reduceAdd,reduceLeDiff,e6,e4,e1,hul,htl,gt_pos,wrap_last hts,hp1,hl1 H2 (Up.refl _),T.free.at,T.free.hp,optInt,hu2,s1,s2,s3,nat_neg,hl29,ge_nat,hq,hneg,hbig]
     exact hK2 (inv2_bad hI (by simp [chkL,chkI,show ¬ h ≤ 200 from (by omega)])) _ (hbase.trans T3.up) T3.free
    have hpl : p < L.length:=by omega
    have hixh:=ix29 (n:=L.length) T3.row hpl
    have helh:=ic_at (l:=l) (i:=p) (by omega)
    by_cases hge : hat l p ≥ 0
    ·simp (maxSteps:=999999) only [ey,implies_true,reduceMul,reducePow,reduceSub,Nat.reduceBEq,reduceToNat,reduceEqDiff,reduceLT,reduceCtorEq,reduceAdd,reduceLeDiff,e6,e4,e1,hul,htl,gt_pos,wrap_last hts,hp1,hl1 H2 (Up.refl _),T.free.at,T.free.hp,optInt,hu2,s1,s2,s3,nat_neg,hl29,ge_nat,hq,hneg,hbig,hixh,T3.row,helh,hge]
     refine drawStep [] [0,1,2,3,4,5,6,7] _ rfl (by kernel_rfl) ?_
     cases hk : (hat l p == h) with
     | false=>
      have hkn : (hat l p != h) = true:=by rw [bne,hk];rfl
      simp (maxSteps:=999999) only [ey,implies_true,reduceMul,reducePow,reduceSub,Nat.reduceBEq,reduceToNat,reduceEqDiff,reduceLT,reduceCtorEq,reduceAdd,reduceLeDiff,e6,e4,e1,hixh,T3.row,helh,hkn]
      exact hK2 (inv2_two hI hge (by simpa using hk)) _ (hbase.trans T3.up) T3.free
     | true=>
      have hkn : (hat l p != h) = false:=by rw [bne,hk];rfl
      simp (maxSteps:=999999) only [ey,implies_true,reduceMul,reducePow,reduceSub,Nat.reduceBEq,reduceToNat,reduceEqDiff,reduceLT,reduceCtorEq,reduceAdd,reduceLeDiff,e6,e4,e1,hixh,T3.row,helh,hkn]
      refine ⟨⟨u2,td,l,T3,inv2_same hI (by simpa using hk),by omega,rfl⟩,?_⟩
      rw [muH_eq T3.row T3.stk.holds,muH_eq T.row T.stk.holds,mc_len,mc_len,htl]
      omega
    have hlt0 : hat l p < 0:=by omega
    have hun:=unv_set (l:=l) (p:=p) (x:=h) (by omega) hlt0 (by omega)
    obtain ⟨c,hc⟩ : ∃ c,L[p]? = some c:=⟨_,List.getElem?_eq_getElem hpl⟩
    have hgd : L.getD p [] = c:=by rw [List.getD_eq_getElem?_getD,hc];rfl
    have hixc:=idx83 hv hc
    have hcm:=hL c (List.mem_of_getElem? hc)
    have hjc:=hj c (List.mem_of_getElem? hc)
    obtain ⟨op,a,b,t,V,rfl,hV⟩:=hcm
    obtain ⟨c0,c1,c2,c3,c4,rfl⟩:=five hV.len
    have hVc:=hV.cells
    simp only [List.all_cons,List.all_nil,Bool.and_true,Bool.and_eq_true] at hVc
    have hcc:=hVc
    obtain ⟨i0,i1,i2,i3,i4⟩:=hVc
    simp only [List.cons_append,List.nil_append] at hc hgd hixc hjc
    have hcE : chkL L p h = (decide (0 ≤ h) && decide (h ≤ 200) && decide ((effV op a b).1 ≤ h) && (!((op == 21) || (op == 23)) || h == 0)):=by unfold chkL;rw [hgd];rfl
    have hg0 : 0 ≤ h:=by omega
    have hB' : h ≤ 200:=by omega
    have T4:=T3.store (intCells (l.set p h))
    simp (maxSteps:=999999) only [ey,implies_true,reduceMul,reducePow,reduceSub,Nat.reduceBEq,reduceToNat,reduceEqDiff,reduceLT,reduceCtorEq,reduceAdd,reduceLeDiff,e6,e4,e1,hul,htl,gt_pos,wrap_last hts,hp1,hl1 H2 (Up.refl _),T.free.at,T.free.hp,optInt,hu2,s1,s2,s3,nat_neg,hl29,ge_nat,hq,hneg,hbig,hixh,T3.row,helh,hge,splice1,ic_set]
    have hb7 : (HP H2 [(Blk.row 200 2 [[.int .i64 (p : Int),.int .i64 h]] 0 0)]).blk H2.next = some (Blk.row 200 2 [[.int .i64 (p : Int),.int .i64 h]] 0 0):=by rw [hp_blk0];rfl
    have hne7 : H2.next ≠ H.next + 1:=fun e=>by have:=T.free.lt T.row;omega
    have hb7' : ∀ y,((HP H2 [(Blk.row 200 2 [[.int .i64 (p : Int),.int .i64 h]] 0 0)]).set (H.next + 1) y).blk H2.next = some (Blk.row 200 2 [[.int .i64 (p : Int),.int .i64 h]] 0 0):=fun y=>by rw [Heap.set_other _ _ _ hne7];exact hb7
    generalize hH4 : (HP H2 [(Blk.row 200 2 [[.int .i64 (p : Int),.int .i64 h]] 0 0)]).set (H.next + 1) (.row 3 1 (intCells (l.set p h)) 0 0) = H4 at T4
    have hb7 : H4.blk H2.next = some (Blk.row 200 2 [[.int .i64 (p : Int),.int .i64 h]] 0 0):=by rw [← hH4];exact hb7' _
    have hbx4:=T4.up _ _ hbF
    simp (maxSteps:=999999) only [ey,implies_true,reduceMul,reducePow,reduceSub,Nat.reduceBEq,reduceToNat,reduceEqDiff,reduceLT,reduceCtorEq,reduceAdd,reduceLeDiff,e6,e4,e1,hH4,hb7,hbx4,hixc]
    refine callStep (f107_ok op a b t c0 c1 c2 c3 c4 hcc H4 T4.free _ fun H5 hU5 hF5=>?_)
    have T5:=T4.grow hU5 hF5
    have hb7:=hU5 _ _ hb7
    have hbx5:=T5.up _ _ hbF
    by_cases hA : h < (effV op a b).1
    ·simp (maxSteps:=999999) only [ey,implies_true,reduceMul,reducePow,reduceSub,Nat.reduceBEq,reduceToNat,reduceEqDiff,reduceLT,reduceCtorEq,reduceAdd,reduceLeDiff,e6,e4,e1,hb7,hbx5,hixc,hA]
     exact hK2 (inv2_bad hI (by rw [hcE];simp [show ¬ (effV op a b).1 ≤ h from (by omega)])) _ (hbase.trans T5.up) hF5
    have hA' : (effV op a b).1 ≤ h:=by omega
    cases h21 : (op == 21) with
    | true=>
     cases hz : (h == 0) with
     | false=>
      have hzn : (h != 0) = true:=by rw [bne,hz];rfl
      simp (maxSteps:=999999) only [ey,implies_true,reduceMul,reducePow,reduceSub,Nat.reduceBEq,reduceToNat,reduceEqDiff,reduceLT,reduceCtorEq,reduceAdd,reduceLeDiff,e6,e4,e1,hb7,hbx5,hixc,hA,h21,hz,hzn]
      exact hK2 (inv2_bad hI (by rw [hcE];simp only [h21,hz,decide_true,Bool.and_self,Bool.true_or,Bool.false_or,Bool.or_false,Bool.or_self,Bool.not_true,Bool.not_false,Bool.or_true,Bool.true_and,Bool.and_true,Bool.and_false])) _ (hbase.trans T5.up) hF5
     | true=>
      have hzn : (h != 0) = false:=by rw [bne,hz];rfl
      have hchk : chkL L p h = true:=by rw [hcE];simp only [h21,hz,hg0,hA',hB',decide_true,Bool.and_self,Bool.true_or,Bool.false_or,Bool.or_false,Bool.or_self,Bool.not_true,Bool.not_false,Bool.or_true,Bool.true_and,Bool.and_true,Bool.and_false]
      simp (maxSteps:=999999) only [ey,implies_true,reduceMul,reducePow,reduceSub,Nat.reduceBEq,reduceToNat,reduceEqDiff,reduceLT,reduceCtorEq,reduceAdd,reduceLeDiff,e6,e4,e1,hb7,hbx5,hixc,hA,h21,hz,hzn]
      refine callStep (f153_ok p h op a b t c0 c1 c2 c3 c4 hv hc (by omega) hg0 hB' hA' hjc hcc H5 hF5 _ fun w H6 hU6 hF6 hOw=>?_)
      have T6:=T5.grow hU6 hF6
      have hms : mvI [.int .i64 op,.int .i64 a,.int .i64 b,.str t,c0,c1,c2,c3,c4] p h = mvL L p h:=by unfold mvL;rw [hgd]
      rw [hms] at hOw
      have hmsl : (mvL L p h).length ≤ 20:=by unfold mvL;rw [hgd];exact mv_len _ _ _ hjc
      obtain ⟨z1,z2,z3⟩:=own_plain hOw
      simp (maxSteps:=999999) only [ey,implies_true,reduceMul,reducePow,reduceSub,Nat.reduceBEq,reduceToNat,reduceEqDiff,reduceLT,reduceCtorEq,reduceAdd,reduceLeDiff,e6,e4,e1,z1,z2,z3,s1,s2,s3]
      refine opStep_push app201 T6.stk.but T6.free but_up hOw.holds (mc_cells _) (by simp only [mc_len,maxBytes];omega) (by simp only [mc_len,maxBytes];omega) (fun x' K' hS' hU' hF'=>?_)
      have T7:=T6.push hS' hU' hF'
      rw [← mc_app] at T7
      obtain ⟨y1,y2,y3⟩:=T7.stk.plain
      simp (maxSteps:=999999) only [ey,implies_true,reduceMul,reducePow,reduceSub,Nat.reduceBEq,reduceToNat,reduceEqDiff,reduceLT,reduceCtorEq,reduceAdd,reduceLeDiff,e6,e4,e1]
      refine ⟨⟨x',td ++ mvL L p h,l.set p h,T7,inv2_new (mvL_nn L) hI hpl hlt0 hg0 hchk,by rw [List.length_append];omega,rfl⟩,?_⟩
      rw [muH_eq T7.row T7.stk.holds,muH_eq T.row T.stk.holds,mc_len,mc_len,htl,List.length_append]
      omega
    | false=>
     cases h23 : (op == 23) with
     | true=>
      cases hz : (h == 0) with
      | false=>
       have hzn : (h != 0) = true:=by rw [bne,hz];rfl
       simp (maxSteps:=999999) only [ey,implies_true,reduceMul,reducePow,reduceSub,Nat.reduceBEq,reduceToNat,reduceEqDiff,reduceLT,reduceCtorEq,reduceAdd,reduceLeDiff,e6,e4,e1,hb7,hbx5,hixc,hA,h21,h23,hz,hzn]
       exact hK2 (inv2_bad hI (by rw [hcE];simp only [h21,h23,hz,decide_true,Bool.and_self,Bool.true_or,Bool.false_or,Bool.or_false,Bool.or_self,Bool.not_true,Bool.not_false,Bool.or_true,Bool.true_and,Bool.and_true,Bool.and_false])) _ (hbase.trans T5.up) hF5
      | true=>
       have hzn : (h != 0) = false:=by rw [bne,hz];rfl
       have hchk : chkL L p h = true:=by rw [hcE];simp only [h21,h23,hz,hg0,hA',hB',decide_true,Bool.and_self,Bool.true_or,Bool.false_or,Bool.or_false,Bool.or_self,Bool.not_true,Bool.not_false,Bool.or_true,Bool.true_and,Bool.and_true,Bool.and_false]
       simp (maxSteps:=999999) only [ey,implies_true,reduceMul,reducePow,reduceSub,Nat.reduceBEq,reduceToNat,reduceEqDiff,reduceLT,reduceCtorEq,reduceAdd,reduceLeDiff,e6,e4,e1,hb7,hbx5,hixc,hA,h21,h23,hz,hzn]
       refine callStep (f153_ok p h op a b t c0 c1 c2 c3 c4 hv hc (by omega) hg0 hB' hA' hjc hcc H5 hF5 _ fun w H6 hU6 hF6 hOw=>?_)
       have T6:=T5.grow hU6 hF6
       have hms : mvI [.int .i64 op,.int .i64 a,.int .i64 b,.str t,c0,c1,c2,c3,c4] p h = mvL L p h:=by unfold mvL;rw [hgd]
       rw [hms] at hOw
       have hmsl : (mvL L p h).length ≤ 20:=by unfold mvL;rw [hgd];exact mv_len _ _ _ hjc
       obtain ⟨z1,z2,z3⟩:=own_plain hOw
       simp (maxSteps:=999999) only [ey,implies_true,reduceMul,reducePow,reduceSub,Nat.reduceBEq,reduceToNat,reduceEqDiff,reduceLT,reduceCtorEq,reduceAdd,reduceLeDiff,e6,e4,e1,z1,z2,z3,s1,s2,s3]
       refine opStep_push app201 T6.stk.but T6.free but_up hOw.holds (mc_cells _) (by simp only [mc_len,maxBytes];omega) (by simp only [mc_len,maxBytes];omega) (fun x' K' hS' hU' hF'=>?_)
       have T7:=T6.push hS' hU' hF'
       rw [← mc_app] at T7
       obtain ⟨y1,y2,y3⟩:=T7.stk.plain
       simp (maxSteps:=999999) only [ey,implies_true,reduceMul,reducePow,reduceSub,Nat.reduceBEq,reduceToNat,reduceEqDiff,reduceLT,reduceCtorEq,reduceAdd,reduceLeDiff,e6,e4,e1]
       refine ⟨⟨x',td ++ mvL L p h,l.set p h,T7,inv2_new (mvL_nn L) hI hpl hlt0 hg0 hchk,by rw [List.length_append];omega,rfl⟩,?_⟩
       rw [muH_eq T7.row T7.stk.holds,muH_eq T.row T.stk.holds,mc_len,mc_len,htl,List.length_append]
       omega
     | false=>
      have hchk : chkL L p h = true:=by rw [hcE];simp only [h21,h23,hg0,hA',hB',decide_true,Bool.and_self,Bool.true_or,Bool.false_or,Bool.or_false,Bool.or_self,Bool.not_true,Bool.not_false,Bool.or_true,Bool.true_and,Bool.and_true,Bool.and_false]
      simp (maxSteps:=999999) only [ey,implies_true,reduceMul,reducePow,reduceSub,Nat.reduceBEq,reduceToNat,reduceEqDiff,reduceLT,reduceCtorEq,reduceAdd,reduceLeDiff,e6,e4,e1,hb7,hbx5,hixc,hA,h21,h23]
      refine callStep (f153_ok p h op a b t c0 c1 c2 c3 c4 hv hc (by omega) hg0 hB' hA' hjc hcc H5 hF5 _ fun w H6 hU6 hF6 hOw=>?_)
      have T6:=T5.grow hU6 hF6
      have hms : mvI [.int .i64 op,.int .i64 a,.int .i64 b,.str t,c0,c1,c2,c3,c4] p h = mvL L p h:=by unfold mvL;rw [hgd]
      rw [hms] at hOw
      have hmsl : (mvL L p h).length ≤ 20:=by unfold mvL;rw [hgd];exact mv_len _ _ _ hjc
      obtain ⟨z1,z2,z3⟩:=own_plain hOw
      simp (maxSteps:=999999) only [ey,implies_true,reduceMul,reducePow,reduceSub,Nat.reduceBEq,reduceToNat,reduceEqDiff,reduceLT,reduceCtorEq,reduceAdd,reduceLeDiff,e6,e4,e1,z1,z2,z3,s1,s2,s3]
      refine opStep_push app201 T6.stk.but T6.free but_up hOw.holds (mc_cells _) (by simp only [mc_len,maxBytes];omega) (by simp only [mc_len,maxBytes];omega) (fun x' K' hS' hU' hF'=>?_)
      have T7:=T6.push hS' hU' hF'
      rw [← mc_app] at T7
      obtain ⟨y1,y2,y3⟩:=T7.stk.plain
      simp (maxSteps:=999999) only [ey,implies_true,reduceMul,reducePow,reduceSub,Nat.reduceBEq,reduceToNat,reduceEqDiff,reduceLT,reduceCtorEq,reduceAdd,reduceLeDiff,e6,e4,e1]
      refine ⟨⟨x',td ++ mvL L p h,l.set p h,T7,inv2_new (mvL_nn L) hI hpl hlt0 hg0 hchk,by rw [List.length_append];omega,rfl⟩,?_⟩
      rw [muH_eq T7.row T7.stk.holds,muH_eq T.row T.stk.holds,mc_len,mc_len,htl,List.length_append]
      omega
end Go.Proofs.T
