import Derived.Test.YtjlmgabhhodhfaaGreatDoorX5
import Derived.Test.YtjlmgabhhodhfaaGreatDoorX6
import Derived.Test.YtjlmgabhhodhfaaGreatDoorX7G1
import Derived.Test.YtjlmgabhhodhfaaGreatDoorFTy3XD
set_option linter.unusedVariables false
set_option linter.unusedSimpArgs false
set_option maxRecDepth 100000
namespace Go.Proofs.T
open Go.Ev
open Nat (reduceMul reducePow reduceSub reduceEqDiff reduceLT reduceAdd reduceLeDiff)
open UInt8 (reduceToNat)
theorem f73_ok {n : Nat} {cs : List AV} (h : VT n cs) (H : Heap) (hF : Free H) (K : AV → Heap → Prop) (hK : ∀ H',Up H H' → Free H' → K (.bool (rightV n cs)) H') : WF Tryz.prog 73 [.agg cs] H K:=by
 refine WF_body Tryz.func73 (by kernel_rfl) rfl Tryz.ntmps73 (by rw [Tryz.results73]) (of_decide_eq_true (by kernel_rfl)) ?_
 simp (maxSteps:=999999) only [gx,Nat.reduceBEq,reduceEqDiff,reduceLT,reduceCtorEq,reduceAdd,reduceLeDiff,hF.at,hF.hp,h.len,h.tk]
 generalize hH1 : HP H [Blk.row 34 5 [cs] 0 0] = H1
 have hb : H1.blk H.next = some (.row 34 5 [cs] 0 0):=by rw [← hH1,hp_blk0];rfl
 have hF1 : Free H1:=hH1 ▸ hF.hpF _
 have hU1 : Up H H1:=hH1 ▸ hF.hpU _
 refine callStep (f141_ok h H1 hF1 _ fun H2 hU2 hF2=>?_)
 unfold rightV at hK
 cases h0 : withinV n cs with
 | false=>
  simp only [h0,Bool.false_and] at hK
  simp (maxSteps:=999999) only [gx,Nat.reduceBEq,reduceEqDiff,reduceLT,reduceCtorEq,reduceAdd,reduceLeDiff]
  exact hK _ (hU1.trans hU2) hF2
 | true=>
  simp only [h0,Bool.true_and] at hK
  simp (maxSteps:=999999) only [gx,Nat.reduceBEq,reduceEqDiff,reduceLT,reduceCtorEq,reduceAdd,reduceLeDiff,hU2 _ _ hb,h.len,h.tk]
  refine callStep (f142_ok false n cs h H2 hF2 _ fun H3 hU3 hF3=>?_)
  simp (maxSteps:=999999) only [gx,Nat.reduceBEq,reduceEqDiff,reduceLT,reduceCtorEq,reduceAdd,reduceLeDiff]
  exact hK _ (hU1.trans (hU2.trans hU3)) hF3
theorem f76_ok {n : Nat} {cs : List AV} (h : VT n cs) (H : Heap) (hF : Free H) (K : AV → Heap → Prop) (hK : ∀ H',Up H H' → Free H' → K (.bool (rightV n cs)) H') : WF Tryz.prog 76 [.agg cs] H K:=by
 refine WF_body Tryz.func76 (by kernel_rfl) rfl Tryz.ntmps76 (by rw [Tryz.results76]) (of_decide_eq_true (by kernel_rfl)) ?_
 simp (maxSteps:=999999) only [gx,Nat.reduceBEq,reduceEqDiff,reduceLT,reduceCtorEq,reduceAdd,reduceLeDiff,hF.at,hF.hp,h.len,h.tk]
 generalize hH1 : HP H [Blk.row 34 5 [cs] 0 0] = H1
 have hb : H1.blk H.next = some (.row 34 5 [cs] 0 0):=by rw [← hH1,hp_blk0];rfl
 have hF1 : Free H1:=hH1 ▸ hF.hpF _
 have hU1 : Up H H1:=hH1 ▸ hF.hpU _
 refine callStep (f25_ok n cs h H1 hF1 _ fun H2 hU2 hF2=>?_)
 unfold rightV at hK
 rw [formed_future n cs h] at hK
 cases h0 : formedV true n cs with
 | false=>
  simp only [h0,Bool.false_and,Bool.and_false] at hK
  simp (maxSteps:=999999) only [gx,Nat.reduceBEq,reduceEqDiff,reduceLT,reduceCtorEq,reduceAdd,reduceLeDiff]
  exact hK _ (hU1.trans hU2) hF2
 | true=>
  simp only [h0,Bool.true_and] at hK
  simp (maxSteps:=999999) only [gx,Nat.reduceBEq,reduceEqDiff,reduceLT,reduceCtorEq,reduceAdd,reduceLeDiff,hU2 _ _ hb,h.len,h.tk]
  refine callStep (f145_ok h H2 hF2 _ fun H3 hU3 hF3=>?_)
  cases h1 : withinV n cs with
  | false=>
   simp only [h1,Bool.false_and] at hK
   simp (maxSteps:=999999) only [gx,Nat.reduceBEq,reduceEqDiff,reduceLT,reduceCtorEq,reduceAdd,reduceLeDiff]
   exact hK _ (hU1.trans (hU2.trans hU3)) hF3
  | true=>
   simp only [h1,Bool.true_and] at hK
   simp (maxSteps:=999999) only [gx,Nat.reduceBEq,reduceEqDiff,reduceLT,reduceCtorEq,reduceAdd,reduceLeDiff,hU3 _ _ (hU2 _ _ hb),h.len,h.tk]
   refine callStep (f146_ok n cs h H3 hF3 _ fun H4 hU4 hF4=>?_)
   simp (maxSteps:=999999) only [gx,Nat.reduceBEq,reduceEqDiff,reduceLT,reduceCtorEq,reduceAdd,reduceLeDiff]
   exact hK _ (hU1.trans (hU2.trans (hU3.trans hU4))) hF4
theorem VT.shape {n : Nat} {cs : List AV} (h : VT n cs) : ∃ (k i : Int) (s : List Nat) (v w : AV),cs = [.int .i64 k,.int .i64 i,.str s,v,w]:=by
 cases n with
 | zero=>exact h.elim
 | succ n=>obtain ⟨k,i,s,v,w,L,M,rfl,_⟩:=h;exact ⟨k,i,s,v,w,rfl⟩
def entK : List (List AV) → Nat → List (AV × AV × Nat)
 | [],_=>[]
 | c :: L,j=>(.str (txtV c),.bool true,j) :: entK L (j + 1)
theorem entK_snoc (c : List AV) : ∀ (L : List (List AV)) (j : Nat),entK (L ++ [c]) j = entK L j ++ [(.str (txtV c),.bool true,j + L.length)]
 | [],j=>rfl
 | a :: L,j=>by
  simp only [List.cons_append,entK,entK_snoc c L (j + 1),List.length_cons]
  rw [show j + 1 + L.length = j + (L.length + 1) by omega]
theorem findK_miss (l : List Nat) : ∀ (L : List (List AV)) (j i : Nat),(L.any fun c=>txtV c == l) = false → findK l (entK L j) i = some none
 | [],j,i,_=>rfl
 | c :: L,j,i,h=>by
  simp only [List.any_cons,Bool.or_eq_false_iff,beq_eq_false_iff_ne] at h
  simp only [entK,findK]
  rw [if_neg (fun e=>h.1 e.symm)]
  exact findK_miss l L (j + 1) (i + 1) h.2
theorem findK_hit (l : List Nat) : ∀ (L : List (List AV)) (j i : Nat),(L.any fun c=>txtV c == l) = true → ∃ a b,findK l (entK L j) i = some (some (a,.bool true,b))
 | [],j,i,h=>by cases h
 | c :: L,j,i,h=>by
  simp only [entK,findK]
  by_cases e : l = txtV c
  ·rw [if_pos e];exact ⟨_,_,rfl⟩
  ·rw [if_neg e]
   refine findK_hit l L (j + 1) (i + 1) ?_
   simp only [List.any_cons,Bool.or_eq_true,beq_iff_eq] at h
   rcases h with h | h
   ·exact absurd h.symm e
   ·exact h
theorem lk310 {G : Heap} {mb i : Nat} {M : List (List AV)} (hm : G.blk mb = some (.map (entK M 0) i)) (s : List Nat) : evLook Tryz.prog G 310 (.map mb) (.str s) false = some (.bool (M.any fun c=>txtV c == s)):=by
 simp only [evLook,evLookup,und310,isStrT,und9,hm]
 cases h : M.any fun c=>txtV c == s with
 | false=>simp [findK_miss s M 0 0 h,ze4]
 | true=>
  obtain ⟨a,b,e⟩:=findK_hit s M 0 0 h
  simp [e]
theorem mu310 {G : Heap} {mb i : Nat} {M : List (List AV)} (hm : G.blk mb = some (.map (entK M 0) i)) {s : List Nat} (h : (M.any fun c=>txtV c == s) = false) : evMapUpd Tryz.prog G 310 (.map mb) (.str s) (.bool true) = some (G.set mb (.map (entK M 0 ++ [(.str s,.bool true,i)]) (i + 1))):=by
 simp only [evMapUpd,evMapUpdate,und310,isStrT,und9,hm]
 simp [findK_miss s M 0 0 h]
theorem dist_false {L : List (List AV)} {i : Nat} (hi : i < L.length) (h : keyAt L i = false) : keysDist L = false:=by
 unfold keysDist
 rw [List.all_eq_false]
 exact ⟨i,List.mem_range.2 hi,by rw [h];simp⟩
theorem dist_true {L : List (List AV)} (h : ∀ j,j < L.length → keyAt L j = true) : keysDist L = true:=by
 unfold keysDist
 rw [List.all_eq_true]
 exact fun j hj=>h j (List.mem_range.1 hj)

theorem f374_ok {n : Nat} {V : List AV} (h : VT n V) (m : Int) (H : Heap) (hF : Free H) (K : AV → Heap → Prop) (hK : ∀ H',Up H H' → Free H' → K (.bool (keysV n V m)) H') : WF Tryz.prog 374 [.agg V,.int .i64 m] H K:=by
 have hVT:=h
 cases n with
 | zero=>exact h.elim
 | succ n=>
 obtain ⟨k,ix,s,v,w,L,M,rfl,hv,hvn,hvc,hw,hwn,hwc⟩:=h
 have e : keysV (n + 1) [.int .i64 k,.int .i64 ix,.str s,v,w] m = ((k == 4) && ((L.length : Int) == m) && rightV (n + 1) [.int .i64 k,.int .i64 ix,.str s,v,w] && keysDist L):=by rw [← itm_eq hv];rfl
 rw [e] at hK
 have hlen : ∀ G,evBuiltin Tryz.prog G .len #[24] [v] = some (.int .i64 L.length,G):=fun G=>(hv G).lenAt und24 G
 have hfree:=hF.at
 refine WF_body Tryz.func374 (by kernel_rfl) rfl Tryz.ntmps374 (by rw [Tryz.results374]) (of_decide_eq_true (by kernel_rfl)) ?_
 simp (maxSteps:=999999) only [gx,fx2,fx3,Nat.reduceBEq,reduceEqDiff,reduceLT,reduceCtorEq,reduceAdd,reduceLeDiff,hF.at,hF.hp]
 generalize hH1 : HP H [Blk.row 34 5 [[.int .i64 k,.int .i64 ix,.str s,v,w]] 0 0] = H1
 have hb : H1.blk H.next = some (.row 34 5 [[.int .i64 k,.int .i64 ix,.str s,v,w]] 0 0):=by rw [← hH1,hp_blk0];rfl
 have hF1 : Free H1:=hH1 ▸ hF.hpF _
 have hU1 : Up H H1:=hH1 ▸ hF.hpU _
 cases hk : (k == 4) with
 | false=>
  have hkn : (k != 4) = true:=by rw [bne,hk];rfl
  simp only [hk,Bool.false_and] at hK
  simp (maxSteps:=999999) only [gx,fx2,fx3,Nat.reduceBEq,reduceEqDiff,reduceLT,reduceCtorEq,reduceAdd,reduceLeDiff,hb,hkn]
  exact hK _ hU1 hF1
 | true=>
 have hkn : (k != 4) = false:=by rw [bne,hk];rfl
 cases hm : ((L.length : Int) == m) with
 | false=>
  have hmn : ((L.length : Int) != m) = true:=by rw [bne,hm];rfl
  simp only [hk,hm,Bool.false_and,Bool.and_false] at hK
  simp (maxSteps:=999999) only [gx,fx2,fx3,Nat.reduceBEq,reduceEqDiff,reduceLT,reduceCtorEq,reduceAdd,reduceLeDiff,hb,hkn,hlen,hmn]
  exact hK _ hU1 hF1
 | true=>
 have hmn : ((L.length : Int) != m) = false:=by rw [bne,hm];rfl
 simp (maxSteps:=999999) only [gx,fx2,fx3,Nat.reduceBEq,reduceEqDiff,reduceLT,reduceCtorEq,reduceAdd,reduceLeDiff,hb,hkn,hlen,hmn]
 refine callStep (f73_ok hVT H1 hF1 _ fun H2 hU2 hF2=>?_)
 cases hr : rightV (n + 1) [.int .i64 k,.int .i64 ix,.str s,v,w] with
 | false=>
  simp only [hr,Bool.false_and,Bool.and_false] at hK
  simp (maxSteps:=999999) only [gx,fx2,fx3,Nat.reduceBEq,reduceEqDiff,reduceLT,reduceCtorEq,reduceAdd,reduceLeDiff]
  exact hK _ (hU1.trans hU2) hF2
 | true=>
 simp only [hk,hm,hr,Bool.true_and] at hK
 simp (maxSteps:=999999) only [gx,fx2,fx3,Nat.reduceBEq,reduceEqDiff,reduceLT,reduceCtorEq,reduceAdd,reduceLeDiff,hU2 _ _ hb,hF2.at,hF2.hp,hlen]
 generalize hH3 : HP H2 [Blk.map [] 0] = H3
 have hm3 : H3.blk H2.next = some (.map [] 0):=by rw [← hH3,hp_blk0];rfl
 have hF3 : Free H3:=hH3 ▸ hF2.hpF _
 have hU3 : Up H2 H3:=hH3 ▸ hF2.hpU _
 have hlen3 : ∀ G,evBuiltin Tryz.prog G .len #[24] [v] = some (.int .i64 L.length,G):=hlen
 simp (maxSteps:=999999) only [gx,fx2,fx3,Nat.reduceBEq,reduceEqDiff,reduceLT,reduceCtorEq,reduceAdd,reduceLeDiff,hU3 _ _ (hU2 _ _ hb),hlen]
 refine loopStep' (fun env H'=>Up H2 H' ∧ Free H' ∧ ∃ i : Nat,i ≤ L.length ∧ env.at (.tmp 27) = .int .i64 i ∧ env.at (.tmp 26) = .int .i64 L.length ∧ env.at (.tmp 25) = v ∧ env.at (.tmp 5) = .map H2.next ∧ H'.blk H2.next = some (.map (entK (L.take i) 0) i) ∧ ∀ j,j < i → keyAt L j = true)
  (fun env H'=>match env.at (.tmp 27) with | .int _ i=>((L.length : Int) - i).toNat | _=>0) ?_ ?_
 ·exact ⟨hU3,hF3,0,Nat.zero_le _,by simp only [gx,fx2,fx3,Nat.reduceBEq,reduceEqDiff,reduceLT,reduceCtorEq,reduceAdd,reduceLeDiff];rfl,by simp only [gx,fx2,fx3,Nat.reduceBEq,reduceEqDiff,reduceLT,reduceCtorEq,reduceAdd,reduceLeDiff],by simp only [gx,fx2,fx3,Nat.reduceBEq,reduceEqDiff,reduceLT,reduceCtorEq,reduceAdd,reduceLeDiff],by simp only [gx,fx2,fx3,Nat.reduceBEq,reduceEqDiff,reduceLT,reduceCtorEq,reduceAdd,reduceLeDiff],by rw [hm3];rfl,fun j hj=>by omega⟩
 ·rintro env H' ⟨hU',hF',i,hi,e27,e26,e25,e5,hmi,hinv⟩
  by_cases hlt : i < L.length
  ·obtain ⟨c,hc⟩ : ∃ c,L[i]? = some c:=⟨_,List.getElem?_eq_getElem hlt⟩
   have hcm:=hvc c (List.mem_of_getElem? hc)
   have hgd : L.getD i [] = c:=by rw [List.getD_eq_getElem?_getD,hc];rfl
   have hix:=idx24 hv hc
   have hcc:=hcm.cells
   obtain ⟨k',i',s',v',w',rfl⟩:=hcm.shape
   simp only [List.all_cons,List.all_nil,Bool.and_true,Bool.and_eq_true] at hcc
   obtain ⟨x1,x2,x3,x4,x5⟩:=hcc
   have hka : keyAt L i = ((k' == 3) && !((L.take i).any fun c=>txtV c == s')):=by unfold keyAt;rw [hgd];rfl
   have hmx : ∀ xs,(HP H' xs).blk H2.next = some (.map (entK (L.take i) 0) i):=fun xs=>hF'.hpU xs _ _ hmi
   have hlk : ∀ xs,evLook Tryz.prog (HP H' xs) 310 (.map H2.next) (.str s') false = some (.bool ((L.take i).any fun c=>txtV c == s')):=fun xs=>lk310 (hmx xs) s'
   cases hk3 : (k' == 3) with
   | false=>
    have hkn3 : (k' != 3) = true:=by rw [bne,hk3];rfl
    simp (maxSteps:=999999) only [ey,Nat.reduceBEq,reduceEqDiff,reduceLT,reduceCtorEq,reduceAdd,reduceLeDiff,e27,e26,e25,e5,lt_true hlt,hix,x4,x5,hF'.at,hF'.hp,hkn3]
    rw [dist_false hlt (by rw [hka,hk3];rfl)] at hK
    exact hK _ (hU1.trans (hU2.trans (hU'.trans (hF'.hpU _)))) (hF'.hpF _)
   | true=>
    have hkn3 : (k' != 3) = false:=by rw [bne,hk3];rfl
    cases ha : (L.take i).any fun c=>txtV c == s' with
    | true=>
     simp (maxSteps:=999999) only [ey,Nat.reduceBEq,reduceEqDiff,reduceLT,reduceCtorEq,reduceAdd,reduceLeDiff,e27,e26,e25,e5,lt_true hlt,hix,x4,x5,hF'.at,hF'.hp,hkn3,hlk,ha]
     rw [dist_false hlt (by rw [hka,hk3,ha];rfl)] at hK
     exact hK _ (hU1.trans (hU2.trans (hU'.trans (hF'.hpU _)))) (hF'.hpF _)
    | false=>
     have hmu : ∀ xs,evMapUpd Tryz.prog (HP H' xs) 310 (.map H2.next) (.str s') (.bool true) = some ((HP H' xs).set H2.next (.map (entK (L.take i) 0 ++ [(.str s',.bool true,i)]) (i + 1))):=fun xs=>mu310 (hmx xs) ha
     simp (maxSteps:=999999) only [ey,Nat.reduceBEq,reduceEqDiff,reduceLT,reduceCtorEq,reduceAdd,reduceLeDiff,e27,e26,e25,e5,lt_true hlt,hix,x4,x5,hF'.at,hF'.hp,hkn3,hlk,ha,hmu,wrap_succ (i:=i) (by omega)]
     have hnone : H2.blk H2.next = none:=hF2.at
     refine ⟨⟨(hU'.trans (hF'.hpU _)).set hnone _,(hF'.hpF _).set ((hF'.hpF _).lt (hmx _)) _,i + 1,hlt,rfl,?_,?_⟩,by omega⟩
     ·have et : L.take (i + 1) = L.take i ++ [[.int .i64 k',.int .i64 i',.str s',v',w']]:=by rw [List.take_add_one,hc];rfl
      rw [et,entK_snoc]
      have el : 0 + (L.take i).length = i:=by rw [List.length_take];omega
      rw [el];rfl
     ·intro j hj
      by_cases hj2 : j < i
      ·exact hinv j hj2
      ·obtain rfl : j = i:=by omega
       rw [hka,hk3,ha];rfl
  ·simp (maxSteps:=999999) only [ey,Nat.reduceBEq,reduceEqDiff,reduceLT,reduceCtorEq,reduceAdd,reduceLeDiff,e27,e26,e25,e5,lt_false hlt]
   rw [dist_true (fun j hj=>hinv j (by omega))] at hK
   exact hK _ (hU1.trans (hU2.trans hU')) hF'
theorem f245_ok {n : Nat} {c : List AV} (h : InsT n c) (H : Heap) (hF : Free H) (K : AV → Heap → Prop) (hK : ∀ H',Up H H' → Free H' → K (.bool (keysV n (c.drop 4) (aI c))) H') : WF Tryz.prog 245 [.agg c] H K:=by
 have hcl:=h.len
 have hcc:=h.cells
 have htk:=h.tk
 obtain ⟨op,a,b,t,V,rfl,hVT⟩:=h
 have hVl:=hVT.len
 have hVt : V.take 5 = V:=hVT.tk
 have hVT':=hVT
 have hVc:=hVT.cells
 cases n with
 | zero=>exact hVT.elim
 | succ n=>
 obtain ⟨k,ix,s,v,w,L,M,rfl,hv,hvn,hvc,hw,hwn,hwc⟩:=hVT
 simp only [List.cons_append,List.nil_append] at hcl hcc htk hK ⊢
 simp only [List.drop_succ_cons,List.drop_zero,aI,List.getD_cons_succ,List.getD_cons_zero] at hK
 have e : keysV (n + 1) [.int .i64 k,.int .i64 ix,.str s,v,w] a = ((k == 4) && ((L.length : Int) == a) && rightV (n + 1) [.int .i64 k,.int .i64 ix,.str s,v,w] && keysDist L):=by rw [← itm_eq hv];rfl
 rw [e] at hK
 have hlen : ∀ G,evBuiltin Tryz.prog G .len #[24] [v] = some (.int .i64 L.length,G):=fun G=>(hv G).lenAt und24 G
 simp only [List.all_cons,List.all_nil,Bool.and_true,Bool.and_eq_true] at hVc
 obtain ⟨x1,x2,x3,x4,x5⟩:=hVc
 refine WF_body Tryz.func245 (by kernel_rfl) rfl Tryz.ntmps245 (by rw [Tryz.results245]) (of_decide_eq_true (by kernel_rfl)) ?_
 simp (maxSteps:=999999) only [ey,Nat.reduceBEq,reduceEqDiff,reduceLT,reduceCtorEq,reduceAdd,reduceLeDiff,hF.at,hF.hp,x4,x5]
 generalize hH1 : HP H [Blk.row 104 9 [[.int .i64 op,.int .i64 a,.int .i64 b,.str t,.int .i64 k,.int .i64 ix,.str s,v,w]] 0 0,Blk.row 34 5 [[.int .i64 k,.int .i64 ix,.str s,v,w]] 0 0] = H1
 have hb0 : H1.blk H.next = some (.row 104 9 [[.int .i64 op,.int .i64 a,.int .i64 b,.str t,.int .i64 k,.int .i64 ix,.str s,v,w]] 0 0):=by rw [← hH1,hp_blk0];rfl
 have hb : H1.blk (H.next + 1) = some (.row 34 5 [[.int .i64 k,.int .i64 ix,.str s,v,w]] 0 0):=by rw [← hH1,hp_blk];rfl
 have hF1 : Free H1:=hH1 ▸ hF.hpF _
 have hU1 : Up H H1:=hH1 ▸ hF.hpU _
 cases hk : (k == 4) with
 | false=>
  have hkn : (k != 4) = true:=by rw [bne,hk];rfl
  simp only [hk,Bool.false_and] at hK
  simp (maxSteps:=999999) only [ey,Nat.reduceBEq,reduceEqDiff,reduceLT,reduceCtorEq,reduceAdd,reduceLeDiff,hb,hb0,hkn]
  exact hK _ hU1 hF1
 | true=>
 have hkn : (k != 4) = false:=by rw [bne,hk];rfl
 cases hm : ((L.length : Int) == a) with
 | false=>
  have hmn : ((L.length : Int) != a) = true:=by rw [bne,hm];rfl
  simp only [hk,hm,Bool.false_and,Bool.and_false] at hK
  simp (maxSteps:=999999) only [ey,Nat.reduceBEq,reduceEqDiff,reduceLT,reduceCtorEq,reduceAdd,reduceLeDiff,hb,hb0,hkn,hlen,hmn]
  exact hK _ hU1 hF1
 | true=>
 have hmn : ((L.length : Int) != a) = false:=by rw [bne,hm];rfl
 simp (maxSteps:=999999) only [ey,Nat.reduceBEq,reduceEqDiff,reduceLT,reduceCtorEq,reduceAdd,reduceLeDiff,hb,hb0,hkn,hlen,hmn]
 refine callStep (f76_ok hVT' H1 hF1 _ fun H2 hU2 hF2=>?_)
 have hb2:=hU2 _ _ hb
 cases hr : rightV (n + 1) [.int .i64 k,.int .i64 ix,.str s,v,w] with
 | false=>
  simp only [hr,Bool.false_and,Bool.and_false] at hK
  simp (maxSteps:=999999) only [ey,Nat.reduceBEq,reduceEqDiff,reduceLT,reduceCtorEq,reduceAdd,reduceLeDiff]
  exact hK _ (hU1.trans hU2) hF2
 | true=>
 simp only [hk,hm,hr,Bool.true_and] at hK
 simp (maxSteps:=999999) only [ey,Nat.reduceBEq,reduceEqDiff,reduceLT,reduceCtorEq,reduceAdd,reduceLeDiff]
 refine loopStep' (fun env H'=>H' = H2 ∧ ∃ i : Nat,i ≤ L.length ∧ env.at (.tmp 4) = .int .i64 i ∧ env.at (.tmp 3) = .ptr (H.next + 1) 0 0 0 ∧ ∀ j,j < i → keyAt L j = true)
  (fun env H'=>match env.at (.tmp 4) with | .int _ i=>((L.length : Int) - i).toNat | _=>0) ?_ ?_
 ·exact ⟨rfl,0,Nat.zero_le _,by simp only [ey,Nat.reduceBEq,reduceEqDiff,reduceLT,reduceCtorEq,reduceAdd,reduceLeDiff];rfl,by simp only [ey,Nat.reduceBEq,reduceEqDiff,reduceLT,reduceCtorEq,reduceAdd,reduceLeDiff],fun j hj=>by omega⟩
 ·rintro env H' ⟨rfl,i,hi,e4,e3,hinv⟩
  by_cases hlt : i < L.length
  ·obtain ⟨c,hc⟩ : ∃ c,L[i]? = some c:=⟨_,List.getElem?_eq_getElem hlt⟩
   have hcm:=hvc c (List.mem_of_getElem? hc)
   have hgd : L.getD i [] = c:=by rw [List.getD_eq_getElem?_getD,hc];rfl
   have hix:=idx24 hv hc
   obtain ⟨k',i',s',v',w',rfl⟩:=hcm.shape
   have hka : keyAt L i = ((k' == 3) && !((L.take i).any fun c=>txtV c == s')):=by unfold keyAt;rw [hgd];rfl
   cases hk3 : (k' == 3) with
   | false=>
    have hkn3 : (k' != 3) = true:=by rw [bne,hk3];rfl
    simp (maxSteps:=999999) only [ey,Nat.reduceBEq,reduceEqDiff,reduceLT,reduceCtorEq,reduceAdd,reduceLeDiff,e4,e3,hb2,hlen,lt_true hlt,hix,hkn3]
    rw [dist_false hlt (by rw [hka,hk3];rfl)] at hK
    exact hK _ (hU1.trans hU2) hF2
   | true=>
    have hkn3 : (k' != 3) = false:=by rw [bne,hk3];rfl
    simp (maxSteps:=999999) only [ey,Nat.reduceBEq,reduceEqDiff,reduceLT,reduceCtorEq,reduceAdd,reduceLeDiff,e4,e3,hb2,hlen,lt_true hlt,hix,hkn3]
    refine loopStep' (fun env H2=>H2 = H' ∧ ∃ j : Nat,j ≤ i ∧ env.at (.tmp 5) = .int .i64 j ∧ env.at (.tmp 4) = .int .i64 i ∧ env.at (.tmp 3) = .ptr (H.next + 1) 0 0 0 ∧ ((L.take j).any fun c=>txtV c == s') = false)
     (fun env H2=>match env.at (.tmp 5) with | .int _ j=>((i : Int) - j).toNat | _=>0) ?_ ?_
    ·exact ⟨rfl,0,Nat.zero_le _,by simp only [ey,Nat.reduceBEq,reduceEqDiff,reduceLT,reduceCtorEq,reduceAdd,reduceLeDiff];rfl,by simp only [ey,Nat.reduceBEq,reduceEqDiff,reduceLT,reduceCtorEq,reduceAdd,reduceLeDiff,e4],by simp only [ey,Nat.reduceBEq,reduceEqDiff,reduceLT,reduceCtorEq,reduceAdd,reduceLeDiff,e3],rfl⟩
    ·rintro env H3 ⟨rfl,j,hj,e5,e4,e3,hno⟩
     by_cases hlj : j < i
     ·obtain ⟨d,hd⟩ : ∃ d,L[j]? = some d:=⟨_,List.getElem?_eq_getElem (by omega)⟩
      have hixd:=idx24 hv hd
      obtain ⟨kd,id,sd,vd,wd,rfl⟩:=(hvc d (List.mem_of_getElem? hd)).shape
      simp (maxSteps:=999999) only [ey,Nat.reduceBEq,reduceEqDiff,reduceLT,reduceCtorEq,reduceAdd,reduceLeDiff,e5,e4,e3,lt_true hlj]
      refine drawStep [] [0,1,2,3,4,5,6,7,8,9,10,11,12] _ rfl (by kernel_rfl) ?_
      have htake : (L.take (j + 1)).any (fun c=>txtV c == s') = (sd == s'):=by
       rw [List.take_add_one,hd,List.any_append,hno]
       simp [txtV]
      cases hs : (sd == s') with
      | true=>
       simp (maxSteps:=999999) only [ey,Nat.reduceBEq,reduceEqDiff,reduceLT,reduceCtorEq,reduceAdd,reduceLeDiff,e5,e4,e3,hb2,hix,hixd,hs]
       have hany : ((L.take i).any fun c=>txtV c == s') = true:=by
        rw [List.any_eq_true] 
        refine ⟨_,?_,(show (txtV [.int .i64 kd,.int .i64 id,.str sd,vd,wd] == s') = true from hs)⟩
        exact List.mem_of_getElem? (i:=j) (by rw [List.getElem?_take,if_pos hlj];exact hd)
       rw [dist_false hlt (by rw [hka,hany];simp)] at hK
       exact hK _ (hU1.trans hU2) hF2
      | false=>
       simp (maxSteps:=999999) only [ey,Nat.reduceBEq,reduceEqDiff,reduceLT,reduceCtorEq,reduceAdd,reduceLeDiff,e5,e4,e3,hb2,hix,hixd,hs,wrap_succ (i:=j) (by omega)]
       exact ⟨⟨j + 1,hlj,rfl,by rw [htake,hs]⟩,by omega⟩
     ·obtain rfl : j = i:=by omega
      simp (maxSteps:=999999) only [ey,Nat.reduceBEq,reduceEqDiff,reduceLT,reduceCtorEq,reduceAdd,reduceLeDiff,e5,e4,e3,lt_false hlj,wrap_succ (i:=j) (by omega)]
      refine ⟨⟨j + 1,hlt,rfl,fun x hx=>?_⟩,by omega⟩
      by_cases hx2 : x < j
      ·exact hinv x hx2
      ·obtain rfl : x = j:=by omega
       rw [hka,hk3,hno];rfl
  ·simp (maxSteps:=999999) only [ey,Nat.reduceBEq,reduceEqDiff,reduceLT,reduceCtorEq,reduceAdd,reduceLeDiff,e4,e3,hb2,hlen,lt_false hlt]
   rw [dist_true (fun j hj=>hinv j (by omega))] at hK
   exact hK _ (hU1.trans hU2) hF2
theorem in_below (n m : Int) : (decide (n ≥ 0) && decide (n ≤ m - 1)) = belowV n m:=by
 unfold belowV
 have : (n ≤ m - 1) = (n < m):=propext ⟨fun h=>by omega,fun h=>by omega⟩
 simp only [this]
theorem f373_ok {vF vG vI vH v : AV} {nm : List Nat} {P S : Int} {L : List (List AV)} (hv : ∀ H,Holds H 9 v L) (hn : L.length < 2 ^ 60) (n : Int) (H : Heap) (hF : Free H) (K : AV → Heap → Prop) (hK : ∀ H',Up H H' → Free H' → K (.bool (belowV n L.length)) H') : WF Tryz.prog 373 [.agg [vF,vG,vI,vH,.str nm,.int .i64 P,.int .i64 S,v],.int .i64 n] H K:=by
 have hlen : ∀ G,evBuiltin Tryz.prog G .len #[83] [v] = some (.int .i64 L.length,G):=fun G=>(hv G).lenAt und83 G
 have hw : IntKind.i64.wrap ((L.length : Int) - 1) = (L.length : Int) - 1:=by
  rw [IntWalk.i64_in _ (by omega)]
 refine WF_body Tryz.func373 (by kernel_rfl) rfl Tryz.ntmps373 (by rw [Tryz.results373]) (of_decide_eq_true (by kernel_rfl)) ?_
 simp (maxSteps:=999999) only [ey,Nat.reduceBEq,reduceEqDiff,reduceLT,reduceCtorEq,reduceAdd,reduceLeDiff,hF.at,hF.hp,hlen,hw]
 refine callStep (f125_ok n 0 ((L.length : Int) - 1) _ (hF.hpF _) _ ?_)
 rw [in_below]
 simp (maxSteps:=999999) only [ey,Nat.reduceBEq,reduceEqDiff,reduceLT,reduceCtorEq,reduceAdd,reduceLeDiff]
 exact hK _ (hF.hpU _) (hF.hpF _)
theorem f372_ok {vF vG vI vH v : AV} {nm : List Nat} {P S : Int} (h0 : 0 ≤ S) (h1 : S < 2 ^ 60) (n : Int) (H : Heap) (hF : Free H) (K : AV → Heap → Prop) (hK : ∀ H',Up H H' → Free H' → K (.bool (belowV n S)) H') : WF Tryz.prog 372 [.agg [vF,vG,vI,vH,.str nm,.int .i64 P,.int .i64 S,v],.int .i64 n] H K:=by
 have hw : IntKind.i64.wrap (S - 1) = S - 1:=by
  rw [IntWalk.i64_in _ (by omega)]
 refine WF_body Tryz.func372 (by kernel_rfl) rfl Tryz.ntmps372 (by rw [Tryz.results372]) (of_decide_eq_true (by kernel_rfl)) ?_
 simp (maxSteps:=999999) only [ey,Nat.reduceBEq,reduceEqDiff,reduceLT,reduceCtorEq,reduceAdd,reduceLeDiff,hF.at,hF.hp,hw]
 refine callStep (f125_ok n 0 (S - 1) _ (hF.hpF _) _ ?_)
 rw [in_below]
 simp (maxSteps:=999999) only [ey,Nat.reduceBEq,reduceEqDiff,reduceLT,reduceCtorEq,reduceAdd,reduceLeDiff]
 exact hK _ (hF.hpU _) (hF.hpF _)
theorem f375_ok {vF vG vI vH v : AV} {nm : List Nat} {P S : Int} {LF : List (List AV)} (hv : ∀ H,Holds H 4 vF LF) (hL : ∀ c ∈ LF,FunC c) (hn : LF.length < 2 ^ 60) (fn a : Int) (H : Heap) (hF : Free H) (K : AV → Heap → Prop) (hK : ∀ H',Up H H' → Free H' → K (.bool (callV LF fn a)) H') : WF Tryz.prog 375 [.agg [vF,vG,vI,vH,.str nm,.int .i64 P,.int .i64 S,v],.int .i64 fn,.int .i64 a] H K:=by
 have hlen : ∀ G,evBuiltin Tryz.prog G .len #[22] [vF] = some (.int .i64 LF.length,G):=fun G=>(hv G).lenAt und22 G
 have hw : IntKind.i64.wrap ((LF.length : Int) - 1) = (LF.length : Int) - 1:=by
  rw [IntWalk.i64_in _ (by omega)]
 refine WF_body Tryz.func375 (by kernel_rfl) rfl Tryz.ntmps375 (by rw [Tryz.results375]) (of_decide_eq_true (by kernel_rfl)) ?_
 simp (maxSteps:=999999) only [ey,Nat.reduceBEq,reduceEqDiff,reduceLT,reduceCtorEq,reduceAdd,reduceLeDiff,hF.at,hF.hp,hlen,hw]
 refine callStep (f125_ok fn 0 ((LF.length : Int) - 1) _ (hF.hpF _) _ ?_)
 rw [in_below]
 unfold callV at hK
 cases hb1 : belowV fn LF.length with
 | false=>
  simp only [hb1,Bool.false_and] at hK
  simp (maxSteps:=999999) only [ey,Nat.reduceBEq,reduceEqDiff,reduceLT,reduceCtorEq,reduceAdd,reduceLeDiff]
  exact hK _ (hF.hpU _) (hF.hpF _)
 | true=>
  simp only [hb1,Bool.true_and] at hK
  unfold belowV at hb1
  simp only [Bool.and_eq_true,decide_eq_true_eq] at hb1
  obtain ⟨m,rfl⟩:=Int.eq_ofNat_of_zero_le (show 0 ≤ fn from hb1.1)
  have hlt : m < LF.length:=by omega
  obtain ⟨c,hc⟩ : ∃ c,LF[m]? = some c:=⟨_,List.getElem?_eq_getElem hlt⟩
  have hix:=idx22 hv hc
  obtain ⟨nm',P',S',v',rfl⟩:=hL c (List.mem_of_getElem? hc)
  have hgd : LF.getD m [] = [.str nm',.int .i64 P',.int .i64 S',v']:=by rw [List.getD_eq_getElem?_getD,hc];rfl
  rw [Int.toNat_natCast,hgd] at hK
  simp (maxSteps:=999999) only [ey,Nat.reduceBEq,reduceEqDiff,reduceLT,reduceCtorEq,reduceAdd,reduceLeDiff,hix]
  exact hK _ (hF.hpU _) (hF.hpF _)
theorem jumps_eq {L : List (List AV)} : ∀ (m i : Nat),i + m ≤ L.length → jumpsV L i m = !(((L.drop i).take m).any fun c=>opI c != 7)
 | 0,i,_=>by simp [jumpsV]
 | m + 1,i,h=>by
  have hlt : i < L.length:=by omega
  rw [List.drop_eq_getElem_cons hlt,List.take_succ_cons,List.any_cons]
  have hgd : L.getD i [] = L[i]:=by rw [List.getD_eq_getElem?_getD,List.getElem?_eq_getElem hlt];rfl
  have ih:=jumps_eq (L:=L) m (i + 1) (by omega)
  have e : jumpsV L i (m + 1) = (opI L[i] == 7 && jumpsV L (i + 1) m):=by simp only [jumpsV,hlt,decide_true,Bool.true_and,hgd]
  rw [e,ih,Bool.not_or,bne,Bool.not_not]
theorem jumps_out {L : List (List AV)} : ∀ (m i : Nat),L.length < i + m → 0 < m → jumpsV L i m = false
 | 0,i,_,h=>by omega
 | m + 1,i,h,_=>by
  unfold jumpsV
  by_cases hi : i < L.length
  ·by_cases hm : 0 < m
   ·rw [jumps_out m (i + 1) (by omega) hm,Bool.and_false]
   ·omega
  ·simp [hi]
theorem sl83 {v : AV} {L : List (List AV)} (h : ∀ H,Holds H 9 v L) {x y : Nat} (hxy : x ≤ y) (hy : y ≤ L.length) (h0 : 0 < L.length) (H : Heap) : evSlice Tryz.prog H 83 v (some (x : Int)) (some (y : Int)) none = some (.lst 9 ((L.drop x).take (y - x))):=by
 rcases lst_of h with ⟨rfl,_⟩ | rfl
 ·simp at h0
 ·have e1 : ((y : Int) - (x : Int)).toNat = y - x:=by omega
  simp only [evSlice,und83,sz104,Option.getD_some,boundsOk,e1,Int.toNat_natCast]
  rw [if_pos (by simp;omega)]
theorem f376_ok {vF vG vI vH v : AV} {nm : List Nat} {P S : Int} {n : Nat} {L : List (List AV)} (hv : ∀ H,Holds H 9 v L) (hL : ∀ c ∈ L,InsT n c) (hn : L.length < 2 ^ 60) (p : Nat) (hp : p < L.length) (op a b : Int) (t : List Nat) (c0 c1 c2 c3 c4 : AV) (H : Heap) (hF : Free H) (K : AV → Heap → Prop) (hK : ∀ H',Up H H' → Free H' → K (.bool (choiceV L p a b)) H') : WF Tryz.prog 376 [.agg [vF,vG,vI,vH,.str nm,.int .i64 P,.int .i64 S,v],.int .i64 p,.agg [.int .i64 op,.int .i64 a,.int .i64 b,.str t,c0,c1,c2,c3,c4]] H K:=by
 have hlen : ∀ G,evBuiltin Tryz.prog G .len #[83] [v] = some (.int .i64 L.length,G):=fun G=>(hv G).lenAt und83 G
 refine WF_body Tryz.func376 (by kernel_rfl) rfl Tryz.ntmps376 (by rw [Tryz.results376]) (of_decide_eq_true (by kernel_rfl)) ?_
 simp (maxSteps:=999999) only [ey,Nat.reduceBEq,reduceEqDiff,reduceLT,reduceCtorEq,reduceAdd,reduceLeDiff,hF.at,hF.hp]
 generalize hH1 : HP H [Blk.row 182 8 [[vF,vG,vI,vH,.str nm,.int .i64 P,.int .i64 S,v]] 0 0,Blk.row 104 9 [[.int .i64 op,.int .i64 a,.int .i64 b,.str t,c0,c1,c2,c3,c4]] 0 0] = H1
 have hb0 : H1.blk H.next = some (.row 182 8 [[vF,vG,vI,vH,.str nm,.int .i64 P,.int .i64 S,v]] 0 0):=by rw [← hH1,hp_blk0];rfl
 have hb1 : H1.blk (H.next + 1) = some (.row 104 9 [[.int .i64 op,.int .i64 a,.int .i64 b,.str t,c0,c1,c2,c3,c4]] 0 0):=by rw [← hH1,hp_blk];rfl
 have hF1 : Free H1:=hH1 ▸ hF.hpF _
 have hU1 : Up H H1:=hH1 ▸ hF.hpU _
 refine callStep (f125_ok a 0 16 H1 hF1 _ ?_)
 rw [show (decide (a ≥ 0) && decide (a ≤ 16)) = belowV a 17 from in_below a 17]
 unfold choiceV at hK
 cases h1 : belowV a 17 with
 | false=>
  simp only [h1,Bool.false_and] at hK
  simp (maxSteps:=999999) only [ey,Nat.reduceBEq,reduceEqDiff,reduceLT,reduceCtorEq,reduceAdd,reduceLeDiff,Bool.not_false]
  exact hK _ hU1 hF1
 | true=>
 simp (maxSteps:=999999) only [ey,Nat.reduceBEq,reduceEqDiff,reduceLT,reduceCtorEq,reduceAdd,reduceLeDiff,hb0,hb1,Bool.not_true]
 refine callStep (f125_ok b 0 1 H1 hF1 _ ?_)
 rw [show (decide (b ≥ 0) && decide (b ≤ 1)) = belowV b 2 from in_below b 2]
 cases h2 : belowV b 2 with
 | false=>
  simp only [h1,h2,Bool.false_and,Bool.and_false] at hK
  simp (maxSteps:=999999) only [ey,Nat.reduceBEq,reduceEqDiff,reduceLT,reduceCtorEq,reduceAdd,reduceLeDiff,Bool.not_false]
  exact hK _ hU1 hF1
 | true=>
 simp only [h1,h2,Bool.true_and] at hK
 unfold belowV at h1 h2
 simp only [Bool.and_eq_true,decide_eq_true_eq] at h1 h2
 obtain ⟨x,rfl⟩:=Int.eq_ofNat_of_zero_le (show 0 ≤ a from h1.1)
 obtain ⟨y,rfl⟩:=Int.eq_ofNat_of_zero_le (show 0 ≤ b from h2.1)
 have w0 : IntKind.i64.wrap ((x : Int) + (y : Int)) = ((x + y : Nat) : Int):=by rw [IntWalk.i64_in _ (by omega)];omega
 have w1 : IntKind.i64.wrap ((p : Int) + (x : Int)) = ((p + x : Nat) : Int):=by rw [IntWalk.i64_in _ (by omega)];omega
 have w2 : IntKind.i64.wrap (((p + x : Nat) : Int) + (y : Int)) = ((p + x + y : Nat) : Int):=by rw [IntWalk.i64_in _ (by omega)];omega
 have w3 : IntKind.i64.wrap ((p : Int) + 1) = ((p + 1 : Nat) : Int):=by rw [IntWalk.i64_in _ (by omega)];omega
 have w4 : IntKind.i64.wrap (((p + 1 : Nat) : Int) + (x : Int)) = ((p + 1 + x : Nat) : Int):=by rw [IntWalk.i64_in _ (by omega)];omega
 have w5 : IntKind.i64.wrap (((p + 1 + x : Nat) : Int) + (y : Int)) = ((p + 1 + x + y : Nat) : Int):=by rw [IntWalk.i64_in _ (by omega)];omega
 have hge : decide ((x : Int) + (y : Int) ≥ 1) = decide (1 ≤ x + y):=by congr 1;exact propext ⟨fun h=>by omega,fun h=>by omega⟩
 have htn : ((x : Int) + (y : Int)).toNat = x + y:=by omega
 rw [hge,htn] at hK
 by_cases h3 : 1 ≤ x + y
 ·have hl1 : (((x + y : Nat) : Int) < 1) = False:=by simp;omega
  simp only [h3,decide_true,Bool.true_and] at hK
  by_cases h4 : p + x + y < L.length
  ·have hl2 : (((p + x + y : Nat) : Int) ≥ (L.length : Int)) = False:=by simp;omega
   have hsl:=sl83 hv (x:=p + 1) (y:=p + 1 + x + y) (by omega) (by omega) (by omega)
   simp (maxSteps:=999999) only [ey,Nat.reduceBEq,reduceEqDiff,reduceLT,reduceCtorEq,reduceAdd,reduceLeDiff,hb0,hb1,Bool.not_true,w0,w1,w2,w3,w4,w5,hl1,hlen,hl2,optInt,hsl]
   have hM : ∀ c ∈ (L.drop (p + 1)).take (p + 1 + x + y - (p + 1)),InsT n c:=fun c hc=>hL c (List.mem_of_mem_drop (List.mem_of_mem_take hc))
   refine callStep (f406_ok (fun G=>Holds.lst fun c hc=>(hM c hc).len) (by rw [List.length_take,List.length_drop];omega) (fun c hc=>(hM c hc).len) (fun c=>opI c != 7) 407 [] [] H1 hF1 (fun c hc G hU hG K hK=>f407_ok (hM c hc) G hG K hK) _ fun H2 hU2 hF2=>?_)
   rw [jumps_eq (x + y) (p + 1) (by omega)] at hK
   rw [show p + 1 + x + y - (p + 1) = x + y by omega]
   simp (maxSteps:=999999) only [ey,Nat.reduceBEq,reduceEqDiff,reduceLT,reduceCtorEq,reduceAdd,reduceLeDiff]
   exact hK _ (hU1.trans hU2) hF2
  ·have hl2 : (((p + x + y : Nat) : Int) ≥ (L.length : Int)) = True:=by simp;omega
   rw [jumps_out (x + y) (p + 1) (by omega) (by omega)] at hK
   simp (maxSteps:=999999) only [ey,Nat.reduceBEq,reduceEqDiff,reduceLT,reduceCtorEq,reduceAdd,reduceLeDiff,hb0,hb1,Bool.not_true,w0,w1,w2,w3,w4,w5,hl1,hlen,hl2]
   exact hK _ hU1 hF1
 ·have hl1 : (((x + y : Nat) : Int) < 1) = True:=by simp;omega
  simp only [h3,decide_false,Bool.false_and] at hK
  simp (maxSteps:=999999) only [ey,Nat.reduceBEq,reduceEqDiff,reduceLT,reduceCtorEq,reduceAdd,reduceLeDiff,hb0,hb1,Bool.not_true,w0,hl1]
  exact hK _ hU1 hF1
end Go.Proofs.T
