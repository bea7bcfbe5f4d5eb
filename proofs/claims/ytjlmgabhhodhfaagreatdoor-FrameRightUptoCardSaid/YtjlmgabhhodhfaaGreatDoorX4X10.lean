import Derived.Test.YtjlmgabhhodhfaaGreatDoorX2X3
set_option linter.unusedVariables false
set_option linter.unusedSimpArgs false
set_option maxRecDepth 100000
namespace Go.Proofs.T
open Go.Ev
open Nat (reduceMul reducePow reduceSub reduceEqDiff reduceLT reduceAdd reduceLeDiff)
open UInt8 (reduceToNat)
theorem any_take {α : Type} {L : List α} {p : α → Bool} {i : Nat} {c : α} (hc : L[i]? = some c) (h : (L.take i).any p = false) (hp : p c = false) : (L.take (i + 1)).any p = false:=by
 rw [List.take_add_one,hc,List.any_append,h];simp [hp]
theorem any_at {α : Type} {L : List α} {p : α → Bool} {i : Nat} {c : α} (hc : L[i]? = some c) (hp : p c = true) : L.any p = true:=
 List.any_eq_true.2 ⟨c,List.mem_of_getElem? hc,hp⟩
theorem f241_ok : ∀ (n : Nat) (cs : List AV),VT n cs → ∀ (H : Heap) (hF : Free H) (K : AV → Heap → Prop) (hK : ∀ H',Up H H' → Free H' → K (.bool (shortV n cs)) H'),WF Tryz.prog 241 [.agg cs] H K:=by
 intro n
 induction n with
 | zero=>intro cs h;exact h.elim
 | succ n ih=>
  intro cs h H hF K hK
  obtain ⟨k,ix,s,v,w,L,M,rfl,hv,hvn,hvc,hw,hwn,hwc⟩:=h
  have e : shortV (n + 1) [.int .i64 k,.int .i64 ix,.str s,v,w] = (!decide ((s.length : Int) > 4096) && !(M.any longK) && !(L.any fun c=>!shortV n c)):=by rw [← itm_eq hv,← itm_eq hw];rfl
  rw [e] at hK
  have hlv : ∀ G,evBuiltin Tryz.prog G .len #[24] [v] = some (.int .i64 L.length,G):=fun G=>(hv G).lenAt und24 G
  have hlw : ∀ G,evBuiltin Tryz.prog G .len #[23] [w] = some (.int .i64 M.length,G):=fun G=>(hw G).lenAt und23 G
  refine WF_body Tryz.func241 (by kernel_rfl) rfl Tryz.ntmps241 (by rw [Tryz.results241]) (of_decide_eq_true (by kernel_rfl)) ?_
  by_cases h4 : (s.length : Int) > 4096
  ·simp only [h4,decide_true,Bool.not_true,Bool.false_and] at hK
   simp (maxSteps:=999999) only [gx,Nat.reduceBEq,reduceEqDiff,reduceLT,reduceCtorEq,reduceAdd,reduceLeDiff,hF.at,hF.hp,ln9,h4]
   exact hK _ (hF.hpU _) (hF.hpF _)
  simp only [h4,decide_false,Bool.not_false,Bool.true_and] at hK
  simp (maxSteps:=999999) only [gx,Nat.reduceBEq,reduceEqDiff,reduceLT,reduceCtorEq,reduceAdd,reduceLeDiff,hF.at,hF.hp,ln9,h4]
  generalize hH1 : HP H [Blk.row 34 5 [[.int .i64 k,.int .i64 ix,.str s,v,w]] 0 0] = H1
  have hb : H1.blk H.next = some (.row 34 5 [[.int .i64 k,.int .i64 ix,.str s,v,w]] 0 0):=by rw [← hH1,hp_blk0];rfl
  have hF1 : Free H1:=hH1 ▸ hF.hpF _
  have hU1 : Up H H1:=hH1 ▸ hF.hpU _
  refine loopStep' (fun env H'=>H' = H1 ∧ ∃ i : Nat,i ≤ M.length ∧ env.at (.tmp 3) = .int .i64 i ∧ env.at (.tmp 1) = .ptr H.next 0 0 0 ∧ (M.take i).any longK = false)
   (fun env H'=>match env.at (.tmp 3) with | .int _ i=>((M.length : Int) - i).toNat | _=>0) ?_ ?_
  ·exact ⟨rfl,0,Nat.zero_le _,by simp only [gx,Nat.reduceBEq,reduceEqDiff,reduceLT,reduceCtorEq,reduceAdd,reduceLeDiff];rfl,by simp only [gx,Nat.reduceBEq,reduceEqDiff,reduceLT,reduceCtorEq,reduceAdd,reduceLeDiff],by simp⟩
  ·rintro env H2 ⟨rfl,i,hi,e3,e1,hinv⟩
   by_cases hlt : i < M.length
   ·obtain ⟨c,hc⟩ : ∃ c,M[i]? = some c:=⟨_,List.getElem?_eq_getElem hlt⟩
    obtain ⟨t,rfl⟩:=hwc c (List.mem_of_getElem? hc)
    by_cases h5 : (t.length : Int) > 4096
    ·have ha:=any_at hc (show longK [.str t] = true from decide_eq_true h5)
     simp only [ha,Bool.not_true,Bool.false_and] at hK
     simp (maxSteps:=999999) only [gx,Nat.reduceBEq,reduceEqDiff,reduceLT,reduceCtorEq,reduceAdd,reduceLeDiff,e3,e1,hb,hlw,lt_true hlt,idx23 hw hc,ln9,h5]
     exact hK _ hU1 hF1
    ·have ha:=any_take hc hinv (show longK [.str t] = false from decide_eq_false h5)
     simp (maxSteps:=999999) only [gx,Nat.reduceBEq,reduceEqDiff,reduceLT,reduceCtorEq,reduceAdd,reduceLeDiff,e3,e1,hb,hlw,lt_true hlt,idx23 hw hc,ln9,h5,wrap_succ (i:=i) (by omega)]
     exact ⟨⟨i + 1,hlt,rfl,ha⟩,by omega⟩
   ·obtain rfl : i = M.length:=by omega
    rw [List.take_length] at hinv
    simp only [hinv,Bool.not_false,Bool.true_and] at hK
    simp (maxSteps:=999999) only [gx,Nat.reduceBEq,reduceEqDiff,reduceLT,reduceCtorEq,reduceAdd,reduceLeDiff,e3,e1,hb,hlw,lt_false hlt]
    refine loopStep' (fun env H'=>Up H2 H' ∧ Free H' ∧ ∃ i : Nat,i ≤ L.length ∧ env.at (.tmp 4) = .int .i64 i ∧ env.at (.tmp 1) = .ptr H.next 0 0 0 ∧ (L.take i).any (fun c=>!shortV n c) = false)
     (fun env H'=>match env.at (.tmp 4) with | .int _ i=>((L.length : Int) - i).toNat | _=>0) ?_ ?_
    ·exact ⟨Up.refl _,hF1,0,Nat.zero_le _,by simp only [gx,Nat.reduceBEq,reduceEqDiff,reduceLT,reduceCtorEq,reduceAdd,reduceLeDiff];rfl,by simp only [gx,Nat.reduceBEq,reduceEqDiff,reduceLT,reduceCtorEq,reduceAdd,reduceLeDiff,e1],by simp⟩
    ·rintro env3 H3 ⟨hU3,hF3,i,hi,e4,e1,hinv⟩
     have hb3:=hU3 _ _ hb
     by_cases hlt : i < L.length
     ·obtain ⟨c,hc⟩ : ∃ c,L[i]? = some c:=⟨_,List.getElem?_eq_getElem hlt⟩
      have hcm:=hvc c (List.mem_of_getElem? hc)
      simp (maxSteps:=999999) only [gx,Nat.reduceBEq,reduceEqDiff,reduceLT,reduceCtorEq,reduceAdd,reduceLeDiff,e4,e1,hb3,hlv,lt_true hlt,idx24 hv hc,hcm.len,hcm.tk]
      refine callStep (ih c hcm H3 hF3 _ fun H4 hU4 hF4=>?_)
      cases hs : shortV n c with
      | false=>
       have ha:=any_at (p:=fun c=>!shortV n c) hc (by simp only [hs];rfl)
       simp only [ha,Bool.not_true] at hK
       simp (maxSteps:=999999) only [gx,Nat.reduceBEq,reduceEqDiff,reduceLT,reduceCtorEq,reduceAdd,reduceLeDiff,e4,e1]
       exact hK _ (hU1.trans (hU3.trans hU4)) hF4
      | true=>
       have ha:=any_take (p:=fun c=>!shortV n c) hc hinv (by simp only [hs];rfl)
       simp (maxSteps:=999999) only [gx,Nat.reduceBEq,reduceEqDiff,reduceLT,reduceCtorEq,reduceAdd,reduceLeDiff,e4,e1,wrap_succ (i:=i) (by omega)]
       exact ⟨⟨hU3.trans hU4,hF4,i + 1,hlt,rfl,ha⟩,by omega⟩
     ·obtain rfl : i = L.length:=by omega
      rw [List.take_length] at hinv
      simp only [hinv,Bool.not_false] at hK
      simp (maxSteps:=999999) only [gx,Nat.reduceBEq,reduceEqDiff,reduceLT,reduceCtorEq,reduceAdd,reduceLeDiff,e4,e1,hb3,hlv,lt_false hlt]
      exact hK _ (hU1.trans hU3) hF3
def withinV (n : Nat) (cs : List AV) : Bool:=decide (depthV n cs ≤ 16) && decide (sizeV n cs ≤ 1000) && shortV n cs
theorem f141_ok {n : Nat} {cs : List AV} (h : VT n cs) (H : Heap) (hF : Free H) (K : AV → Heap → Prop) (hK : ∀ H',Up H H' → Free H' → K (.bool (withinV n cs)) H') : WF Tryz.prog 141 [.agg cs] H K:=by
 refine WF_body Tryz.func141 (by kernel_rfl) rfl Tryz.ntmps141 (by rw [Tryz.results141]) (of_decide_eq_true (by kernel_rfl)) ?_
 simp (maxSteps:=999999) only [gx,Nat.reduceBEq,reduceEqDiff,reduceLT,reduceCtorEq,reduceAdd,reduceLeDiff,hF.at,hF.hp,h.len,h.tk]
 generalize hH1 : HP H [Blk.row 34 5 [cs] 0 0] = H1
 have hb : H1.blk H.next = some (.row 34 5 [cs] 0 0):=by rw [← hH1,hp_blk0];rfl
 have hF1 : Free H1:=hH1 ▸ hF.hpF _
 have hU1 : Up H H1:=hH1 ▸ hF.hpU _
 refine callStep (f166_ok n cs h H1 hF1 _ fun H2 hU2 hF2=>?_)
 unfold withinV at hK
 by_cases h1 : depthV n cs ≤ 16
 ·simp only [h1,decide_true,Bool.true_and] at hK
  simp (maxSteps:=999999) only [gx,Nat.reduceBEq,reduceEqDiff,reduceLT,reduceCtorEq,reduceAdd,reduceLeDiff,hU2 _ _ hb,h.len,h.tk,h1]
  refine callStep (f165_ok n cs h H2 hF2 _ fun H3 hU3 hF3=>?_)
  by_cases h2 : sizeV n cs ≤ 1000
  ·simp only [h2,decide_true,Bool.true_and] at hK
   simp (maxSteps:=999999) only [gx,Nat.reduceBEq,reduceEqDiff,reduceLT,reduceCtorEq,reduceAdd,reduceLeDiff,hU3 _ _ (hU2 _ _ hb),h.len,h.tk,h2]
   refine callStep (f238_ok n cs h H3 hF3 _ fun H4 hU4 hF4=>?_)
   simp (maxSteps:=999999) only [gx,Nat.reduceBEq,reduceEqDiff,reduceLT,reduceCtorEq,reduceAdd,reduceLeDiff]
   exact hK _ (hU1.trans (hU2.trans (hU3.trans hU4))) hF4
  ·simp only [h2,decide_false,Bool.false_and] at hK
   simp (maxSteps:=999999) only [gx,Nat.reduceBEq,reduceEqDiff,reduceLT,reduceCtorEq,reduceAdd,reduceLeDiff,h2]
   exact hK _ (hU1.trans (hU2.trans hU3)) hF3
 ·simp only [h1,decide_false,Bool.false_and] at hK
  simp (maxSteps:=999999) only [gx,Nat.reduceBEq,reduceEqDiff,reduceLT,reduceCtorEq,reduceAdd,reduceLeDiff,h1]
  exact hK _ (hU1.trans hU2) hF2
theorem f145_ok {n : Nat} {cs : List AV} (h : VT n cs) (H : Heap) (hF : Free H) (K : AV → Heap → Prop) (hK : ∀ H',Up H H' → Free H' → K (.bool (withinV n cs)) H') : WF Tryz.prog 145 [.agg cs] H K:=by
 refine WF_body Tryz.func145 (by kernel_rfl) rfl Tryz.ntmps145 (by rw [Tryz.results145]) (of_decide_eq_true (by kernel_rfl)) ?_
 simp (maxSteps:=999999) only [gx,Nat.reduceBEq,reduceEqDiff,reduceLT,reduceCtorEq,reduceAdd,reduceLeDiff,hF.at,hF.hp,h.len,h.tk]
 generalize hH1 : HP H [Blk.row 34 5 [cs] 0 0] = H1
 have hb : H1.blk H.next = some (.row 34 5 [cs] 0 0):=by rw [← hH1,hp_blk0];rfl
 have hF1 : Free H1:=hH1 ▸ hF.hpF _
 have hU1 : Up H H1:=hH1 ▸ hF.hpU _
 refine callStep (f241_ok n cs h H1 hF1 _ fun H2 hU2 hF2=>?_)
 unfold withinV at hK
 cases h0 : shortV n cs with
 | false=>
  simp only [h0,Bool.and_false] at hK
  simp (maxSteps:=999999) only [gx,Nat.reduceBEq,reduceEqDiff,reduceLT,reduceCtorEq,reduceAdd,reduceLeDiff]
  exact hK _ (hU1.trans hU2) hF2
 | true=>
  simp only [h0,Bool.and_true] at hK
  simp (maxSteps:=999999) only [gx,Nat.reduceBEq,reduceEqDiff,reduceLT,reduceCtorEq,reduceAdd,reduceLeDiff,hU2 _ _ hb,h.len,h.tk]
  refine callStep (f187_ok n cs h H2 hF2 _ fun H3 hU3 hF3=>?_)
  by_cases h1 : depthV n cs ≤ 16
  ·simp only [h1,decide_true,Bool.true_and] at hK
   simp (maxSteps:=999999) only [gx,Nat.reduceBEq,reduceEqDiff,reduceLT,reduceCtorEq,reduceAdd,reduceLeDiff,hU3 _ _ (hU2 _ _ hb),h.len,h.tk,h1]
   refine callStep (f186_ok n cs h H3 hF3 _ fun H4 hU4 hF4=>?_)
   simp (maxSteps:=999999) only [gx,Nat.reduceBEq,reduceEqDiff,reduceLT,reduceCtorEq,reduceAdd,reduceLeDiff]
   exact hK _ (hU1.trans (hU2.trans (hU3.trans hU4))) hF4
  ·simp only [h1,decide_false,Bool.false_and] at hK
   simp (maxSteps:=999999) only [gx,Nat.reduceBEq,reduceEqDiff,reduceLT,reduceCtorEq,reduceAdd,reduceLeDiff,h1]
   exact hK _ (hU1.trans (hU2.trans hU3)) hF3
def kindV (cs : List AV) : Int:=match cs.getD 0 .undef with | .int _ k=>k | _=>0
def futureV : Nat → List AV → Bool
 | 0,_=>false
 | n + 1,cs=>(itm (cs.getD 3 .undef)).any (futureV n) || (kindV cs == 6)
theorem f146_ok : ∀ (n : Nat) (cs : List AV),VT n cs → ∀ (H : Heap) (hF : Free H) (K : AV → Heap → Prop) (hK : ∀ H',Up H H' → Free H' → K (.bool (futureV n cs)) H'),WF Tryz.prog 146 [.agg cs] H K:=by
 intro n
 induction n with
 | zero=>intro cs h;exact h.elim
 | succ n ih=>
  intro cs h H hF K hK
  obtain ⟨k,ix,s,v,w,L,M,rfl,hv,hvn,hvc,hw,hwn,hwc⟩:=h
  have e : futureV (n + 1) [.int .i64 k,.int .i64 ix,.str s,v,w] = (L.any (futureV n) || (k == 6)):=by rw [← itm_eq hv];rfl
  rw [e] at hK
  have hlv : ∀ G,evBuiltin Tryz.prog G .len #[24] [v] = some (.int .i64 L.length,G):=fun G=>(hv G).lenAt und24 G
  refine WF_body Tryz.func146 (by kernel_rfl) rfl Tryz.ntmps146 (by rw [Tryz.results146]) (of_decide_eq_true (by kernel_rfl)) ?_
  simp (maxSteps:=999999) only [gx,Nat.reduceBEq,reduceEqDiff,reduceLT,reduceCtorEq,reduceAdd,reduceLeDiff,hF.at,hF.hp]
  generalize hH1 : HP H [Blk.row 34 5 [[.int .i64 k,.int .i64 ix,.str s,v,w]] 0 0] = H1
  have hb : H1.blk H.next = some (.row 34 5 [[.int .i64 k,.int .i64 ix,.str s,v,w]] 0 0):=by rw [← hH1,hp_blk0];rfl
  have hF1 : Free H1:=hH1 ▸ hF.hpF _
  have hU1 : Up H H1:=hH1 ▸ hF.hpU _
  refine loopStep' (fun env H'=>Up H1 H' ∧ Free H' ∧ ∃ i : Nat,i ≤ L.length ∧ env.at (.tmp 3) = .int .i64 i ∧ env.at (.tmp 1) = .ptr H.next 0 0 0 ∧ (L.take i).any (futureV n) = false)
   (fun env H'=>match env.at (.tmp 3) with | .int _ i=>((L.length : Int) - i).toNat | _=>0) ?_ ?_
  ·exact ⟨Up.refl _,hF1,0,Nat.zero_le _,by simp only [gx,Nat.reduceBEq,reduceEqDiff,reduceLT,reduceCtorEq,reduceAdd,reduceLeDiff];rfl,by simp only [gx,Nat.reduceBEq,reduceEqDiff,reduceLT,reduceCtorEq,reduceAdd,reduceLeDiff],by simp⟩
  ·rintro env3 H3 ⟨hU3,hF3,i,hi,e4,e1,hinv⟩
   have hb3:=hU3 _ _ hb
   by_cases hlt : i < L.length
   ·obtain ⟨c,hc⟩ : ∃ c,L[i]? = some c:=⟨_,List.getElem?_eq_getElem hlt⟩
    have hcm:=hvc c (List.mem_of_getElem? hc)
    simp (maxSteps:=999999) only [gx,Nat.reduceBEq,reduceEqDiff,reduceLT,reduceCtorEq,reduceAdd,reduceLeDiff,e4,e1,hb3,hlv,lt_true hlt,idx24 hv hc,hcm.len,hcm.tk]
    refine callStep (ih c hcm H3 hF3 _ fun H4 hU4 hF4=>?_)
    cases hs : futureV n c with
    | true=>
     have ha:=any_at hc hs
     simp only [ha,Bool.true_or] at hK
     simp (maxSteps:=999999) only [gx,Nat.reduceBEq,reduceEqDiff,reduceLT,reduceCtorEq,reduceAdd,reduceLeDiff,e4,e1]
     exact hK _ (hU1.trans (hU3.trans hU4)) hF4
    | false=>
     have ha:=any_take hc hinv hs
     simp (maxSteps:=999999) only [gx,Nat.reduceBEq,reduceEqDiff,reduceLT,reduceCtorEq,reduceAdd,reduceLeDiff,e4,e1,wrap_succ (i:=i) (by omega)]
     exact ⟨⟨hU3.trans hU4,hF4,i + 1,hlt,rfl,ha⟩,by omega⟩
   ·obtain rfl : i = L.length:=by omega
    rw [List.take_length] at hinv
    simp only [hinv,Bool.false_or] at hK
    simp (maxSteps:=999999) only [gx,Nat.reduceBEq,reduceEqDiff,reduceLT,reduceCtorEq,reduceAdd,reduceLeDiff,e4,e1,hb3,hlv,lt_false hlt]
    exact hK _ (hU1.trans hU3) hF3
def flatB (fu x0 x1 xp ss ll mm ml rs : Bool) (k : Int) : Bool:=
 if k = 0 then x0 && ss && !ll && !mm
 else if k = 1 then (x0 || x1) && ss && !ll && !mm
 else if k = 2 then ss && !ll && !mm
 else if k = 3 then x0 && !ll && !mm
 else if k = 4 then x0 && ss && !mm
 else if k = 5 then x0 && ss && ml && rs
 else if k = 6 then fu && xp && ss && !ll && !mm
 else false
def flatV (fu : Bool) (k ix : Int) (s : List Nat) (L M : List (List AV)) : Bool:=
 flatB fu (ix == 0) (ix == 1) (decide (ix ≥ 0)) (s == []) (decide ((L.length : Int) > 0)) (decide ((M.length : Int) > 0)) ((M.length : Int) == (L.length : Int)) (riseV M) k
def intV (cs : List AV) : Int:=match cs.getD 1 .undef with | .int _ k=>k | _=>0
def formedV (fu : Bool) : Nat → List AV → Bool
 | 0,_=>false
 | n + 1,cs=>flatV fu (kindV cs) (intV cs) (txtV cs) (itm (cs.getD 3 .undef)) (itm (cs.getD 4 .undef)) && !((itm (cs.getD 3 .undef)).any fun c=>!formedV fu n c)
theorem any_nil_of {L : List (List AV)} {q : List AV → Bool} (h : decide ((L.length : Int) > 0) = false) : L.any q = false:=by
 have : L = []:=by
  cases L with
  | nil=>rfl
  | cons a l=>simp at h
 rw [this];rfl
theorem nil23 (G : Heap) : evBuiltin Tryz.prog G .len #[23] [.nilslice] = some (.int .i64 0,G):=
 (show Holds G 1 .nilslice [] from ⟨by simp,.inl ⟨rfl,.inl rfl⟩⟩).lenAt und23 G
theorem nil24 (G : Heap) : evBuiltin Tryz.prog G .len #[24] [.nilslice] = some (.int .i64 0,G):=
 (show Holds G 5 .nilslice [] from ⟨by simp,.inl ⟨rfl,.inl rfl⟩⟩).lenAt und24 G
theorem lt00 : ((0 : Int) < 0) = False:=by simp
theorem f247_zero {w : AV} {M : List (List AV)} (hw : ∀ H,Holds H 1 w M) (H : Heap) (hF : Free H) (K : AV → Heap → Prop) (hK : ∀ H',Up H H' → Free H' → K (.bool ((M.length : Int) == 0)) H') : WF Tryz.prog 247 [w,.nilslice] H K:=by
 have hlw : ∀ G,evBuiltin Tryz.prog G .len #[23] [w] = some (.int .i64 M.length,G):=fun G=>(hw G).lenAt und23 G
 refine WF_body Tryz.func247 (by kernel_rfl) rfl Tryz.ntmps247 (by rw [Tryz.results247]) (of_decide_eq_true (by kernel_rfl)) ?_
 cases hm : ((M.length : Int) == 0) with
 | false=>
  have hmn : ((M.length : Int) != 0) = true:=by rw [bne,hm];rfl
  simp (maxSteps:=999999) only [gx,Nat.reduceBEq,reduceEqDiff,reduceLT,reduceCtorEq,reduceAdd,reduceLeDiff,hlw,nil23,hmn]
  rw [← hm];exact hK _ (Up.refl _) hF
 | true=>
  have hmn : ((M.length : Int) != 0) = false:=by rw [bne,hm];rfl
  have e0 : (M.length : Int) = 0:=by simpa using hm
  simp (maxSteps:=999999) only [gx,Nat.reduceBEq,reduceEqDiff,reduceLT,reduceCtorEq,reduceAdd,reduceLeDiff,hlw,nil23,hmn]
  refine loopStep' (fun env H'=>H' = H ∧ env.at (.tmp 13) = .int .i64 0 ∧ env.at (.tmp 12) = .int .i64 M.length) (fun _ _=>0) ?_ ?_
  ·exact ⟨rfl,by simp only [gx,Nat.reduceBEq,reduceEqDiff,reduceLT,reduceCtorEq,reduceAdd,reduceLeDiff],by simp only [gx,Nat.reduceBEq,reduceEqDiff,reduceLT,reduceCtorEq,reduceAdd,reduceLeDiff]⟩
  ·rintro env H' ⟨rfl,e13,e12⟩
   rw [e0] at e12
   simp (maxSteps:=999999) only [gx,Nat.reduceBEq,reduceEqDiff,reduceLT,reduceCtorEq,reduceAdd,reduceLeDiff,e13,e12,lt00]
   rw [← hm];exact hK _ (Up.refl _) hF
theorem f248_zero {v : AV} {L : List (List AV)} (hv : ∀ H,Holds H 5 v L) (fv : AV) (H : Heap) (hF : Free H) (K : AV → Heap → Prop) (hK : ∀ H',Up H H' → Free H' → K (.bool ((L.length : Int) == 0)) H') : WF Tryz.prog 248 [v,.nilslice,fv] H K:=by
 have hlv : ∀ G,evBuiltin Tryz.prog G .len #[24] [v] = some (.int .i64 L.length,G):=fun G=>(hv G).lenAt und24 G
 refine WF_body Tryz.func248 (by kernel_rfl) rfl Tryz.ntmps248 (by rw [Tryz.results248]) (of_decide_eq_true (by kernel_rfl)) ?_
 cases hm : ((L.length : Int) == 0) with
 | false=>
  have hmn : ((L.length : Int) != 0) = true:=by rw [bne,hm];rfl
  simp (maxSteps:=999999) only [gx,Nat.reduceBEq,reduceEqDiff,reduceLT,reduceCtorEq,reduceAdd,reduceLeDiff,hlv,nil24,hmn]
  rw [← hm];exact hK _ (Up.refl _) hF
 | true=>
  have hmn : ((L.length : Int) != 0) = false:=by rw [bne,hm];rfl
  have e0 : (L.length : Int) = 0:=by simpa using hm
  simp (maxSteps:=999999) only [gx,Nat.reduceBEq,reduceEqDiff,reduceLT,reduceCtorEq,reduceAdd,reduceLeDiff,hlv,nil24,hmn]
  refine loopStep' (fun env H'=>H' = H ∧ env.at (.tmp 17) = .int .i64 0 ∧ env.at (.tmp 16) = .int .i64 L.length) (fun _ _=>0) ?_ ?_
  ·exact ⟨rfl,by simp only [gx,Nat.reduceBEq,reduceEqDiff,reduceLT,reduceCtorEq,reduceAdd,reduceLeDiff],by simp only [gx,Nat.reduceBEq,reduceEqDiff,reduceLT,reduceCtorEq,reduceAdd,reduceLeDiff]⟩
  ·rintro env H' ⟨rfl,e13,e12⟩
   rw [e0] at e12
   simp (maxSteps:=999999) only [gx,Nat.reduceBEq,reduceEqDiff,reduceLT,reduceCtorEq,reduceAdd,reduceLeDiff,e13,e12,lt00]
   rw [← hm];exact hK _ (Up.refl _) hF
def zeroV (cs : List AV) : Bool:=(kindV cs == 0) && (intV cs == 0) && (txtV cs == []) && (((itm (cs.getD 4 .undef)).length : Int) == 0) && (((itm (cs.getD 3 .undef)).length : Int) == 0)
theorem f158_zero {n : Nat} {cs : List AV} (h : VT n cs) (H : Heap) (hF : Free H) (K : AV → Heap → Prop) (hK : ∀ H',Up H H' → Free H' → K (.bool (zeroV cs)) H') : WF Tryz.prog 158 [.agg cs,.agg [.int .i64 0,.int .i64 0,.str [],.nilslice,.nilslice]] H K:=by
 cases n with
 | zero=>exact h.elim
 | succ n=>
 obtain ⟨k,ix,s,v,w,L,M,rfl,hv,hvn,hvc,hw,hwn,hwc⟩:=h
 have e : zeroV [.int .i64 k,.int .i64 ix,.str s,v,w] = ((k == 0) && (ix == 0) && (s == []) && ((M.length : Int) == 0) && ((L.length : Int) == 0)):=by rw [← itm_eq hv,← itm_eq hw];rfl
 rw [e] at hK
 refine WF_body Tryz.func158 (by kernel_rfl) rfl Tryz.ntmps158 (by rw [Tryz.results158]) (of_decide_eq_true (by kernel_rfl)) ?_
 cases hk : (k == 0) with
 | false=>
  simp only [hk,Bool.false_and] at hK
  simp (maxSteps:=999999) only [gx,Nat.reduceBEq,reduceEqDiff,reduceLT,reduceCtorEq,reduceAdd,reduceLeDiff,hF.at,hF.hp,hk]
  exact hK _ (hF.hpU _) (hF.hpF _)
 | true=>
 cases hi : (ix == 0) with
 | false=>
  simp only [hk,hi,Bool.and_false,Bool.false_and] at hK
  simp (maxSteps:=999999) only [gx,Nat.reduceBEq,reduceEqDiff,reduceLT,reduceCtorEq,reduceAdd,reduceLeDiff,hF.at,hF.hp,hk,hi]
  exact hK _ (hF.hpU _) (hF.hpF _)
 | true=>
 cases hs : (s == []) with
 | false=>
  simp only [hk,hi,hs,Bool.and_false,Bool.false_and] at hK
  simp (maxSteps:=999999) only [gx,Nat.reduceBEq,reduceEqDiff,reduceLT,reduceCtorEq,reduceAdd,reduceLeDiff,hF.at,hF.hp,hk,hi,hs]
  exact hK _ (hF.hpU _) (hF.hpF _)
 | true=>
  simp only [hk,hi,hs,Bool.true_and] at hK
  simp (maxSteps:=999999) only [gx,Nat.reduceBEq,reduceEqDiff,reduceLT,reduceCtorEq,reduceAdd,reduceLeDiff,hF.at,hF.hp,hk,hi,hs]
  generalize hH1 : HP H [Blk.row 34 5 [[.int .i64 k,.int .i64 ix,.str s,v,w]] 0 0,Blk.row 34 5 [[.int .i64 0,.int .i64 0,.str [],.nilslice,.nilslice]] 0 0] = H1
  have hb : H1.blk H.next = some (.row 34 5 [[.int .i64 k,.int .i64 ix,.str s,v,w]] 0 0):=by rw [← hH1,hp_blk0];rfl
  have hb1 : H1.blk (H.next + 1) = some (.row 34 5 [[.int .i64 0,.int .i64 0,.str [],.nilslice,.nilslice]] 0 0):=by
   have : ¬ H.next + 1 < H.next:=by omega
   rw [← hH1];simp [HP,this]
  have hF1 : Free H1:=hH1 ▸ hF.hpF _
  have hU1 : Up H H1:=hH1 ▸ hF.hpU _
  refine callStep (f247_zero hw H1 hF1 _ fun H2 hU2 hF2=>?_)
  cases hm : ((M.length : Int) == 0) with
  | false=>
   simp only [hm,Bool.false_and] at hK
   simp (maxSteps:=999999) only [gx,Nat.reduceBEq,reduceEqDiff,reduceLT,reduceCtorEq,reduceAdd,reduceLeDiff]
   exact hK _ (hU1.trans hU2) hF2
  | true=>
   simp only [hm,Bool.true_and] at hK
   simp (maxSteps:=999999) only [gx,Nat.reduceBEq,reduceEqDiff,reduceLT,reduceCtorEq,reduceAdd,reduceLeDiff,hU2 _ _ hb,hU2 _ _ hb1]
   refine callStep (f248_zero hv _ H2 hF2 _ fun H3 hU3 hF3=>?_)
   simp (maxSteps:=999999) only [gx,Nat.reduceBEq,reduceEqDiff,reduceLT,reduceCtorEq,reduceAdd,reduceLeDiff]
   exact hK _ (hU1.trans (hU2.trans hU3)) hF3
theorem f36_zero {n : Nat} {cs : List AV} (h : VT n cs) (H : Heap) (hF : Free H) (K : AV → Heap → Prop) (hK : ∀ H',Up H H' → Free H' → K (.bool (zeroV cs)) H') : WF Tryz.prog 36 [.agg cs,.agg [.int .i64 0,.int .i64 0,.str [],.nilslice,.nilslice]] H K:=by
 cases n with
 | zero=>exact h.elim
 | succ n=>
 obtain ⟨k,ix,s,v,w,L,M,rfl,hv,hvn,hvc,hw,hwn,hwc⟩:=h
 have e : zeroV [.int .i64 k,.int .i64 ix,.str s,v,w] = ((k == 0) && (ix == 0) && (s == []) && ((M.length : Int) == 0) && ((L.length : Int) == 0)):=by rw [← itm_eq hv,← itm_eq hw];rfl
 rw [e] at hK
 have hlv : ∀ G,evBuiltin Tryz.prog G .len #[24] [v] = some (.int .i64 L.length,G):=fun G=>(hv G).lenAt und24 G
 have hlw : ∀ G,evBuiltin Tryz.prog G .len #[23] [w] = some (.int .i64 M.length,G):=fun G=>(hw G).lenAt und23 G
 refine WF_body Tryz.func36 (by kernel_rfl) rfl Tryz.ntmps36 (by rw [Tryz.results36]) (of_decide_eq_true (by kernel_rfl)) ?_
 cases hk : (k == 0) with
 | false=>
  have hkn : (k != 0) = true:=by rw [bne,hk];rfl
  simp only [hk,Bool.and_false,Bool.false_and] at hK
  simp (maxSteps:=999999) only [gx,Nat.reduceBEq,reduceEqDiff,reduceLT,reduceCtorEq,reduceAdd,reduceLeDiff,hF.at,hF.hp,hlv,hlw,nil23,nil24,hkn]
  exact hK _ (hF.hpU _) (hF.hpF _)
 | true=>
 have hkn : (k != 0) = false:=by rw [bne,hk];rfl
 cases hi : (ix == 0) with
 | false=>
  have hin : (ix != 0) = true:=by rw [bne,hi];rfl
  simp only [hk,hi,Bool.and_false,Bool.false_and] at hK
  simp (maxSteps:=999999) only [gx,Nat.reduceBEq,reduceEqDiff,reduceLT,reduceCtorEq,reduceAdd,reduceLeDiff,hF.at,hF.hp,hlv,hlw,nil23,nil24,hkn,hin]
  exact hK _ (hF.hpU _) (hF.hpF _)
 | true=>
 have hin : (ix != 0) = false:=by rw [bne,hi];rfl
 cases hs : (s == []) with
 | false=>
  have hsn : (s != []) = true:=by rw [bne,hs];rfl
  simp only [hk,hi,hs,Bool.and_false,Bool.false_and] at hK
  simp (maxSteps:=999999) only [gx,Nat.reduceBEq,reduceEqDiff,reduceLT,reduceCtorEq,reduceAdd,reduceLeDiff,hF.at,hF.hp,hlv,hlw,nil23,nil24,hkn,hin,hs,Bool.not_true,Bool.not_false]
  exact hK _ (hF.hpU _) (hF.hpF _)
 | true=>
 have hsn : (s != []) = false:=by rw [bne,hs];rfl
 cases hl : ((L.length : Int) == 0) with
 | false=>
  have hln : ((L.length : Int) != 0) = true:=by rw [bne,hl];rfl
  simp only [hk,hi,hs,hl,Bool.and_false,Bool.false_and] at hK
  simp (maxSteps:=999999) only [gx,Nat.reduceBEq,reduceEqDiff,reduceLT,reduceCtorEq,reduceAdd,reduceLeDiff,hF.at,hF.hp,hlv,hlw,nil23,nil24,hkn,hin,hs,Bool.not_true,Bool.not_false,hln]
  exact hK _ (hF.hpU _) (hF.hpF _)
 | true=>
 have hln : ((L.length : Int) != 0) = false:=by rw [bne,hl];rfl
 cases hm : ((M.length : Int) == 0) with
 | false=>
  have hmn : ((M.length : Int) != 0) = true:=by rw [bne,hm];rfl
  simp only [hk,hi,hs,hl,hm,Bool.and_false,Bool.false_and] at hK
  simp (maxSteps:=999999) only [gx,Nat.reduceBEq,reduceEqDiff,reduceLT,reduceCtorEq,reduceAdd,reduceLeDiff,hF.at,hF.hp,hlv,hlw,nil23,nil24,hkn,hin,hs,Bool.not_true,Bool.not_false,hln,hmn]
  exact hK _ (hF.hpU _) (hF.hpF _)
 | true=>
 have hmn : ((M.length : Int) != 0) = false:=by rw [bne,hm];rfl
 have eL : (L.length : Int) = 0:=by simpa using hl
 have eM : (M.length : Int) = 0:=by simpa using hm
 simp only [hk,hi,hs,hl,hm,Bool.and_self] at hK
 simp (maxSteps:=999999) only [gx,Nat.reduceBEq,reduceEqDiff,reduceLT,reduceCtorEq,reduceAdd,reduceLeDiff,hF.at,hF.hp,hlv,hlw,nil23,nil24,hkn,hin,hln,hmn,hs,Bool.not_true,Bool.not_false]
 generalize hH1 : HP H [Blk.row 34 5 [[.int .i64 k,.int .i64 ix,.str s,v,w]] 0 0,Blk.row 34 5 [[.int .i64 0,.int .i64 0,.str [],.nilslice,.nilslice]] 0 0] = H1
 have hb : H1.blk H.next = some (.row 34 5 [[.int .i64 k,.int .i64 ix,.str s,v,w]] 0 0):=by rw [← hH1,hp_blk0];rfl
 have hF1 : Free H1:=hH1 ▸ hF.hpF _
 have hU1 : Up H H1:=hH1 ▸ hF.hpU _
 refine loopStep' (fun env H'=>H' = H1 ∧ env.at (.tmp 5) = .int .i64 0 ∧ env.at (.tmp 2) = .ptr H.next 0 0 0) (fun _ _=>0) ?_ ?_
 ·exact ⟨rfl,by simp only [gx,Nat.reduceBEq,reduceEqDiff,reduceLT,reduceCtorEq,reduceAdd,reduceLeDiff],by simp only [gx,Nat.reduceBEq,reduceEqDiff,reduceLT,reduceCtorEq,reduceAdd,reduceLeDiff]⟩
 ·rintro env H' ⟨rfl,e5,e2⟩
  simp (maxSteps:=999999) only [gx,Nat.reduceBEq,reduceEqDiff,reduceLT,reduceCtorEq,reduceAdd,reduceLeDiff,e5,e2,hb,hlw,eM,lt00]
  refine loopStep' (fun env H2=>H2 = H' ∧ env.at (.tmp 6) = .int .i64 0 ∧ env.at (.tmp 2) = .ptr H.next 0 0 0) (fun _ _=>0) ?_ ?_
  ·exact ⟨rfl,by simp only [gx,Nat.reduceBEq,reduceEqDiff,reduceLT,reduceCtorEq,reduceAdd,reduceLeDiff],by simp only [gx,Nat.reduceBEq,reduceEqDiff,reduceLT,reduceCtorEq,reduceAdd,reduceLeDiff,e2]⟩
  ·rintro env H2 ⟨rfl,e6,e2⟩
   simp (maxSteps:=999999) only [gx,Nat.reduceBEq,reduceEqDiff,reduceLT,reduceCtorEq,reduceAdd,reduceLeDiff,e6,e2,hb,hlv,eL,lt00]
   exact hK _ hU1 hF1
end Go.Proofs.T
