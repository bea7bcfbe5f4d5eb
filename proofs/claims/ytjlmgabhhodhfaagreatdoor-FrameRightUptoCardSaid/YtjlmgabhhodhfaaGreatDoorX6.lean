import Derived.Test.YtjlmgabhhodhfaaGreatDoorX4X10
set_option linter.unusedVariables false
set_option linter.unusedSimpArgs false
set_option maxRecDepth 100000
namespace Go.Proofs.T
open Go.Ev
open Nat (reduceMul reducePow reduceSub reduceEqDiff reduceLT reduceAdd reduceLeDiff)
open UInt8 (reduceToNat)
theorem len0 (n : Nat) : ((n : Int) == 0) = !decide ((n : Int) > 0):=by
 cases n with
 | zero=>rfl
 | succ n=>simp;omega
set_option maxHeartbeats 8000000 in
theorem f25_ok : ∀ (n : Nat) (cs : List AV),VT n cs → ∀ (H : Heap) (hF : Free H) (K : AV → Heap → Prop) (hK : ∀ H',Up H H' → Free H' → K (.bool (formedV true n cs)) H'),WF Tryz.prog 25 [.agg cs] H K:=by
 intro n
 induction n with
 | zero=>intro cs h;exact h.elim
 | succ n ih=>
  intro cs h H hF K hK
  obtain ⟨k,ix,s,v,w,L,M,rfl,hv,hvn,hvc,hw,hwn,hwc⟩:=h
  have e : formedV true (n + 1) [.int .i64 k,.int .i64 ix,.str s,v,w] = (flatV true k ix s L M && !(L.any fun c=>!formedV true n c)):=by rw [← itm_eq hv,← itm_eq hw];rfl
  rw [e] at hK
  have hlv : ∀ G,evBuiltin Tryz.prog G .len #[24] [v] = some (.int .i64 L.length,G):=fun G=>(hv G).lenAt und24 G
  have hlw : ∀ G,evBuiltin Tryz.prog G .len #[23] [w] = some (.int .i64 M.length,G):=fun G=>(hw G).lenAt und23 G
  refine WF_body Tryz.func25 (by kernel_rfl) rfl Tryz.ntmps25 (by rw [Tryz.results25]) (of_decide_eq_true (by kernel_rfl)) ?_
  simp (maxSteps:=999999) only [gx,Nat.reduceBEq,reduceEqDiff,reduceLT,reduceCtorEq,reduceAdd,reduceLeDiff,hF.at,hF.hp]
  generalize hH1 : HP H [Blk.row 34 5 [[.int .i64 k,.int .i64 ix,.str s,v,w]] 0 0] = H1
  have hb : H1.blk H.next = some (.row 34 5 [[.int .i64 k,.int .i64 ix,.str s,v,w]] 0 0):=by rw [← hH1,hp_blk0];rfl
  have hF1 : Free H1:=hH1 ▸ hF.hpF _
  have hU1 : Up H H1:=hH1 ▸ hF.hpU _
  refine loopStepR (fun env H'=>Up H1 H' ∧ Free H' ∧ ∃ i : Nat,i ≤ L.length ∧ env.at (.tmp 3) = .int .i64 i ∧ env.at (.tmp 1) = .ptr H.next 0 0 0 ∧ (L.take i).any (fun c=>!formedV true n c) = false)
   (fun env H'=>match env.at (.tmp 3) with | .int _ i=>((L.length : Int) - i).toNat | _=>0)
   (fun ex env H'=>Up H1 H' ∧ Free H' ∧ (ex = .exit 0 ∧ env.at (.tmp 1) = .ptr H.next 0 0 0 ∧ L.any (fun c=>!formedV true n c) = false ∨ ex = .ret ∧ env.at (.tmp 2) = .bool false ∧ L.any (fun c=>!formedV true n c) = true)) ?_ ?_ ?_
  ·exact ⟨Up.refl _,hF1,0,Nat.zero_le _,by simp only [gx,Nat.reduceBEq,reduceEqDiff,reduceLT,reduceCtorEq,reduceAdd,reduceLeDiff];rfl,by simp only [gx,Nat.reduceBEq,reduceEqDiff,reduceLT,reduceCtorEq,reduceAdd,reduceLeDiff],by simp⟩
  ·rintro env3 H3 ⟨hU3,hF3,i,hi,e4,e1,hinv⟩
   have hb3:=hU3 _ _ hb
   by_cases hlt : i < L.length
   ·obtain ⟨c,hc⟩ : ∃ c,L[i]? = some c:=⟨_,List.getElem?_eq_getElem hlt⟩
    have hcm:=hvc c (List.mem_of_getElem? hc)
    simp (maxSteps:=999999) only [gx,Nat.reduceBEq,reduceEqDiff,reduceLT,reduceCtorEq,reduceAdd,reduceLeDiff,e4,e1,hb3,hlv,lt_true hlt,idx24 hv hc,hcm.len,hcm.tk]
    refine callStep (ih c hcm H3 hF3 _ fun H4 hU4 hF4=>?_)
    cases hs : formedV true n c with
    | false=>
     have ha:=any_at (p:=fun c=>!formedV true n c) hc (by simp only [hs];rfl)
     simp (maxSteps:=999999) only [gx,Nat.reduceBEq,reduceEqDiff,reduceLT,reduceCtorEq,reduceAdd,reduceLeDiff]
     exact ⟨hU3.trans hU4,hF4,.inr ha⟩
    | true=>
     have ha:=any_take (p:=fun c=>!formedV true n c) hc hinv (by simp only [hs];rfl)
     simp (maxSteps:=999999) only [gx,Nat.reduceBEq,reduceEqDiff,reduceLT,reduceCtorEq,reduceAdd,reduceLeDiff,e4,e1,wrap_succ (i:=i) (by omega)]
     exact ⟨⟨hU3.trans hU4,hF4,i + 1,hlt,rfl,ha⟩,by omega⟩
   ·obtain rfl : i = L.length:=by omega
    rw [List.take_length] at hinv
    simp (maxSteps:=999999) only [gx,Nat.reduceBEq,reduceEqDiff,reduceLT,reduceCtorEq,reduceAdd,reduceLeDiff,e4,e1,hb3,hlv,lt_false hlt]
    exact ⟨hU3,hF3,.inl hinv⟩
  ·rintro ex env G ⟨hUG,hFG,⟨rfl,e1,ha⟩ | ⟨rfl,e2,ha⟩⟩
   case inr=>
    simp (maxSteps:=999999) only [gx,Nat.reduceBEq,reduceEqDiff,reduceLT,reduceCtorEq,reduceAdd,reduceLeDiff,e2]
    have:=hK _ (hU1.trans hUG) hFG
    rw [ha,Bool.not_true,Bool.and_false] at this
    exact this
   have hbG:=hUG _ _ hb
   have hU:=hU1.trans hUG
   simp only [ha,Bool.not_false,Bool.and_true] at hK
   unfold flatV at hK
   generalize hx0 : (ix == 0) = x0 at hK
   generalize hx1 : (ix == 1) = x1 at hK
   generalize hxp : decide (ix ≥ 0) = xp at hK
   generalize hss : (s == []) = ss at hK
   have hl0:=len0 L.length
   have hm0:=len0 M.length
   generalize hll : decide ((L.length : Int) > 0) = ll at hK hl0
   generalize hmm : decide ((M.length : Int) > 0) = mm at hK hm0
   generalize hml : ((M.length : Int) == (L.length : Int)) = ml at hK
   generalize hrs : riseV M = rs at hK
   have fin : ∀ (b : Bool),flatB true x0 x1 xp ss ll mm ml rs k = b → K (.bool b) G:=fun b hb=>hb ▸ hK _ hU hFG
   by_cases k0 : k = 0
   ·subst k0
    have q0 : ((0 : Int) == 0) = true:=by decide
    have q1 : ((0 : Int) == 1) = false:=by decide
    have q2 : ((0 : Int) == 2) = false:=by decide
    have q3 : ((0 : Int) == 3) = false:=by decide
    have q4 : ((0 : Int) == 4) = false:=by decide
    have q5 : ((0 : Int) == 5) = false:=by decide
    have q6 : ((0 : Int) == 6) = false:=by decide
    cases x0 <;> cases ss <;> cases ll <;> cases mm <;> simp (maxSteps:=999999) only [gx,Nat.reduceBEq,reduceEqDiff,reduceLT,reduceCtorEq,reduceAdd,reduceLeDiff,hbG,e1,hlv,hlw,q0,q1,q2,q3,q4,q5,q6,hx0,hx1,hxp,hss,hl0,hm0,hml] <;> exact fin _ (by rfl)
   by_cases k1 : k = 1
   ·subst k1
    have q0 : ((1 : Int) == 0) = false:=by decide
    have q1 : ((1 : Int) == 1) = true:=by decide
    have q2 : ((1 : Int) == 2) = false:=by decide
    have q3 : ((1 : Int) == 3) = false:=by decide
    have q4 : ((1 : Int) == 4) = false:=by decide
    have q5 : ((1 : Int) == 5) = false:=by decide
    have q6 : ((1 : Int) == 6) = false:=by decide
    cases x0 <;> cases x1 <;> cases ss <;> cases ll <;> cases mm <;> simp (maxSteps:=999999) only [gx,Nat.reduceBEq,reduceEqDiff,reduceLT,reduceCtorEq,reduceAdd,reduceLeDiff,hbG,e1,hlv,hlw,q0,q1,q2,q3,q4,q5,q6,hx0,hx1,hxp,hss,hl0,hm0,hml] <;> exact fin _ (by rfl)
   by_cases k2 : k = 2
   ·subst k2
    have q0 : ((2 : Int) == 0) = false:=by decide
    have q1 : ((2 : Int) == 1) = false:=by decide
    have q2 : ((2 : Int) == 2) = true:=by decide
    have q3 : ((2 : Int) == 3) = false:=by decide
    have q4 : ((2 : Int) == 4) = false:=by decide
    have q5 : ((2 : Int) == 5) = false:=by decide
    have q6 : ((2 : Int) == 6) = false:=by decide
    cases ss <;> cases ll <;> cases mm <;> simp (maxSteps:=999999) only [gx,Nat.reduceBEq,reduceEqDiff,reduceLT,reduceCtorEq,reduceAdd,reduceLeDiff,hbG,e1,hlv,hlw,q0,q1,q2,q3,q4,q5,q6,hx0,hx1,hxp,hss,hl0,hm0,hml] <;> exact fin _ (by rfl)
   by_cases k3 : k = 3
   ·subst k3
    have q0 : ((3 : Int) == 0) = false:=by decide
    have q1 : ((3 : Int) == 1) = false:=by decide
    have q2 : ((3 : Int) == 2) = false:=by decide
    have q3 : ((3 : Int) == 3) = true:=by decide
    have q4 : ((3 : Int) == 4) = false:=by decide
    have q5 : ((3 : Int) == 5) = false:=by decide
    have q6 : ((3 : Int) == 6) = false:=by decide
    cases x0 <;> cases ll <;> cases mm <;> simp (maxSteps:=999999) only [gx,Nat.reduceBEq,reduceEqDiff,reduceLT,reduceCtorEq,reduceAdd,reduceLeDiff,hbG,e1,hlv,hlw,q0,q1,q2,q3,q4,q5,q6,hx0,hx1,hxp,hss,hl0,hm0,hml] <;> exact fin _ (by rfl)
   by_cases k4 : k = 4
   ·subst k4
    have q0 : ((4 : Int) == 0) = false:=by decide
    have q1 : ((4 : Int) == 1) = false:=by decide
    have q2 : ((4 : Int) == 2) = false:=by decide
    have q3 : ((4 : Int) == 3) = false:=by decide
    have q4 : ((4 : Int) == 4) = true:=by decide
    have q5 : ((4 : Int) == 5) = false:=by decide
    have q6 : ((4 : Int) == 6) = false:=by decide
    cases x0 <;> cases ss <;> cases mm <;> simp (maxSteps:=999999) only [gx,Nat.reduceBEq,reduceEqDiff,reduceLT,reduceCtorEq,reduceAdd,reduceLeDiff,hbG,e1,hlv,hlw,q0,q1,q2,q3,q4,q5,q6,hx0,hx1,hxp,hss,hl0,hm0,hml] <;> exact fin _ (by rfl)
   by_cases k6 : k = 6
   ·subst k6
    have q0 : ((6 : Int) == 0) = false:=by decide
    have q1 : ((6 : Int) == 1) = false:=by decide
    have q2 : ((6 : Int) == 2) = false:=by decide
    have q3 : ((6 : Int) == 3) = false:=by decide
    have q4 : ((6 : Int) == 4) = false:=by decide
    have q5 : ((6 : Int) == 5) = false:=by decide
    have q6 : ((6 : Int) == 6) = true:=by decide
    cases xp <;> cases ss <;> cases ll <;> cases mm <;> simp (maxSteps:=999999) only [gx,Nat.reduceBEq,reduceEqDiff,reduceLT,reduceCtorEq,reduceAdd,reduceLeDiff,hbG,e1,hlv,hlw,q0,q1,q2,q3,q4,q5,q6,hx0,hx1,hxp,hss,hl0,hm0,hml] <;> exact fin _ (by rfl)
   by_cases k5 : k = 5
   ·subst k5
    have q0 : ((5 : Int) == 0) = false:=by decide
    have q1 : ((5 : Int) == 1) = false:=by decide
    have q2 : ((5 : Int) == 2) = false:=by decide
    have q3 : ((5 : Int) == 3) = false:=by decide
    have q4 : ((5 : Int) == 4) = false:=by decide
    have q5 : ((5 : Int) == 5) = true:=by decide
    have q6 : ((5 : Int) == 6) = false:=by decide
    cases x0 <;> cases ss <;> cases ml <;> simp (maxSteps:=999999) only [gx,Nat.reduceBEq,reduceEqDiff,reduceLT,reduceCtorEq,reduceAdd,reduceLeDiff,hbG,e1,hlv,hlw,q0,q1,q2,q3,q4,q5,q6,hx0,hx1,hxp,hss,hl0,hm0,hml]
    case true.true.true=>
     refine callStep (f62_ok G hFG hw hwn hwc _ ?_)
     rw [hrs]
     simp (maxSteps:=999999) only [gx,Nat.reduceBEq,reduceEqDiff,reduceLT,reduceCtorEq,reduceAdd,reduceLeDiff]
     exact fin _ (by rfl)
    all_goals exact fin _ (by rfl)
   have q0 : (k == 0) = false:=by simpa using k0
   have q1 : (k == 1) = false:=by simpa using k1
   have q2 : (k == 2) = false:=by simpa using k2
   have q3 : (k == 3) = false:=by simpa using k3
   have q4 : (k == 4) = false:=by simpa using k4
   have q5 : (k == 5) = false:=by simpa using k5
   have q6 : (k == 6) = false:=by simpa using k6
   simp (maxSteps:=999999) only [gx,Nat.reduceBEq,reduceEqDiff,reduceLT,reduceCtorEq,reduceAdd,reduceLeDiff,e1,hbG,q0,q1,q2,q3,q4,q5,q6]
   exact fin _ (by simp [flatB,k0,k1,k2,k3,k4,k5,k6])
end Go.Proofs.T
