import Derived.Test.YtjlmgabhhodhfaaGreatDoorX4X10
set_option linter.unusedVariables false
set_option linter.unusedSimpArgs false
set_option maxRecDepth 100000
namespace Go.Proofs.T
open Go.Ev
open Nat (reduceMul reducePow reduceSub reduceEqDiff reduceLT reduceAdd reduceLeDiff)
open UInt8 (reduceToNat)
theorem hp_blk1 {H : Heap} {xs : List Blk} : (HP H xs).blk (H.next + 1) = xs[1]?:=by
 have : ¬ H.next + 1 < H.next:=by omega
 simp [HP,this]
set_option maxHeartbeats 8000000 in
theorem f142_ok (fu : Bool) : ∀ (n : Nat) (cs : List AV),VT n cs → ∀ (H : Heap) (hF : Free H) (K : AV → Heap → Prop) (hK : ∀ H',Up H H' → Free H' → K (.bool (formedV fu n cs)) H'),WF Tryz.prog 142 [.agg cs,.bool fu] H K:=by
 intro n
 induction n with
 | zero=>intro cs h;exact h.elim
 | succ n ih=>
  intro cs h H hF K hK
  obtain ⟨k,ix,s,v,w,L,M,rfl,hv,hvn,hvc,hw,hwn,hwc⟩:=h
  have e : formedV fu (n + 1) [.int .i64 k,.int .i64 ix,.str s,v,w] = (flatV fu k ix s L M && !(L.any fun c=>!formedV fu n c)):=by rw [← itm_eq hv,← itm_eq hw];rfl
  rw [e] at hK
  unfold flatV at hK
  have hlv : ∀ G,evBuiltin Tryz.prog G .len #[24] [v] = some (.int .i64 L.length,G):=fun G=>(hv G).lenAt und24 G
  have hlw : ∀ G,evBuiltin Tryz.prog G .len #[23] [w] = some (.int .i64 M.length,G):=fun G=>(hw G).lenAt und23 G
  have h240 : ∀ c,VT n c → ∀ (b : Nat) (G : Heap),G.blk b = some (.row 4 1 [[.bool fu]] 0 0) → Free G → ∀ K,(∀ G',Up G G' → Free G' → K (.bool (!formedV fu n c)) G') → WF Tryz.prog 240 [.agg c,.ptr b 0 0 0] G K:=fun c hc b G hb hG K hK=>by
   have hold : ∀ xs,(HP G xs).blk b = some (.row 4 1 [[.bool fu]] 0 0):=fun xs=>hG.hpU xs _ _ hb
   refine WF_body Tryz.func240 (by kernel_rfl) rfl Tryz.ntmps240 (by rw [Tryz.results240]) (of_decide_eq_true (by kernel_rfl)) ?_
   simp (maxSteps:=999999) only [gx,Nat.reduceBEq,reduceEqDiff,reduceLT,reduceCtorEq,reduceAdd,reduceLeDiff,hG.at,hG.hp,hc.len,hc.tk,hold]
   refine callStep (ih c hc _ (hG.hpF _) _ fun G2 hU2 hF2=>?_)
   simp (maxSteps:=999999) only [gx,Nat.reduceBEq,reduceEqDiff,reduceLT,reduceCtorEq,reduceAdd,reduceLeDiff]
   exact hK _ ((hG.hpU _).trans hU2) hF2
  have hany:=@any_nil_of L (fun c=>!formedV fu n c)
  refine WF_body Tryz.func142 (by kernel_rfl) rfl Tryz.ntmps142 (by rw [Tryz.results142]) (of_decide_eq_true (by kernel_rfl)) ?_
  generalize hx0 : (ix == 0) = x0 at hK
  generalize hx1 : (ix == 1) = x1 at hK
  generalize hxp : decide (ix ≥ 0) = xp at hK
  generalize hss : (s == []) = ss at hK
  generalize hll : decide ((L.length : Int) > 0) = ll at hK hany
  generalize hmm : decide ((M.length : Int) > 0) = mm at hK
  generalize hml : ((M.length : Int) == (L.length : Int)) = ml at hK
  generalize hrs : riseV M = rs at hK
  have hx0n : (ix != 0) = !x0:=by rw [← hx0];rfl
  have hmln : ((M.length : Int) != (L.length : Int)) = !ml:=by rw [← hml];rfl
  simp (maxSteps:=999999) only [gx,Nat.reduceBEq,reduceEqDiff,reduceLT,reduceCtorEq,reduceAdd,reduceLeDiff,hF.at,hF.hp,hlv,hlw,hx0n,hss,hll,hmm]
  generalize hH1 : HP H [Blk.row 34 5 [[.int .i64 k,.int .i64 ix,.str s,v,w]] 0 0,Blk.row 4 1 [[.bool fu]] 0 0] = H1
  have hb : H1.blk H.next = some (.row 34 5 [[.int .i64 k,.int .i64 ix,.str s,v,w]] 0 0):=by rw [← hH1,hp_blk0];rfl
  have hb1 : H1.blk (H.next + 1) = some (.row 4 1 [[.bool fu]] 0 0):=by rw [← hH1,hp_blk1];rfl
  have hF1 : Free H1:=hH1 ▸ hF.hpF _
  have hU1 : Up H H1:=hH1 ▸ hF.hpU _
  have fin : ∀ (b : Bool),(flatB fu x0 x1 xp ss ll mm ml rs k && !(L.any fun c=>!formedV fu n c)) = b → K (.bool b) H1:=fun b hb=>hb ▸ hK _ hU1 hF1
  by_cases k0 : k = 0
  ·subst k0
   have q0 : ((0 : Int) == 0) = true:=by decide
   have q1 : ((0 : Int) == 1) = false:=by decide
   have q2 : ((0 : Int) == 2) = false:=by decide
   have q3 : ((0 : Int) == 3) = false:=by decide
   have q4 : ((0 : Int) == 4) = false:=by decide
   have q5 : ((0 : Int) == 5) = false:=by decide
   have q6 : ((0 : Int) == 6) = false:=by decide
   cases x0 <;> cases ss <;> cases ll <;> cases mm <;> simp (maxSteps:=999999) only [gx,Nat.reduceBEq,reduceEqDiff,reduceLT,reduceCtorEq,reduceAdd,reduceLeDiff,hb,hb1,hlv,hlw,q0,q1,q2,q3,q4,q5,q6,hx0,hx1,hxp,hss,hll,hmm,hml] <;> (first | exact fin _ (by rfl) | exact fin _ (by rw [hany rfl];rfl))
  by_cases k1 : k = 1
  ·subst k1
   have q0 : ((1 : Int) == 0) = false:=by decide
   have q1 : ((1 : Int) == 1) = true:=by decide
   have q2 : ((1 : Int) == 2) = false:=by decide
   have q3 : ((1 : Int) == 3) = false:=by decide
   have q4 : ((1 : Int) == 4) = false:=by decide
   have q5 : ((1 : Int) == 5) = false:=by decide
   have q6 : ((1 : Int) == 6) = false:=by decide
   cases x0 <;> cases x1 <;> cases ss <;> cases ll <;> cases mm <;> simp (maxSteps:=999999) only [gx,Nat.reduceBEq,reduceEqDiff,reduceLT,reduceCtorEq,reduceAdd,reduceLeDiff,hb,hb1,hlv,hlw,q0,q1,q2,q3,q4,q5,q6,hx0,hx1,hxp,hss,hll,hmm,hml] <;> (first | exact fin _ (by rfl) | exact fin _ (by rw [hany rfl];rfl))
  by_cases k2 : k = 2
  ·subst k2
   have q0 : ((2 : Int) == 0) = false:=by decide
   have q1 : ((2 : Int) == 1) = false:=by decide
   have q2 : ((2 : Int) == 2) = true:=by decide
   have q3 : ((2 : Int) == 3) = false:=by decide
   have q4 : ((2 : Int) == 4) = false:=by decide
   have q5 : ((2 : Int) == 5) = false:=by decide
   have q6 : ((2 : Int) == 6) = false:=by decide
   cases ss <;> cases ll <;> cases mm <;> simp (maxSteps:=999999) only [gx,Nat.reduceBEq,reduceEqDiff,reduceLT,reduceCtorEq,reduceAdd,reduceLeDiff,hb,hb1,hlv,hlw,q0,q1,q2,q3,q4,q5,q6,hx0,hx1,hxp,hss,hll,hmm,hml] <;> (first | exact fin _ (by rfl) | exact fin _ (by rw [hany rfl];rfl))
  by_cases k3 : k = 3
  ·subst k3
   have q0 : ((3 : Int) == 0) = false:=by decide
   have q1 : ((3 : Int) == 1) = false:=by decide
   have q2 : ((3 : Int) == 2) = false:=by decide
   have q3 : ((3 : Int) == 3) = true:=by decide
   have q4 : ((3 : Int) == 4) = false:=by decide
   have q5 : ((3 : Int) == 5) = false:=by decide
   have q6 : ((3 : Int) == 6) = false:=by decide
   cases x0 <;> cases ll <;> cases mm <;> simp (maxSteps:=999999) only [gx,Nat.reduceBEq,reduceEqDiff,reduceLT,reduceCtorEq,reduceAdd,reduceLeDiff,hb,hb1,hlv,hlw,q0,q1,q2,q3,q4,q5,q6,hx0,hx1,hxp,hss,hll,hmm,hml] <;> (first | exact fin _ (by rfl) | exact fin _ (by rw [hany rfl];rfl))
  by_cases k6 : k = 6
  ·subst k6
   have q0 : ((6 : Int) == 0) = false:=by decide
   have q1 : ((6 : Int) == 1) = false:=by decide
   have q2 : ((6 : Int) == 2) = false:=by decide
   have q3 : ((6 : Int) == 3) = false:=by decide
   have q4 : ((6 : Int) == 4) = false:=by decide
   have q5 : ((6 : Int) == 5) = false:=by decide
   have q6 : ((6 : Int) == 6) = true:=by decide
   cases fu <;> cases xp <;> cases ss <;> cases ll <;> cases mm <;> simp (maxSteps:=999999) only [gx,Nat.reduceBEq,reduceEqDiff,reduceLT,reduceCtorEq,reduceAdd,reduceLeDiff,hb,hb1,hlv,hlw,q0,q1,q2,q3,q4,q5,q6,hx0,hx1,hxp,hss,hll,hmm,hml] <;> (first | exact fin _ (by rfl) | exact fin _ (by rw [hany rfl];rfl))
  by_cases k4 : k = 4
  ·subst k4
   have q0 : ((4 : Int) == 0) = false:=by decide
   have q1 : ((4 : Int) == 1) = false:=by decide
   have q2 : ((4 : Int) == 2) = false:=by decide
   have q3 : ((4 : Int) == 3) = false:=by decide
   have q4 : ((4 : Int) == 4) = true:=by decide
   have q5 : ((4 : Int) == 5) = false:=by decide
   have q6 : ((4 : Int) == 6) = false:=by decide
   cases x0 <;> cases ss <;> cases mm <;> simp (maxSteps:=999999) only [gx,Nat.reduceBEq,reduceEqDiff,reduceLT,reduceCtorEq,reduceAdd,reduceLeDiff,hb,hb1,hlv,hlw,q0,q1,q2,q3,q4,q5,q6,hx0,hx1,hxp,hss,hll,hmm,hml]
   case true.true.false=>
     refine callStep (f126_ok hv hvn (fun c hc=>(hvc c hc).len) (fun c=>!formedV fu n c) 240 [] [.ptr (H.next + 1) 0 0 0] _ hF1 (fun c hc G hU hG K hK=>h240 c (hvc c hc) (H.next + 1) G (hU _ _ hb1) hG K hK) _ fun H3 hU3 hF3=>?_)
     simp (maxSteps:=999999) only [gx,Nat.reduceBEq,reduceEqDiff,reduceLT,reduceCtorEq,reduceAdd,reduceLeDiff]
     have:=hK _ (hU1.trans hU3) hF3
     simpa [flatB] using this
   all_goals (first | exact fin _ (by rfl) | exact fin _ (by rw [hany rfl];rfl))
  by_cases k5 : k = 5
  ·subst k5
   have q0 : ((5 : Int) == 0) = false:=by decide
   have q1 : ((5 : Int) == 1) = false:=by decide
   have q2 : ((5 : Int) == 2) = false:=by decide
   have q3 : ((5 : Int) == 3) = false:=by decide
   have q4 : ((5 : Int) == 4) = false:=by decide
   have q5 : ((5 : Int) == 5) = true:=by decide
   have q6 : ((5 : Int) == 6) = false:=by decide
   cases x0 <;> cases ss <;> cases ml <;> simp (maxSteps:=999999) only [gx,Nat.reduceBEq,reduceEqDiff,reduceLT,reduceCtorEq,reduceAdd,reduceLeDiff,hb,hb1,hlv,hlw,q0,q1,q2,q3,q4,q5,q6,hx0,hx1,hxp,hss,hll,hmm,hml,hmln]
   case true.true.true=>
     refine callStep (f239_ok H1 hF1 hw hwn hwc _ ?_)
     rw [hrs]
     cases rs <;> simp (maxSteps:=999999) only [gx,Nat.reduceBEq,reduceEqDiff,reduceLT,reduceCtorEq,reduceAdd,reduceLeDiff,hb]
     case false=>(first | exact fin _ (by rfl) | exact fin _ (by rw [hany rfl];rfl))
     refine callStep (f126_ok hv hvn (fun c hc=>(hvc c hc).len) (fun c=>!formedV fu n c) 240 [] [.ptr (H.next + 1) 0 0 0] _ hF1 (fun c hc G hU hG K hK=>h240 c (hvc c hc) (H.next + 1) G (hU _ _ hb1) hG K hK) _ fun H3 hU3 hF3=>?_)
     simp (maxSteps:=999999) only [gx,Nat.reduceBEq,reduceEqDiff,reduceLT,reduceCtorEq,reduceAdd,reduceLeDiff]
     have:=hK _ (hU1.trans hU3) hF3
     simpa [flatB] using this
   all_goals (first | exact fin _ (by rfl) | exact fin _ (by rw [hany rfl];rfl))
  have q0 : (k == 0) = false:=by simpa using k0
  have q1 : (k == 1) = false:=by simpa using k1
  have q2 : (k == 2) = false:=by simpa using k2
  have q3 : (k == 3) = false:=by simpa using k3
  have q4 : (k == 4) = false:=by simpa using k4
  have q5 : (k == 5) = false:=by simpa using k5
  have q6 : (k == 6) = false:=by simpa using k6
  simp (maxSteps:=999999) only [gx,Nat.reduceBEq,reduceEqDiff,reduceLT,reduceCtorEq,reduceAdd,reduceLeDiff,q0,q1,q2,q3,q4,q5,q6]
  exact fin _ (by simp [flatB,k0,k1,k2,k3,k4,k5,k6])
end Go.Proofs.T
