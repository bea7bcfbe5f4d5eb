import Derived.Test.YtjlmgabhhodhfaaGreatDoorEvYEvZ
import Derived.IntWalk
set_option linter.unusedVariables false
set_option linter.unusedSimpArgs false
namespace Go.Ev


inductive KItem where
 | code (c : Code)
 | blk (id : Nat)

section
variable (P : Program)

def After (n : Nat) : List KItem → Ex → Env → Heap → (Ex → Env → Heap → Prop) → Prop
 | [],ex,env,H,Q=>Q ex env H
 | .code c :: ks,.normal,env,H,Q=>WC P n c env H fun ex env H=>After n ks ex env H Q
 | .code c :: ks,.exit i,env,H,Q=>After n ks (.exit i) env H Q
 | .code c :: ks,.ret,env,H,Q=>After n ks .ret env H Q
 | .blk id :: ks,.exit i,env,H,Q=>if i = id then After n ks .normal env H Q else After n ks (.exit i) env H Q
 | .blk id :: ks,.normal,env,H,Q=>After n ks .normal env H Q
 | .blk id :: ks,.ret,env,H,Q=>After n ks .ret env H Q

def AfterOps (Kp : Kept) (n : Nat) (ops : Array Oper) (l : List (Oper × Bool)) (ks : List KItem) (env : Env) (H : Heap) (Q : Ex → Env → Heap → Prop) : Prop:=
 WS P Kp n ops l env H fun env H=>After P n ks .normal env H Q

def OpStep (Kp : Kept) (n : Nat) (ops : Array Oper) (d : Option Tmp) (fl : Bool) (res : Option (AV × Heap)) (l : List (Oper × Bool)) (ks : List KItem) (env : Env) (H : Heap) (Q : Ex → Env → Heap → Prop) : Prop:=
 match res with
 | some (r,H1)=>(H1.next = H.next ∨ H.blk H.next = none) ∧ (fl = true → UpB H.blk H1.blk) ∧ AfterOps P Kp n ops l ks (env.put d r) H1 Q
 | none=>False

def OpStepK (K : (Nat → Prop) × Bool) (n : Nat) (ops : Array Oper) (o : Oper) (l : List (Oper × Bool)) (ks : List KItem) (env : Env) (H : Heap) (Q : Ex → Env → Heap → Prop) : Prop:=
 match evOp P env.at o H with
 | some (r,H1)=>(H1.next = H.next ∨ H.blk H.next = none) ∧ FlOp P (some K) o env H r H1 ∧ AfterOps P (some K) n ops l ks (env.put o.dst r) H1 Q
 | none=>False

def CallStep (Kp : Kept) (n : Nat) (ops : Array Oper) (d : Option Tmp) (fl : Bool) (f : AV) (args : List AV) (l : List (Oper × Bool)) (ks : List KItem) (env : Env) (H : Heap) (Q : Ex → Env → Heap → Prop) : Prop:=
 WCall P f args H fun r H1=>(fl = true → UpO Kp H.blk H1.blk) ∧ AfterOps P Kp n ops l ks (env.put d r) H1 Q

def DrawStep (n : Nat) (ops : Array Oper) (ks : List KItem) (env : Env) (H : Heap) (Q : Ex → Env → Heap → Prop) : Prop:=
 WC P n (.region 0 ops true) env H fun ex env H=>After P n ks ex env H Q

def LoopStep (n : Nat) (c : Code) (ks : List KItem) (env : Env) (H : Heap) (Q : Ex → Env → Heap → Prop) : Prop:=
 WC P n (.loop c) env H fun ex env H=>After P n ks ex env H Q

def CondStep (n : Nat) (c : AV) (a b : Code) (ks : List KItem) (env : Env) (H : Heap) (Q : Ex → Env → Heap → Prop) : Prop:=
 match c with
 | .bool t=>if t = true then After P n (.code a :: ks) .normal env H Q else After P n (.code b :: ks) .normal env H Q
 | _=>False

def GuardStep (Kp : Kept) (n : Nat) (ops : Array Oper) (o : Oper) (fl : Bool) (w : Option Bool) (l : List (Oper × Bool)) (ks : List KItem) (env : Env) (H : Heap) (Q : Ex → Env → Heap → Prop) : Prop:=
 match w with
 | some true=>AfterOps P Kp n ops (({ o with guard:=none },fl) :: l) ks env H Q
 | some false=>AfterOps P Kp n ops l ks (env.put o.dst (.tuple [])) H Q
 | none=>False

variable {P} {Kp : Kept} {n : Nat} {ks : List KItem} {env : Env} {H : Heap} {Q : Ex → Env → Heap → Prop} {ops : Array Oper} {l : List (Oper × Bool)}

theorem WC_mono {n : Nat} : ∀ (c : Code) {env : Env} {H : Heap} {Q Q' : Ex → Env → Heap → Prop},(∀ ex env H,Q ex env H → Q' ex env H) → WC P n c env H Q → WC P n c env H Q':=by
 have WSm : ∀ {Kp : Kept} (ops : Array Oper) (l : List (Oper × Bool)) {env : Env} {H : Heap} {K K' : Env → Heap → Prop},(∀ env H,K env H → K' env H) → WS P Kp n ops l env H K → WS P Kp n ops l env H K':=by
  intro Kp ops l
  induction l with
  | nil=>intro env H K K' hk h;exact hk _ _ h
  | cons p l ih=>
   obtain ⟨o,fl⟩:=p
   intro env H K K' hk h
   simp only [WS] at h ⊢
   split at h
   ·exact ih hk h
   ·split at h
    ·unfold WCall at h ⊢
     split at h
     ·obtain ⟨r,H1,h1,h2,h3⟩:=h;exact ⟨r,H1,h1,h2,ih hk h3⟩
     ·exact h
    ·split at h
     ·exact ⟨h.1,h.2.1,ih hk h.2.2⟩
     ·exact h
   ·exact h
 intro c
 induction c with
 | skip=>intro env H Q Q' hq h;exact hq _ _ _ h
 | label l=>intro env H Q Q' hq h;exact hq _ _ _ h
 | region id ops d=>
  intro env H Q Q' hq h
  cases d
  ·exact WSm _ _ (hq _) h
  ·simp only [WC] at h ⊢
   obtain ⟨Kp,fs,base,h1,h2⟩:=h
   exact ⟨Kp,fs,base,h1,WSm _ _ (hq _) h2⟩
 | seq a b iha ihb=>
  intro env H Q Q' hq h
  simp only [WC] at h ⊢
  refine iha (fun ex env H h=>?_) h
  cases ex with
  | normal=>exact ihb hq h
  | exit i=>exact hq _ _ _ h
  | ret=>exact hq _ _ _ h
 | cond c a b iha ihb=>
  intro env H Q Q' hq h
  simp only [WC] at h ⊢
  split at h
  ·split at h
   ·rename_i e;rw [if_pos e];exact iha hq h
   ·rename_i e;rw [if_neg e];exact ihb hq h
  ·exact h
 | block id c ih=>
  intro env H Q Q' hq h
  simp only [WC] at h ⊢
  refine ih (fun ex env H h=>?_) h
  cases ex with
  | normal=>exact hq _ _ _ h
  | exit i=>
   simp only at h ⊢
   split at h
   ·rename_i e;rw [if_pos e];exact hq _ _ _ h
   ·rename_i e;rw [if_neg e];exact hq _ _ _ h
  | ret=>exact hq _ _ _ h
 | loop c ih=>
  intro env H Q Q' hq h
  simp only [WC] at h ⊢
  obtain ⟨ex,env',H',h1,h2⟩:=h
  exact ⟨ex,env',H',h1,hq _ _ _ h2⟩
 | exit id=>intro env H Q Q' hq h;exact hq _ _ _ h
 | ret=>intro env H Q Q' hq h;exact hq _ _ _ h
 | scope c ih=>
  intro env H Q Q' hq h
  simp only [WC] at h ⊢
  exact ih hq h
 | _=>intro env H Q Q' hq h;simp [WC] at h

theorem after_seq {a b : Code} : After P n (.code (.seq a b) :: ks) .normal env H Q = After P n (.code a :: .code b :: ks) .normal env H Q:=by
 simp only [After,WC]
 congr 1
 funext ex env H
 cases ex <;> rfl
theorem after_skip : After P n (.code .skip :: ks) .normal env H Q = After P n ks .normal env H Q:=rfl
theorem after_label {l : Nat} : After P n (.code (.label l) :: ks) .normal env H Q = After P n ks .normal env H Q:=rfl
theorem after_exit {i : Nat} : After P n (.code (.exit i) :: ks) .normal env H Q = After P n ks (.exit i) env H Q:=rfl
theorem after_ret : After P n (.code .ret :: ks) .normal env H Q = After P n ks .ret env H Q:=rfl
theorem after_code_exit {c : Code} {i : Nat} : After P n (.code c :: ks) (.exit i) env H Q = After P n ks (.exit i) env H Q:=rfl
theorem after_code_ret {c : Code} : After P n (.code c :: ks) .ret env H Q = After P n ks .ret env H Q:=rfl
theorem after_blk {i : Nat} : After P n (.blk i :: ks) .normal env H Q = After P n ks .normal env H Q:=rfl
theorem after_blk_ret {i : Nat} : After P n (.blk i :: ks) .ret env H Q = After P n ks .ret env H Q:=rfl
theorem after_blk_exit {i j : Nat} : After P n (.blk i :: ks) (.exit j) env H Q = if j = i then After P n ks .normal env H Q else After P n ks (.exit j) env H Q:=rfl
theorem after_nil {ex : Ex} : After P n [] ex env H Q = Q ex env H:=by cases ex <;> rfl
theorem after_block {i : Nat} {c : Code} : After P n (.code (.block i c) :: ks) .normal env H Q = After P n (.code c :: .blk i :: ks) .normal env H Q:=by
 simp only [After,WC]
 congr 1
 funext ex env H
 cases ex <;> rfl
theorem after_cond {c : Operand} {a b : Code} : After P n (.code (.cond c a b) :: ks) .normal env H Q = CondStep P n (env.at c) a b ks env H Q:=by
 simp only [After,WC,CondStep]
 cases env.at c <;> rfl
theorem condStep_true {a b : Code} : CondStep P n (.bool true) a b ks env H Q = After P n (.code a :: ks) .normal env H Q:=rfl
theorem condStep_false {a b : Code} : CondStep P n (.bool false) a b ks env H Q = After P n (.code b :: ks) .normal env H Q:=rfl
theorem after_region {id : Nat} : After P n (.code (.region id ops false) :: ks) .normal env H Q = AfterOps P none n ops (plain ops) ks env H Q:=rfl
theorem after_draw {id : Nat} : After P n (.code (.region id ops true) :: ks) .normal env H Q = DrawStep P n ops ks env H Q:=rfl
theorem after_scope {c : Code} : After P n (.code (.scope c) :: ks) .normal env H Q = After P n (.code c :: ks) .normal env H Q:=by simp only [After,WC]
theorem after_loop {c : Code} : After P n (.code (.loop c) :: ks) .normal env H Q = LoopStep P n c ks env H Q:=rfl

theorem afterOps_nil : AfterOps P Kp n ops [] ks env H Q = After P n ks .normal env H Q:=rfl

theorem opStep_some {d : Option Tmp} {r : AV} {H1 : Heap} : OpStep P Kp n ops d false (some (r,H1)) l ks env H Q = ((H1.next = H.next ∨ H.blk H.next = none) ∧ AfterOps P Kp n ops l ks (env.put d r) H1 Q):=by
 simp [OpStep]
theorem opStep_flag {d : Option Tmp} {r : AV} {H1 : Heap} : OpStep P Kp n ops d true (some (r,H1)) l ks env H Q = ((H1.next = H.next ∨ H.blk H.next = none) ∧ UpB H.blk H1.blk ∧ AfterOps P Kp n ops l ks (env.put d r) H1 Q):=by
 simp [OpStep]

def here : Op → Bool
 | .call { callee:=.value _,.. }=>false
 | _=>true

def HereStep (P : Program) (Kp : Kept) (n : Nat) (ops : Array Oper) (d : Option Tmp) (op : Op) (ty : TypeId) (pos : String) (af : Array Edge) (fl : Bool) (h : Bool) (l : List (Oper × Bool)) (ks : List KItem) (env : Env) (H : Heap) (Q : Ex → Env → Heap → Prop) : Prop:=
 match h with
 | true=>(match fl,Kp with
  | true,some K=>OpStepK P K n ops ⟨d,op,ty,pos,af,none⟩ l ks env H Q
  | fl,Kp=>OpStep P Kp n ops d fl (evOp P env.at ⟨d,op,ty,pos,af,none⟩ H) l ks env H Q)
 | false=>match op with
  | .call ⟨.value f,args,_⟩=>CallStep P Kp n ops d fl (env.at f) (args.toList.map env.at) l ks env H Q
  | _=>False

theorem afterOps_op {d : Option Tmp} {op : Op} {ty : TypeId} {pos : String} {af : Array Edge} {fl : Bool} (hd : dstOk n d = true) :
  AfterOps P Kp n ops ((⟨d,op,ty,pos,af,none⟩,fl) :: l) ks env H Q = HereStep P Kp n ops d op ty pos af fl (here op) l ks env H Q:=by
 cases hh : here op with
 | true=>
  unfold AfterOps HereStep
  rw [WS]
  simp only [wantedA,hd]
  split
  ·cases hh
  ·cases fl with
   | false=>
    unfold OpStep
    cases evOp P env.at ⟨d,op,ty,pos,af,none⟩ H <;> simp [AfterOps]
   | true=>
    cases Kp with
    | none=>
     unfold OpStep
     cases evOp P env.at ⟨d,op,ty,pos,af,none⟩ H <;> simp [AfterOps,FlOp]
    | some K=>
     unfold OpStepK
     cases evOp P env.at ⟨d,op,ty,pos,af,none⟩ H <;> simp [AfterOps]
 | false=>
  unfold HereStep
  simp only
  split
  ·unfold AfterOps CallStep
   rw [WS]
   simp only [wantedA,hd]
   rfl
  ·rename_i hne
   unfold here at hh
   split at hh
   ·rename_i f args ts;exact absurd rfl (hne f args ts)
   ·cases hh

theorem hereStep_true {d : Option Tmp} {op : Op} {ty : TypeId} {pos : String} {af : Array Edge} :
  HereStep P Kp n ops d op ty pos af false true l ks env H Q = OpStep P Kp n ops d false (evOp P env.at ⟨d,op,ty,pos,af,none⟩ H) l ks env H Q:=rfl
theorem hereStep_flag {d : Option Tmp} {op : Op} {ty : TypeId} {pos : String} {af : Array Edge} :
  HereStep P none n ops d op ty pos af true true l ks env H Q = OpStep P none n ops d true (evOp P env.at ⟨d,op,ty,pos,af,none⟩ H) l ks env H Q:=rfl
theorem hereStep_K {K : (Nat → Prop) × Bool} {d : Option Tmp} {op : Op} {ty : TypeId} {pos : String} {af : Array Edge} :
  HereStep P (some K) n ops d op ty pos af true true l ks env H Q = OpStepK P K n ops ⟨d,op,ty,pos,af,none⟩ l ks env H Q:=rfl

theorem opStepK_read {K : (Nat → Prop) × Bool} {o : Oper} (r : AV) (h : ∀ (G : Blks) (m : Nat),UpO (some K) H.blk G → evOp P env.at o ⟨G,m⟩ = some (r,⟨G,m⟩)) (hA : AfterOps P (some K) n ops l ks (env.put o.dst r) H Q) : OpStepK P K n ops o l ks env H Q:=by
 unfold OpStepK
 have:=h H.blk H.next (UpO.refl _)
 rw [show (⟨H.blk,H.next⟩ : Heap) = H from rfl] at this
 rw [this]
 exact ⟨.inl rfl,⟨UpO.refl _,fun _ G m hG=>h G m hG⟩,hA⟩
theorem hereStep_false {d : Option Tmp} {f : Operand} {args : Array Operand} {ts : Array TypeId} {ty : TypeId} {pos : String} {af : Array Edge} {fl : Bool} :
  HereStep P Kp n ops d (.call ⟨.value f,args,ts⟩) ty pos af fl false l ks env H Q = CallStep P Kp n ops d fl (env.at f) (args.toList.map env.at) l ks env H Q:=rfl

theorem afterOps_guard {d : Option Tmp} {op : Op} {ty : TypeId} {pos : String} {af : Array Edge} {fl : Bool} {g : Nat × Bool} (hd : dstOk n d = true) :
  AfterOps P Kp n ops ((⟨d,op,ty,pos,af,some g⟩,fl) :: l) ks env H Q = GuardStep P Kp n ops ⟨d,op,ty,pos,af,some g⟩ fl (wantedA ops env ⟨d,op,ty,pos,af,some g⟩) l ks env H Q:=by
 unfold AfterOps GuardStep
 rw [WS]
 simp only [hd]
 have key : ∀ ρ : Operand → AV,evOp P ρ ⟨d,op,ty,pos,af,some g⟩ H = evOp P ρ ⟨d,op,ty,pos,af,none⟩ H:=fun ρ=>rfl
 have key2 : ∀ r H1,FlOp P Kp ⟨d,op,ty,pos,af,some g⟩ env H r H1 = FlOp P Kp ⟨d,op,ty,pos,af,none⟩ env H r H1:=fun r H1=>by cases Kp <;> rfl
 cases wantedA ops env ⟨d,op,ty,pos,af,some g⟩ with
 | none=>rfl
 | some b=>
  cases b with
  | false=>rfl
  | true=>
   simp only [AfterOps]
   rw [WS]
   simp only [wantedA,hd,key,key2]

theorem guardStep_true {o : Oper} {fl : Bool} : GuardStep P Kp n ops o fl (some true) l ks env H Q = AfterOps P Kp n ops (({ o with guard:=none },fl) :: l) ks env H Q:=rfl
theorem guardStep_false {o : Oper} {fl : Bool} : GuardStep P Kp n ops o fl (some false) l ks env H Q = AfterOps P Kp n ops l ks (env.put o.dst (.tuple [])) H Q:=rfl

theorem callStep {d : Option Tmp} {f : FuncId} {fs cs args : List AV} (h : WF P f (fs ++ args ++ cs) H fun r H1=>AfterOps P Kp n ops l ks (env.put d r) H1 Q) : CallStep P Kp n ops d false (.func (.func f) fs cs) args l ks env H Q:=by
 unfold CallStep WCall
 exact h.mono fun r H1 h=>⟨by simp,h⟩
theorem callStep_flag {d : Option Tmp} {f : FuncId} {fs cs args : List AV} (h : WF P f (fs ++ args ++ cs) H fun r H1=>UpO Kp H.blk H1.blk ∧ AfterOps P Kp n ops l ks (env.put d r) H1 Q) : CallStep P Kp n ops d true (.func (.func f) fs cs) args l ks env H Q:=by
 unfold CallStep WCall
 exact h.mono fun r H1 h=>⟨fun _=>h.1,h.2⟩

theorem drawStep (fs base : List Nat) (l : List (Oper × Bool)) (hl : laid ops fs base = l) (hok : drawOk P ops fs.contains base = true) (h : AfterOps P none n ops l ks env H Q) : DrawStep P n ops ks env H Q:=by
 unfold DrawStep
 simp only [WC]
 exact ⟨none,fs,base,hok,hl ▸ h⟩

theorem drawStepK (K : Nat → Prop) (fs base : List Nat) (l : List (Oper × Bool)) (hl : laid ops fs base = l) (hok : drawOkE P true false ops fs.contains base = true) (h : AfterOps P (some (K,false)) n ops l ks env H Q) : DrawStep P n ops ks env H Q:=by
 unfold DrawStep
 simp only [WC]
 exact ⟨some (K,false),fs,base,hok,hl ▸ h⟩

theorem loopStep {c : Code} (I : Env → Heap → Prop) (μ : Env → Heap → Nat) (h0 : I env H)
  (round : ∀ env H,I env H → After P n [.code c] .normal env H fun ex env' H'=>match ex with | .normal=>I env' H' ∧ μ env' H' < μ env H | ex=>After P n ks ex env' H' Q) : LoopStep P n c ks env H Q:=by
 unfold LoopStep
 simp only [WC]
 refine WL_of P I μ (fun ex env H=>After P n ks ex env H Q) (fun env H hI=>?_) env H h0
 have:=round env H hI
 simp only [After] at this
 refine WC_mono c (fun ex env H h=>?_) this
 cases ex <;> exact h

def RoundEnd (P : Program) (n : Nat) (I : Env → Heap → Prop) (μ : Env → Heap → Nat) (m : Nat) (ks : List KItem) (Q : Ex → Env → Heap → Prop) (ex : Ex) (env : Env) (H : Heap) : Prop:=
 match ex with
 | .normal=>I env H ∧ μ env H < m
 | ex=>After P n ks ex env H Q

theorem roundEnd_normal {I : Env → Heap → Prop} {μ : Env → Heap → Nat} {m : Nat} : RoundEnd P n I μ m ks Q .normal env H = (I env H ∧ μ env H < m):=rfl
theorem roundEnd_exit {I : Env → Heap → Prop} {μ : Env → Heap → Nat} {m i : Nat} : RoundEnd P n I μ m ks Q (.exit i) env H = After P n ks (.exit i) env H Q:=rfl
theorem roundEnd_ret {I : Env → Heap → Prop} {μ : Env → Heap → Nat} {m : Nat} : RoundEnd P n I μ m ks Q .ret env H = After P n ks .ret env H Q:=rfl

theorem loopStep' {c : Code} (I : Env → Heap → Prop) (μ : Env → Heap → Nat) (h0 : I env H)
  (round : ∀ env H,I env H → After P n [.code c] .normal env H (RoundEnd P n I μ (μ env H) ks Q)) : LoopStep P n c ks env H Q:=
 loopStep I μ h0 fun env H hI=>by
  have:=round env H hI
  simp only [After] at this ⊢
  refine WC_mono c (fun ex env H h=>?_) this
  cases ex <;> exact h

def FinR (res : Option AV) (H : Heap) (K : AV → Heap → Prop) : Prop:=
 match res with
 | some r=>K r H
 | none=>False
def Fin (P : Program) (rs : List ResultVar) (K : AV → Heap → Prop) (ex : Ex) (env : Env) (H : Heap) : Prop:=
 match ex with
 | .normal=>FinR (evResults P rs env H) H K
 | .ret=>FinR (evResults P rs env H) H K
 | .exit _=>False
theorem fin_normal {rs : List ResultVar} {K : AV → Heap → Prop} : Fin P rs K .normal env H = FinR (evResults P rs env H) H K:=rfl
theorem fin_ret {rs : List ResultVar} {K : AV → Heap → Prop} : Fin P rs K .ret env H = FinR (evResults P rs env H) H K:=rfl
theorem finR_some {r : AV} {K : AV → Heap → Prop} : FinR (some r) H K = K r H:=rfl

theorem WF_body {f : FuncId} {fn : Func} {c : Code} {args : List AV} {H : Heap} {K : AV → Heap → Prop} (hf : P.funcs[f]? = some fn) (hn : (fn.name == "runtime.NumGoroutine") = false) (hb : fn.body = some c) {nt : Nat} (hnt : fn.ntmps = nt) {rs : List ResultVar} (hrs : fn.results.toList = rs) (ha : args.length ≤ nt)
  (h : After P nt [.code c] .normal (Env.ofArgs args) H (Fin P rs K)) : WF P f args H K:=by
 subst hnt hrs
 refine WF_of P hf hn hb ha ?_
 simp only [After] at h
 refine WC_mono c (fun ex env H h=>?_) h
 cases ex with
 | normal=>simp only [Fin,FinR] at h ⊢;cases hr : evResults P fn.results.toList env H <;> simp_all
 | ret=>simp only [Fin,FinR] at h ⊢;cases hr : evResults P fn.results.toList env H <;> simp_all
 | exit i=>exact h.elim

theorem dstOk_none : dstOk n none = true:=by simp [dstOk]
theorem dstOk_some {d : Nat} (h : decide (d < n) = true) : dstOk n (some d) = true:=h
theorem put_at {d t : Nat} {v : AV} : Env.at (Env.put env (some d) v) (.tmp t) = if t = d then v else Env.at env (.tmp t):=rfl
theorem put_none {v : AV} : Env.put env none v = env:=rfl
theorem at_const {v : Value} : Env.at env (.const v) = avOf v:=rfl
theorem at_func {f : FuncId} : Env.at env (.func f) = .func (.func f) [] []:=rfl
theorem args_at {args : List AV} {t : Nat} : Env.at (Env.ofArgs args) (.tmp t) = args.getD t .undef:=rfl
theorem evResult_tmp {t : Nat} : evResult P env H (.tmp t) = some (Env.at env (.tmp t)):=rfl

def HP (H : Heap) (xs : List Blk) : Heap:=⟨fun b=>if b < H.next then H.blk b else xs[b - H.next]?,H.next + xs.length⟩

theorem Free.hp {H : Heap} (h : Free H) (x : Blk) : H.push x = HP H [x]:=Heap.ext' (fun i=>by
 simp only [Heap.push,HP]
 by_cases h1 : i = H.next
 ·subst h1;simp
 ·rw [if_neg h1]
  by_cases h2 : i < H.next
  ·rw [if_pos h2]
  ·rw [if_neg h2,h i (by omega)]
   rw [List.getElem?_eq_none];simp;omega) rfl
theorem hp_push {H : Heap} {xs : List Blk} {y : Blk} : (HP H xs).push y = HP H (xs ++ [y]):=Heap.ext' (fun i=>by
 show (if i = H.next + xs.length then some y else if i < H.next then H.blk i else xs[i - H.next]?) = (if i < H.next then H.blk i else (xs ++ [y])[i - H.next]?)
 by_cases h1 : i = H.next + xs.length
 ·subst h1;rw [if_pos rfl,if_neg (by omega)];simp
 ·rw [if_neg h1]
  by_cases h2 : i < H.next
  ·rw [if_pos h2,if_pos h2]
  ·rw [if_neg h2,if_neg h2]
   by_cases h3 : i - H.next < xs.length
   ·rw [List.getElem?_append_left h3]
   ·rw [List.getElem?_eq_none (by omega),List.getElem?_eq_none (by simp;omega)]) (by simp [HP,Heap.push];omega)
theorem hp_next {H : Heap} {xs : List Blk} : (HP H xs).next = H.next + xs.length:=rfl
theorem hp_blk0 {H : Heap} {xs : List Blk} : (HP H xs).blk H.next = xs[0]?:=by simp [HP]
theorem hp_blk {H : Heap} {xs : List Blk} {k : Nat} : (HP H xs).blk (H.next + k) = xs[k]?:=by
 show (if H.next + k < H.next then H.blk (H.next + k) else xs[H.next + k - H.next]?) = xs[k]?
 rw [if_neg (by omega),Nat.add_sub_cancel_left]
theorem hp_set0 {H : Heap} {xs : List Blk} {y : Blk} (h : 0 < xs.length) : (HP H xs).set H.next y = HP H (xs.set 0 y):=Heap.ext' (fun i=>by
 simp only [HP,Heap.set]
 by_cases h1 : i = H.next
 ·subst h1;simp [h]
 ·rw [if_neg h1]
  by_cases h2 : i < H.next
  ·rw [if_pos h2,if_pos h2]
  ·rw [if_neg h2,if_neg h2,List.getElem?_set_ne (by omega)]) (by simp [HP,Heap.set])
theorem hp_set {H : Heap} {xs : List Blk} {k : Nat} {y : Blk} (h : k < xs.length) : (HP H xs).set (H.next + k) y = HP H (xs.set k y):=Heap.ext' (fun i=>by
 simp only [HP,Heap.set]
 by_cases h1 : i = H.next + k
 ·subst h1;rw [if_pos rfl,if_neg (by omega),Nat.add_sub_cancel_left,List.getElem?_set_self h]
 ·rw [if_neg h1]
  by_cases h2 : i < H.next
  ·rw [if_pos h2,if_pos h2]
  ·rw [if_neg h2,if_neg h2,List.getElem?_set_ne (by omega)]) (by simp [HP,Heap.set])
theorem Free.hpF {H : Heap} (h : Free H) (xs : List Blk) : Free (HP H xs):=⟨fun b hb=>by
 have hb' : H.next + xs.length ≤ b:=hb
 simp only [HP]
 rw [if_neg (by omega),List.getElem?_eq_none (by omega)],fun b hb=>by
 have:=h.base
 simp only [HP]
 rw [if_pos (by omega)];exact h.low b hb,Nat.le_trans h.base (Nat.le_add_right _ _)⟩
theorem Free.hpU {H : Heap} (h : Free H) (xs : List Blk) : Up H (HP H xs):=fun b x hb=>by
 simp only [HP]
 rw [if_pos (h.lt hb).2];exact hb

def placesOf (P : Program) (t : TypeId) : Option (List (Nat × Nat)):=
 match P.underlying t with
 | some (.struct fs)=>fs.toList.mapM fun f=>(szOf P f.type).map fun s=>(f.offset,s)
 | _=>none

theorem fillA_congr {p q : Nat → Option (Nat × Nat)} (h : ∀ i,p i = q i) : ∀ (parts : List (Nat × AV)) (cells : List AV),fillA p cells parts = fillA q cells parts
 | [],cells=>rfl
 | (i,v) :: rest,cells=>by
  simp only [fillA,h i]
  split
  ·rfl
  ·split
   ·exact fillA_congr h rest _
   ·rfl

theorem evBuild_struct {t : TypeId} {zc : List AV} {ps : List (Nat × Nat)} (hz : zeroOf P t = some (.agg zc)) (hp : placesOf P t = some ps) (parts : List (Nat × AV)) : evBuild P t parts = (fillA (fun i=>ps[i]?) zc parts).map .agg:=by
 unfold placesOf at hp
 split at hp
 ·rename_i fs hu
  obtain ⟨h1,h2⟩:=mapM_some_iff hp
  have hall : fs.all (fun f=>(szOf P f.type).isSome) = true:=by
   rw [Array.all_eq_true_iff_forall_mem]
   intro f hf
   obtain ⟨i,hi,rfl⟩:=Array.mem_iff_getElem.1 hf
   obtain ⟨b,hb,_⟩:=h2 i fs[i] (by simp)
   obtain ⟨s,hs,_⟩:=map_some_eq hb
   simp [hs]
  unfold evBuild
  rw [hz,hu]
  simp only [AV.isUndef,Bool.false_eq_true,if_false,hall,if_true,AV.cells]
  congr 1
  refine fillA_congr (fun i=>?_) _ _
  by_cases hi : i < fs.size
  ·obtain ⟨b,hb,hb'⟩:=h2 i fs[i] (by simp)
   rw [hb']
   simp [hi,hb]
  ·rw [List.getElem?_eq_none (by rw [h1];simpa using hi)]
   simp [hi]
 ·cases hp

end
end Go.Ev
set_option linter.unusedVariables false
set_option linter.unusedSimpArgs false
namespace Go.Ev
section
variable {P : Program}

def WBool (w : Bool) (v : AV) : Option Bool:=match v with | .bool b=>some (b == w) | .tuple []=>some false | _=>none
def WStep (w : Bool) (d : Option Tmp) (env : Env) : Option Bool:=match d with | some d=>WBool w (env.at (.tmp d)) | none=>none
theorem wantedA_guard {ops : Array Oper} {env : Env} {d : Option Tmp} {op : Op} {ty : TypeId} {pos : String} {af : Array Edge} {j : Nat} {w : Bool} : wantedA ops env ⟨d,op,ty,pos,af,some (j,w)⟩ = WStep w ((ops[j]?).bind (·.dst)) env:=by
 simp only [wantedA,WStep,WBool,Env.at]
 rfl
theorem wstep_some {w : Bool} {d : Tmp} {env : Env} : WStep w (some d) env = WBool w (env.at (.tmp d)):=rfl
theorem wbool_off {w : Bool} : WBool w (.tuple []) = some false:=rfl
theorem wbool_true {b : Bool} : WBool true (.bool b) = some b:=by cases b <;> rfl
theorem wbool_false {b : Bool} : WBool false (.bool b) = some (!b):=by cases b <;> rfl

theorem load_ptr {H : Heap} {b i o g n : Nat} : H.load (.ptr b i o g) n = (match H.blk b with
  | some (.row _ esz els _ wgen)=>
   if wgen ≤ g ∧ o + n ≤ esz then
    match els[i]? with
    | some cs=>some ((cs.drop o).take n)
    | none=>none
   else none
  | _=>none):=rfl
theorem load_iptr {H : Heap} {cs : List AV} {o n : Nat} : H.load (.iptr cs o) n = if o + n ≤ cs.length then some ((cs.drop o).take n) else none:=rfl

theorem Holds.lenAt {H : Heap} {esz : Nat} {v : AV} {L : List (List AV)} (h : Holds H esz v L) {t e : TypeId} (ht : P.underlying t = some (.slice e)) (G : Heap) : evBuiltin P G .len #[t] [v] = some (.int .i64 L.length,G):=by
 obtain ⟨h0,⟨rfl,rfl | rfl⟩ | rfl | ⟨b,off,cap,ex,g,ty,els,gen,wgen,rfl,h2,h3⟩⟩:=h <;> simp [evBuiltin,ht]

theorem len_str {t : TypeId} (ht : P.underlying t = some .string) (G : Heap) (s : List Nat) : evBuiltin P G .len #[t] [.str s] = some (.int .i64 s.length,G):=by simp [evBuiltin,ht]
theorem len_slice {t e : TypeId} (ht : P.underlying t = some (.slice e)) (G : Heap) (b o l c : Nat) (ex : Bool) (g : Nat) : evBuiltin P G .len #[t] [.slice b o l c ex g] = some (.int .i64 l,G):=by simp [evBuiltin,ht]

theorem wrap_succ {i : Nat} (h : i < 2 ^ 62) : IntKind.i64.wrap ((i : Int) + 1) = ((i + 1 : Nat) : Int):=by
 rw [IntWalk.i64_in _ (by omega)];omega

theorem lt_true {i n : Nat} (h : i < n) : ((i : Int) < (n : Int)) = True:=by simp;exact h
theorem lt_false {i n : Nat} (h : ¬ i < n) : ((i : Int) < (n : Int)) = False:=by simp;omega

theorem holds_hp {H : Heap} {xs : List Blk} {k n esz ty : Nat} {c : Nat} {ex : Bool} {L : List (List AV)} (hx : xs[k]? = some (.row ty esz L 0 0)) (hn : L.length = n) (hc : n ≤ c) (hL : ∀ cs ∈ L,cs.length = esz) :
  Holds (HP H xs) esz (.slice (H.next + k) 0 n c ex 0) L:=by
 subst hn
 exact ⟨hL,.inr (.inr ⟨H.next + k,0,c,ex,0,ty,L,0,0,rfl,by rw [hp_blk];exact hx,Nat.le_refl _,by simp,by simp,hc⟩)⟩

def FreshS (H : Heap) (v : AV) : Prop:=∀ b off len cap ex g,v = .slice b off len cap ex g → H.blk b = none

theorem FreshS.up {G H : Heap} {v : AV} (h : FreshS H v) (hu : Up G H) : FreshS G v:=fun b off len cap ex g e=>hu.fresh (h b off len cap ex g e)

theorem Own.base {G G' H : Heap} {ty esz : Nat} {v : AV} {L : List (List AV)} (h : Own G' H ty esz v L) (hu : Up G G') : Own G H ty esz v L:=by
 obtain ⟨h0,h | ⟨b,g,wgen,h1,h2,h3,h4⟩ | ⟨b,g,ty',gen,wgen,h1,h2,h3,h4⟩⟩:=h
 ·exact ⟨h0,.inl h⟩
 ·exact ⟨h0,.inr (.inl ⟨b,g,wgen,h1,h2,h3,hu.fresh h4⟩)⟩
 ·exact ⟨h0,.inr (.inr ⟨b,g,ty',gen,wgen,h1,h2,h3,hu.fresh h4⟩)⟩

theorem own_hp {G H : Heap} {xs : List Blk} {k n esz ty ty' : Nat} {L : List (List AV)} (hF : Free H) (hU : Up G H) (hx : xs[k]? = some (.row ty' esz L 0 0)) (hn : L.length = n) (hL : ∀ cs ∈ L,cs.length = esz ∧ cs.all AV.isCell = true) :
  Own G (HP H xs) ty esz (.slice (H.next + k) 0 n n true 0) L:=by
 subst hn
 exact ⟨hL,.inr (.inr ⟨H.next + k,0,ty',0,0,rfl,by rw [hp_blk];exact hx,⟨Nat.le_refl _,rfl⟩,hU.fresh (hF _ (by omega))⟩)⟩

variable {Kp : Kept} {n : Nat} {ks : List KItem} {env : Env} {Q : Ex → Env → Heap → Prop} {ops : Array Oper} {l : List (Oper × Bool)}

def RoundR (I : Env → Heap → Prop) (μ : Env → Heap → Nat) (m : Nat) (R : Ex → Env → Heap → Prop) (ex : Ex) (env : Env) (H : Heap) : Prop:=
 match ex with
 | .normal=>I env H ∧ μ env H < m
 | ex=>R ex env H

theorem roundR_normal {I : Env → Heap → Prop} {μ : Env → Heap → Nat} {m : Nat} {R : Ex → Env → Heap → Prop} {env : Env} {H : Heap} : RoundR I μ m R .normal env H = (I env H ∧ μ env H < m):=rfl
theorem roundR_exit {I : Env → Heap → Prop} {μ : Env → Heap → Nat} {m i : Nat} {R : Ex → Env → Heap → Prop} {env : Env} {H : Heap} : RoundR I μ m R (.exit i) env H = R (.exit i) env H:=rfl
theorem roundR_ret {I : Env → Heap → Prop} {μ : Env → Heap → Nat} {m : Nat} {R : Ex → Env → Heap → Prop} {env : Env} {H : Heap} : RoundR I μ m R .ret env H = R .ret env H:=rfl

theorem loopStepR {c : Code} {H : Heap} (I : Env → Heap → Prop) (μ : Env → Heap → Nat) (R : Ex → Env → Heap → Prop) (h0 : I env H)
  (round : ∀ env H,I env H → After P n [.code c] .normal env H (RoundR I μ (μ env H) R)) (after : ∀ ex env H,R ex env H → After P n ks ex env H Q) : LoopStep P n c ks env H Q:=
 loopStep I μ h0 fun env H hI=>by
  have:=round env H hI
  simp only [After] at this ⊢
  refine WC_mono c (fun ex env H h=>?_) this
  cases ex
  ·exact h
  ·exact after _ _ _ h
  ·exact after _ _ _ h

theorem opStep_append {G H : Heap} {d : Option Tmp} {t u e esz bytes : Nat} (hb : appB P t u e esz bytes = true) {v x : AV} {L new : List (List AV)} (hO : Own G H e esz v L) (hF : Free H) (hU : Up G H) (hx : Holds H esz x new)
  (hnew : ∀ cs ∈ new,cs.all AV.isCell = true) (hsz : (L.length + new.length) * bytes ≤ maxBytes) (hsz' : L.length + new.length ≤ maxBytes)
  (h : ∀ u K,Own G K e esz u (L ++ new) → Up G K → Free K → AfterOps P Kp n ops l ks (env.put d u) K Q) : OpStep P Kp n ops d false (evBuiltin P H .append #[t,u] [v,x]) l ks env H Q:=by
 obtain ⟨r,K,h1,h2,h3,h4,h5,_⟩:=hO.append hF hU (fun cs hc=>⟨hx.1 cs hc,hnew cs hc⟩) hsz hsz'
 rw [append_ev hb hx.len? hx.elems,append1_some h1,opStep_some]
 exact ⟨h5,h r K h2 h3 h4⟩

end
end Go.Ev
set_option linter.unusedVariables false
set_option linter.unusedSimpArgs false
namespace Go.Ev
theorem splice_one {cs : List AV} {o : Nat} {u : AV} (h : o < cs.length) : splice cs o [u] = cs.set o u:=by
 rw [List.set_eq_take_append_cons_drop,if_pos h]
 simp [splice]
theorem splice_whole {cs vs : List AV} (h : vs.length = cs.length) : splice cs 0 vs = vs:=by simp [splice,h]
theorem set_same {H : Heap} {b : Nat} {x : Blk} : (H.set b x).blk b = some x:=Heap.set_same _ _ _
theorem set_set_same {H : Heap} {b : Nat} {x y : Blk} : (H.set b x).set b y = H.set b y:=Heap.ext' (fun i=>by simp only [Heap.set];split <;> rfl) rfl
theorem set_next {H : Heap} {b : Nat} {x : Blk} : (H.set b x).next = H.next:=rfl
theorem evResult_cell {P : Program} {env : Env} {G : Heap} {a : Tmp} {t : TypeId} : evResult P env G (.cell a t) = (match aggOf P t,szOf P t with
  | some true,some n=>(G.load (env.at (.tmp a)) n).map .agg
  | some false,_=>(match G.load (env.at (.tmp a)) 1 with | some [v]=>some v | _=>none)
  | _,_=>none):=rfl
theorem wrap_pred {i : Nat} (h0 : 1 ≤ i) (h : i < 2 ^ 62) : IntKind.i64.wrap ((i : Int) - 1) = ((i - 1 : Nat) : Int):=by
 rw [IntWalk.i64_in _ (by omega)];omega
theorem icI {k : IntKind} {n : Int} : (AV.int k n).isCell = true:=rfl
theorem icS {s : List Nat} : (AV.str s).isCell = true:=rfl
theorem icB {b : Bool} : (AV.bool b).isCell = true:=rfl
theorem icN : AV.nilslice.isCell = true:=rfl
theorem icL {sz : Nat} {es : List (List AV)} : (AV.lst sz es).isCell = true:=rfl
theorem holds_cell {H : Heap} {esz : Nat} {v : AV} {L : List (List AV)} (h : Holds H esz v L) : v.isCell = true:=by
 obtain ⟨h0,⟨rfl,rfl | rfl⟩ | rfl | ⟨b,off,cap,ex,g,ty,els,gen,wgen,rfl,_⟩⟩:=h <;> rfl
theorem five {α : Type} {l : List α} (h : l.length = 5) : ∃ a b c d e,l = [a,b,c,d,e]:=by
 match l,h with
 | [a,b,c,d,e],_=>exact ⟨a,b,c,d,e,rfl⟩
def hsub (F H B : Heap) : Heap:=⟨fun c=>if (H.blk c).isSome = true ∧ (B.blk c).isNone = true then none else F.blk c,F.next⟩
theorem own_shape {G H : Heap} {ty esz : Nat} {out : AV} {L : List (List AV)} (hO : Own G H ty esz out L) : out = .nilslice ∨ out = .eslice ∨ ∃ b o l c ex g,out = .slice b o l c ex g:=by
 obtain ⟨_,⟨_,h | h⟩ | ⟨_,_,_,h,_⟩ | ⟨_,_,_,_,_,h,_⟩⟩:=hO
 ·exact .inl h
 ·exact .inr (.inl h)
 ·exact .inr (.inr ⟨_,_,_,_,_,_,h⟩)
 ·exact .inr (.inr ⟨_,_,_,_,_,_,h⟩)
theorem iuI {k : IntKind} {n : Int} : (.int k n : AV).isUndef = false:=rfl
theorem clI {k : IntKind} {n : Int} : (.int k n : AV).cells = [(.int k n : AV)]:=rfl
theorem iuS {s : List Nat} : (.str s : AV).isUndef = false:=rfl
theorem clS {s : List Nat} : (.str s : AV).cells = [(.str s : AV)]:=rfl
theorem iuB {b : Bool} : (.bool b : AV).isUndef = false:=rfl
theorem clB {b : Bool} : (.bool b : AV).cells = [(.bool b : AV)]:=rfl
theorem iuN  : (.nilslice : AV).isUndef = false:=rfl
theorem clN  : (.nilslice : AV).cells = [(.nilslice : AV)]:=rfl
theorem iuL {b o l c : Nat} {x : Bool} {g : Nat} : (.slice b o l c x g : AV).isUndef = false:=rfl
theorem clL {b o l c : Nat} {x : Bool} {g : Nat} : (.slice b o l c x g : AV).cells = [(.slice b o l c x g : AV)]:=rfl
theorem iuP {b i o g : Nat} : (.ptr b i o g : AV).isUndef = false:=rfl
theorem clP {b i o g : Nat} : (.ptr b i o g : AV).cells = [(.ptr b i o g : AV)]:=rfl
theorem iuQ {cs : List AV} {o : Nat} : (.iptr cs o : AV).isUndef = false:=rfl
theorem clQ {cs : List AV} {o : Nat} : (.iptr cs o : AV).cells = [(.iptr cs o : AV)]:=rfl
theorem iuR {f : Fn} {a c : List AV} : (.func f a c : AV).isUndef = false:=rfl
theorem clR {f : Fn} {a c : List AV} : (.func f a c : AV).cells = [(.func f a c : AV)]:=rfl
theorem iuA {cs : List AV} : (.agg cs : AV).isUndef = false:=rfl
theorem clA {cs : List AV} : (.agg cs : AV).cells = cs:=rfl
theorem ceI {k : IntKind} {n : Int} : (.int k n : AV).isCell = true:=rfl
theorem ceS {s : List Nat} : (.str s : AV).isCell = true:=rfl
theorem ceB {b : Bool} : (.bool b : AV).isCell = true:=rfl
theorem ceN  : (.nilslice : AV).isCell = true:=rfl
theorem ceL {b o l c : Nat} {x : Bool} {g : Nat} : (.slice b o l c x g : AV).isCell = true:=rfl
theorem own_plain {G H : Heap} {ty esz : Nat} {v : AV} {L : List (List AV)} (hO : Own G H ty esz v L) : v.isUndef = false ∧ v.cells = [v] ∧ v.isCell = true:=by
 rcases own_shape hO with rfl | rfl | ⟨b,o,l,c,x,g,rfl⟩ <;> exact ⟨rfl,rfl,rfl⟩
def rowOf : AV → Option Nat
 | .slice b _ _ _ _ _=>some b
 | _=>none
def hbut (H : Heap) (o : Option Nat) : Heap:=⟨fun c=>if o = some c then none else H.blk c,H.next⟩
theorem but_up {H : Heap} {o : Option Nat} : Up (hbut H o) H:=fun b x h=>by
 simp only [hbut] at h
 split at h
 ·cases h
 ·exact h
theorem but_blk {H : Heap} {o : Option Nat} {b : Nat} (h : o ≠ some b) : (hbut H o).blk b = H.blk b:=by simp only [hbut];rw [if_neg h]
theorem own_row {G H : Heap} {ty esz : Nat} {v : AV} {L : List (List AV)} (hO : Own G H ty esz v L) {b : Nat} (hb : rowOf v = some b) : G.blk b = none ∧ H.blk b ≠ none:=by
 obtain ⟨h0,⟨_,rfl | rfl⟩ | ⟨b',g,wgen,rfl,h2,h3,h4⟩ | ⟨b',g,ty',gen,wgen,rfl,h2,h3,h4⟩⟩:=hO
 ·cases hb
 ·cases hb
 ·cases hb;exact ⟨h4,by rw [h2];simp⟩
 ·cases hb;exact ⟨h4,by rw [h2];simp⟩
theorem own_keep {G H K : Heap} {ty esz : Nat} {v : AV} {L : List (List AV)} (hO : Own G H ty esz v L) (hk : ∀ b x,rowOf v = some b → H.blk b = some x → K.blk b = some x) : Own G K ty esz v L:=by
 obtain ⟨h0,h | ⟨b,g,wgen,rfl,h2,h3,h4⟩ | ⟨b,g,ty',gen,wgen,rfl,h2,h3,h4⟩⟩:=hO
 ·exact ⟨h0,.inl h⟩
 ·exact ⟨h0,.inr (.inl ⟨b,g,wgen,rfl,hk _ _ rfl h2,h3,h4⟩)⟩
 ·exact ⟨h0,.inr (.inr ⟨b,g,ty',gen,wgen,rfl,hk _ _ rfl h2,h3,h4⟩)⟩
def DOM (H : Heap) (k : Nat) : Heap:=⟨fun b=>if H.next ≤ b ∧ b < H.next + k then some (.map [] 0) else H.blk b,0⟩
def hmin (H' H : Heap) (k : Nat) : Heap:=⟨fun c=>if H.next ≤ c ∧ c < H.next + k then none else H'.blk c,H'.next⟩
theorem ux : (type_of% @icI) ∧ (type_of% @icS) ∧ (type_of% @icB) ∧ (type_of% @icN) ∧ (type_of% @icL) ∧ (type_of% @iuI) ∧ (type_of% @iuS) ∧ (type_of% @iuB) ∧ (type_of% @iuN) ∧ (type_of% @iuL) ∧ (type_of% @iuA) ∧ (type_of% @iuP) ∧ (type_of% @iuQ) ∧ (type_of% @iuR) ∧ (type_of% @clI) ∧ (type_of% @clS) ∧ (type_of% @clB) ∧ (type_of% @clN) ∧ (type_of% @clL) ∧ (type_of% @clA) ∧ (type_of% @clP) ∧ (type_of% @clQ) ∧ (type_of% @clR) ∧ (type_of% @ceI) ∧ (type_of% @ceS) ∧ (type_of% @ceB) ∧ (type_of% @ceN) ∧ (type_of% @ceL):=
 ⟨@icI,@icS,@icB,@icN,@icL,@iuI,@iuS,@iuB,@iuN,@iuL,@iuA,@iuP,@iuQ,@iuR,@clI,@clS,@clB,@clN,@clL,@clA,@clP,@clQ,@clR,@ceI,@ceS,@ceB,@ceN,@ceL⟩
theorem sx : (((((((type_of% @false_implies) ∧ ((type_of% @imp_false) ∧ (type_of% @not_false_eq_true))) ∧ (((type_of% @List.getElem?_cons_zero.{0}) ∧ (type_of% @List.getElem?_cons_succ.{0})) ∧ ((type_of% @List.take_succ_cons.{0}) ∧ (type_of% @List.take_zero.{0})))) ∧ ((((type_of% @List.drop_succ_cons.{0}) ∧ (type_of% @List.drop_zero.{0})) ∧ ((type_of% @List.set_cons_zero.{0}) ∧ (type_of% @List.set_cons_succ.{0}))) ∧ (((type_of% @List.replicate_succ.{0}) ∧ (type_of% @List.replicate_zero.{0})) ∧ ((type_of% @List.all_cons.{0}) ∧ (type_of% @List.all_nil.{0}))))) ∧ (((((type_of% @Bool.and_true) ∧ (type_of% @Bool.and_self)) ∧ ((type_of% @Nat.le_refl) ∧ (type_of% @after_seq))) ∧ (((type_of% @after_skip) ∧ (type_of% @after_label)) ∧ ((type_of% @after_exit) ∧ (type_of% @after_ret)))) ∧ ((((type_of% @after_code_exit) ∧ (type_of% @after_code_ret)) ∧ ((type_of% @after_blk) ∧ (type_of% @after_blk_ret))) ∧ (((type_of% @after_blk_exit) ∧ (type_of% @after_nil)) ∧ ((type_of% @after_block) ∧ (type_of% @after_cond)))))) ∧ (((((type_of% @condStep_true) ∧ ((type_of% @condStep_false) ∧ (type_of% @after_region))) ∧ (((type_of% @after_draw) ∧ (type_of% @after_loop)) ∧ ((type_of% @afterOps_nil) ∧ (type_of% @opStep_some)))) ∧ ((((type_of% @opStep_flag) ∧ (type_of% @afterOps_op)) ∧ ((type_of% @hereStep_true) ∧ (type_of% @hereStep_false))) ∧ (((type_of% @afterOps_guard) ∧ (type_of% @guardStep_true)) ∧ ((type_of% @guardStep_false) ∧ (type_of% @roundEnd_normal))))) ∧ (((((type_of% @roundEnd_exit) ∧ (type_of% @roundEnd_ret)) ∧ ((type_of% @roundR_normal) ∧ (type_of% @roundR_exit))) ∧ (((type_of% @roundR_ret) ∧ (type_of% @fin_normal)) ∧ ((type_of% @fin_ret) ∧ (type_of% @finR_some)))) ∧ ((((type_of% @put_at) ∧ (type_of% @put_none)) ∧ ((type_of% @at_const) ∧ (type_of% @at_func))) ∧ (((type_of% @args_at) ∧ (type_of% @evResult_tmp)) ∧ ((type_of% @List.filterMap_cons.{0,0}) ∧ (type_of% @List.filterMap_nil.{0,0}))))))) ∧ ((((((type_of% @List.contains_nil.{0}) ∧ ((type_of% @List.contains_cons.{0}) ∧ (type_of% @Bool.or_false))) ∧ (((type_of% @Bool.or_true) ∧ (type_of% @List.map_cons.{0,0})) ∧ ((type_of% @List.map_nil.{0,0}) ∧ (type_of% @wantedA_guard)))) ∧ ((((type_of% @wstep_some) ∧ (type_of% @wbool_true)) ∧ ((type_of% @wbool_false) ∧ (type_of% @List.getElem?_toArray.{0}))) ∧ (((type_of% @Option.bind_none.{0,0}) ∧ (type_of% @dstOk_none)) ∧ ((type_of% @dstOk_some) ∧ (type_of% @List.toList_toArray.{0}))))) ∧ (((((type_of% @if_true.{1}) ∧ (type_of% @if_false.{1})) ∧ ((type_of% @List.getD_cons_zero.{0}) ∧ (type_of% @List.getD_cons_succ.{0}))) ∧ (((type_of% @Option.map_some.{0,0}) ∧ (type_of% @decide_true)) ∧ ((type_of% @ite_self.{1}) ∧ (type_of% @true_or)))) ∧ ((((type_of% @true_and) ∧ (type_of% @and_true)) ∧ ((type_of% @or_true) ∧ (type_of% @Bool.false_eq_true))) ∧ (((type_of% @List.nil_append.{0}) ∧ (type_of% @List.append_nil.{0})) ∧ ((type_of% @List.cons_append.{0}) ∧ (type_of% @List.length_cons.{0})))))) ∧ (((((type_of% @List.length_nil.{0}) ∧ ((type_of% @load_ptr) ∧ (type_of% @load_iptr))) ∧ (((type_of% @hp_push) ∧ (type_of% @hp_next)) ∧ ((type_of% @hp_blk0) ∧ (type_of% @hp_blk)))) ∧ ((((type_of% @hp_set0) ∧ (type_of% @hp_set)) ∧ ((type_of% @List.getElem?_nil.{0}) ∧ (type_of% @Nat.lt_add_one))) ∧ (((type_of% @Nat.zero_lt_succ) ∧ (type_of% @List.isEmpty_cons.{0})) ∧ ((type_of% @Nat.zero_lt_one) ∧ (type_of% @Option.bind_some.{0,0}))))) ∧ (((((type_of% @Nat.add_zero) ∧ (type_of% @Nat.zero_add)) ∧ ((type_of% @decide_eq_true_eq) ∧ (type_of% @decide_false))) ∧ (((type_of% @Bool.not_true) ∧ (type_of% @Bool.not_false)) ∧ ((type_of% @set_same) ∧ (type_of% @set_next)))) ∧ ((((type_of% @set_set_same) ∧ (type_of% @evResult_cell)) ∧ ((type_of% @splice_one) ∧ (type_of% @splice_whole))) ∧ (((type_of% @wbool_off) ∧ (type_of% @after_scope)) ∧ ((type_of% @hereStep_flag) ∧ (type_of% @List.length_set.{0})))))))):=
 And.intro (And.intro (And.intro (And.intro (And.intro (And.intro (@false_implies) (And.intro (@imp_false) (@not_false_eq_true))) (And.intro (And.intro (@List.getElem?_cons_zero.{0}) (@List.getElem?_cons_succ.{0})) (And.intro (@List.take_succ_cons.{0}) (@List.take_zero.{0})))) (And.intro (And.intro (And.intro (@List.drop_succ_cons.{0}) (@List.drop_zero.{0})) (And.intro (@List.set_cons_zero.{0}) (@List.set_cons_succ.{0}))) (And.intro (And.intro (@List.replicate_succ.{0}) (@List.replicate_zero.{0})) (And.intro (@List.all_cons.{0}) (@List.all_nil.{0}))))) (And.intro (And.intro (And.intro (And.intro (@Bool.and_true) (@Bool.and_self)) (And.intro (@Nat.le_refl) (@after_seq))) (And.intro (And.intro (@after_skip) (@after_label)) (And.intro (@after_exit) (@after_ret)))) (And.intro (And.intro (And.intro (@after_code_exit) (@after_code_ret)) (And.intro (@after_blk) (@after_blk_ret))) (And.intro (And.intro (@after_blk_exit) (@after_nil)) (And.intro (@after_block) (@after_cond)))))) (And.intro (And.intro (And.intro (And.intro (@condStep_true) (And.intro (@condStep_false) (@after_region))) (And.intro (And.intro (@after_draw) (@after_loop)) (And.intro (@afterOps_nil) (@opStep_some)))) (And.intro (And.intro (And.intro (@opStep_flag) (@afterOps_op)) (And.intro (@hereStep_true) (@hereStep_false))) (And.intro (And.intro (@afterOps_guard) (@guardStep_true)) (And.intro (@guardStep_false) (@roundEnd_normal))))) (And.intro (And.intro (And.intro (And.intro (@roundEnd_exit) (@roundEnd_ret)) (And.intro (@roundR_normal) (@roundR_exit))) (And.intro (And.intro (@roundR_ret) (@fin_normal)) (And.intro (@fin_ret) (@finR_some)))) (And.intro (And.intro (And.intro (@put_at) (@put_none)) (And.intro (@at_const) (@at_func))) (And.intro (And.intro (@args_at) (@evResult_tmp)) (And.intro (@List.filterMap_cons.{0,0}) (@List.filterMap_nil.{0,0}))))))) (And.intro (And.intro (And.intro (And.intro (And.intro (@List.contains_nil.{0}) (And.intro (@List.contains_cons.{0}) (@Bool.or_false))) (And.intro (And.intro (@Bool.or_true) (@List.map_cons.{0,0})) (And.intro (@List.map_nil.{0,0}) (@wantedA_guard)))) (And.intro (And.intro (And.intro (@wstep_some) (@wbool_true)) (And.intro (@wbool_false) (@List.getElem?_toArray.{0}))) (And.intro (And.intro (@Option.bind_none.{0,0}) (@dstOk_none)) (And.intro (@dstOk_some) (@List.toList_toArray.{0}))))) (And.intro (And.intro (And.intro (And.intro (@if_true.{1}) (@if_false.{1})) (And.intro (@List.getD_cons_zero.{0}) (@List.getD_cons_succ.{0}))) (And.intro (And.intro (@Option.map_some.{0,0}) (@decide_true)) (And.intro (@ite_self.{1}) (@true_or)))) (And.intro (And.intro (And.intro (@true_and) (@and_true)) (And.intro (@or_true) (@Bool.false_eq_true))) (And.intro (And.intro (@List.nil_append.{0}) (@List.append_nil.{0})) (And.intro (@List.cons_append.{0}) (@List.length_cons.{0})))))) (And.intro (And.intro (And.intro (And.intro (@List.length_nil.{0}) (And.intro (@load_ptr) (@load_iptr))) (And.intro (And.intro (@hp_push) (@hp_next)) (And.intro (@hp_blk0) (@hp_blk)))) (And.intro (And.intro (And.intro (@hp_set0) (@hp_set)) (And.intro (@List.getElem?_nil.{0}) (@Nat.lt_add_one))) (And.intro (And.intro (@Nat.zero_lt_succ) (@List.isEmpty_cons.{0})) (And.intro (@Nat.zero_lt_one) (@Option.bind_some.{0,0}))))) (And.intro (And.intro (And.intro (And.intro (@Nat.add_zero) (@Nat.zero_add)) (And.intro (@decide_eq_true_eq) (@decide_false))) (And.intro (And.intro (@Bool.not_true) (@Bool.not_false)) (And.intro (@set_same) (@set_next)))) (And.intro (And.intro (And.intro (@set_set_same) (@evResult_cell)) (And.intro (@splice_one) (@splice_whole))) (And.intro (And.intro (@wbool_off) (@after_scope)) (And.intro (@hereStep_flag) (@List.length_set.{0})))))))
end Go.Ev
set_option linter.unusedVariables false
set_option linter.unusedSimpArgs false
namespace Go.Ev
def Stk (G H : Heap) (esz : Nat) (v : AV) (L : List (List AV)) : Prop:=
  (∀ cs ∈ L,cs.length = esz ∧ cs.all AV.isCell = true) ∧
  ((L = [] ∧ (v = .nilslice ∨ v = .eslice)) ∨
   ∃ b cap ex g ty els wgen,v = .slice b 0 L.length cap ex g ∧ H.blk b = some (.row ty esz els g wgen) ∧ wgen ≤ g ∧ els.take L.length = L ∧ L.length ≤ cap ∧ cap ≤ els.length ∧ (∀ cs ∈ els,cs.length = esz) ∧ G.blk b = none)
theorem Own.stk {G H : Heap} {ty esz : Nat} {v : AV} {L : List (List AV)} (h : Own G H ty esz v L) : Stk G H esz v L:=by
 obtain ⟨h0,h | ⟨b,g,wgen,h1,h2,h3,h4⟩ | ⟨b,g,ty',gen,wgen,h1,h2,⟨h3,h5⟩,h4⟩⟩:=h
 ·exact ⟨h0,.inl h⟩
 ·exact ⟨h0,.inr ⟨b,_,_,g,ty,L,wgen,h1,h2,h3,by simp,Nat.le_refl _,Nat.le_refl _,fun cs hc=>(h0 cs hc).1,h4⟩⟩
 ·subst h5
  exact ⟨h0,.inr ⟨b,_,_,gen,ty',L,wgen,h1,h2,h3,by simp,Nat.le_refl _,Nat.le_refl _,fun cs hc=>(h0 cs hc).1,h4⟩⟩
theorem Stk.holds {G H : Heap} {esz : Nat} {v : AV} {L : List (List AV)} (h : Stk G H esz v L) : Holds H esz v L:=by
 obtain ⟨h0,h | ⟨b,cap,ex,g,ty,els,wgen,h1,h2,h3,h4,h5,h6,h7,h8⟩⟩:=h
 ·exact ⟨fun cs hc=>(h0 cs hc).1,.inl h⟩
 ·exact ⟨fun cs hc=>(h0 cs hc).1,.inr (.inr ⟨b,0,cap,ex,g,ty,els,g,wgen,h1,h2,h3,by rw [List.drop_zero];exact h4,by omega,h5⟩)⟩
theorem Stk.up {G H K : Heap} {esz : Nat} {v : AV} {L : List (List AV)} (h : Stk G H esz v L) (hu : Up H K) : Stk G K esz v L:=by
 obtain ⟨h0,h | ⟨b,cap,ex,g,ty,els,wgen,h1,h2,h3⟩⟩:=h
 ·exact ⟨h0,.inl h⟩
 ·exact ⟨h0,.inr ⟨b,cap,ex,g,ty,els,wgen,h1,hu _ _ h2,h3⟩⟩
theorem Stk.dom {G G' H : Heap} {esz : Nat} {v : AV} {L : List (List AV)} (h : Stk G H esz v L) (hk : ∀ b,G.blk b = none → G'.blk b = none) : Stk G' H esz v L:=by
 obtain ⟨h0,h | ⟨b,cap,ex,g,ty,els,wgen,h1,h2,h3,h4,h5,h6,h7,h8⟩⟩:=h
 ·exact ⟨h0,.inl h⟩
 ·exact ⟨h0,.inr ⟨b,cap,ex,g,ty,els,wgen,h1,h2,h3,h4,h5,h6,h7,hk _ h8⟩⟩
theorem Stk.keep {G H K : Heap} {esz : Nat} {v : AV} {L : List (List AV)} (h : Stk G H esz v L) (hk : ∀ b x,rowOf v = some b → H.blk b = some x → K.blk b = some x) : Stk G K esz v L:=by
 obtain ⟨h0,h | ⟨b,cap,ex,g,ty,els,wgen,rfl,h2,h3⟩⟩:=h
 ·exact ⟨h0,.inl h⟩
 ·exact ⟨h0,.inr ⟨b,cap,ex,g,ty,els,wgen,rfl,hk _ _ rfl h2,h3⟩⟩
theorem Stk.but {G H : Heap} {esz : Nat} {v : AV} {L : List (List AV)} (h : Stk G H esz v L) : Stk (hbut H (rowOf v)) H esz v L:=by
 obtain ⟨h0,h | ⟨b,cap,ex,g,ty,els,wgen,rfl,h2,h3,h4,h5,h6,h7,h8⟩⟩:=h
 ·exact ⟨h0,.inl h⟩
 ·exact ⟨h0,.inr ⟨b,cap,ex,g,ty,els,wgen,rfl,h2,h3,h4,h5,h6,h7,by simp [hbut,rowOf]⟩⟩
theorem Stk.row {G H : Heap} {esz : Nat} {v : AV} {L : List (List AV)} (h : Stk G H esz v L) {b : Nat} (hb : rowOf v = some b) : G.blk b = none ∧ H.blk b ≠ none:=by
 obtain ⟨h0,⟨_,rfl | rfl⟩ | ⟨b',cap,ex,g,ty,els,wgen,rfl,h2,h3,h4,h5,h6,h7,h8⟩⟩:=h
 ·cases hb
 ·cases hb
 ·cases hb;exact ⟨h8,by rw [h2];simp⟩
theorem Stk.plain {G H : Heap} {esz : Nat} {v : AV} {L : List (List AV)} (h : Stk G H esz v L) : v.isUndef = false ∧ v.cells = [v] ∧ v.isCell = true:=by
 obtain ⟨h0,⟨_,rfl | rfl⟩ | ⟨b',cap,ex,g,ty,els,wgen,rfl,_⟩⟩:=h <;> exact ⟨rfl,rfl,rfl⟩
section
variable {P : Program}
theorem Stk.cut {G H : Heap} {esz : Nat} {v : AV} {L : List (List AV)} (h : Stk G H esz v L) {t e : TypeId} (ht : P.underlying t = some (.slice e)) (hs : szOf P e = some esz) {i : Nat} (hi : i ≤ L.length) :
  ∃ u,evSlice P H t v none (some (i : Int)) none = some u ∧ Stk G H esz u (L.take i) ∧ (∀ b,rowOf u = some b → rowOf v = some b):=by
 have hz : ∀ cs ∈ L.take i,cs.length = esz ∧ cs.all AV.isCell = true:=fun cs hc=>h.1 cs (List.mem_of_mem_take hc)
 have hti : (L.take i).length = i:=by rw [List.length_take];omega
 obtain ⟨h0,⟨rfl,rfl | rfl⟩ | ⟨b,cap,ex,g,ty,els,wgen,rfl,h2,h3,h4,h5,h6,h7,h8⟩⟩:=h
 ·obtain rfl : i = 0:=by simpa using hi
  exact ⟨.nilslice,by simp [evSlice,ht,hs,boundsOk],⟨by simp,.inl ⟨by simp,.inl rfl⟩⟩,fun b hb=>hb⟩
 ·obtain rfl : i = 0:=by simpa using hi
  exact ⟨.eslice,by simp [evSlice,ht,hs,boundsOk],⟨by simp,.inl ⟨by simp,.inr rfl⟩⟩,fun b hb=>hb⟩
 ·refine ⟨.slice b 0 i cap ex g,?_,⟨hz,.inr ⟨b,cap,ex,g,ty,els,wgen,by rw [hti],h2,h3,?_,by omega,h6,h7,h8⟩⟩,fun b hb=>hb⟩
  ·simp only [evSlice,ht,hs,Option.getD_none,Option.getD_some,boundsOk,Heap.eszOf,h2,if_pos h3]
   rw [if_pos (by simp;omega)]
   simp
  ·rw [hti]
   have : (els.take L.length).take i = L.take i:=by rw [h4]
   rw [List.take_take,Nat.min_eq_left hi] at this
   exact this
theorem Stk.append1 {G H : Heap} {ty esz bytes : Nat} {v : AV} {L : List (List AV)} (h : Stk G H esz v L) (hF : Free H) (hU : Up G H) {new : List (List AV)} (hnew : ∀ cs ∈ new,cs.length = esz ∧ cs.all AV.isCell = true)
  (hsz : (L.length + new.length) * bytes ≤ maxBytes) (hsz' : L.length + new.length ≤ maxBytes) :
  ∃ u K,H.append1 ty esz bytes v new = some (u,K) ∧ Stk G K esz u (L ++ new) ∧ Up G K ∧ Free K ∧ (K.next = H.next ∨ H.blk H.next = none):=by
 have hcell : new.all (fun cs=>cs.all AV.isCell) = true:=List.all_eq_true.2 fun cs hc=>(hnew cs hc).2
 have hall : ∀ cs ∈ L ++ new,cs.length = esz ∧ cs.all AV.isCell = true:=fun cs hc=>(List.mem_append.1 hc).elim (h.1 cs) (hnew cs)
 by_cases hn : new = []
 ·subst hn
  refine ⟨v,H,append1_some ?_,by simpa using h,hU,hF,.inl rfl⟩
  obtain ⟨h0,⟨rfl,rfl | rfl⟩ | ⟨b,cap,ex,g,ty,els,wgen,rfl,h2,h3,h4,h5,h6,h7,h8⟩⟩:=h <;> simp [Heap.append]
 ·have hn0 : new.length ≠ 0:=by simpa using hn
  have hpos : 0 < new.length:=by omega
  have hlen : (L ++ new).length = L.length + new.length:=List.length_append
  obtain ⟨h0,⟨rfl,hv⟩ | ⟨b,cap,ex,g,ty',els,wgen,rfl,h2,h3,h4,h5,h6,h7,h8⟩⟩:=h
  ·have hs1 : new.length * bytes ≤ maxBytes ∧ new.length ≤ maxBytes:=by simp at hsz hsz';exact ⟨hsz,hsz'⟩
   refine ⟨.slice H.next 0 new.length new.length false 0,H.push (.row ty esz new 0 0),append1_some ?_,⟨by simpa using hall,.inr ⟨H.next,new.length,false,0,ty,new,0,by simp,push_blk_same _ _,Nat.le_refl _,by simp,by simp,Nat.le_refl _,fun cs hc=>(hnew cs hc).1,hU.new hF⟩⟩,hU.push hF _,hF.push _,.inr hF.at⟩
   rcases hv with rfl | rfl <;> (simp only [Heap.append,hcell,if_true];rw [if_neg hn0,if_pos hs1])
  ·have hlt:=hF.lt h2
   have hsame : ∀ (els' : List (List AV)) (g' w' : Nat),L.length ≤ els'.length → els'.take (L.length + new.length) = L ++ new → L.length + new.length ≤ els'.length → True:=fun _ _ _ _ _ _=>trivial
   by_cases hfit : L.length + new.length ≤ cap
   ·have hle : L.length + new.length ≤ els.length:=by omega
    refine ⟨.slice b 0 (L.length + new.length) cap ex g,H.set b (.row ty' esz (setAll els (0 + L.length) new) g g),append1_some ?_,⟨hall,.inr ⟨b,cap,ex,g,ty',setAll els (0 + L.length) new,g,by rw [hlen],Heap.set_same _ _ _,Nat.le_refl _,?_,by rw [hlen];exact hfit,?_,fun cs hc=>?_,h8⟩⟩,hU.set h8 _,hF.set hlt _,.inl rfl⟩
    ·simp only [Heap.append,hcell,if_true,h2]
     rw [if_neg hn0,if_pos ⟨h3,trivial,hsz,hsz'⟩,if_pos hfit]
     try rfl
    ·rw [hlen,Nat.zero_add]
     unfold setAll
     have e1 : (els.take L.length ++ new).length = L.length + new.length:=by rw [List.length_append,List.length_take];omega
     rw [← e1,List.take_left,h4]
    ·rw [setAll_length (by omega)];exact h6
    ·simp only [setAll,List.mem_append] at hc
     rcases hc with (hc | hc) | hc
     ·exact h7 cs (List.mem_of_mem_take hc)
     ·exact (hnew cs hc).1
     ·exact h7 cs (List.mem_of_mem_drop hc)
   ·cases ex with
    | true=>
     refine ⟨.slice H.next 0 (L.length + new.length) (L.length + new.length) false 0,H.push (.row ty esz (((els.drop 0).take L.length) ++ new) 0 0),append1_some ?_,⟨hall,.inr ⟨H.next,L.length + new.length,false,0,ty,_,0,by rw [hlen],push_blk_same _ _,Nat.le_refl _,?_,by rw [hlen];exact Nat.le_refl _,?_,fun cs hc=>?_,hU.new hF⟩⟩,hU.push hF _,hF.push _,.inr hF.at⟩
     ·simp only [Heap.append,hcell,if_true,h2]
      rw [if_neg hn0,if_pos ⟨h3,trivial,hsz,hsz'⟩,if_neg hfit]
     ·rw [List.drop_zero,h4,List.take_length]
     ·rw [List.drop_zero,h4,hlen];exact Nat.le_refl _
     ·rw [List.drop_zero,h4] at hc;exact (hall cs hc).1
    | false=>
     by_cases hend : 0 + L.length = els.length
     ·have he : els = L:=by rw [← h4,List.take_of_length_le (by omega)]
      refine ⟨.slice b 0 (L.length + new.length) (L.length + new.length) false (g + 1),H.set b (.row ty' esz (els ++ new) (g + 1) wgen),append1_some ?_,⟨hall,.inr ⟨b,_,_,g + 1,ty',els ++ new,wgen,by rw [hlen],Heap.set_same _ _ _,by omega,?_,by rw [hlen];exact Nat.le_refl _,?_,fun cs hc=>?_,h8⟩⟩,hU.set h8 _,hF.set hlt _,.inl rfl⟩
      ·simp only [Heap.append,hcell,if_true,h2]
       rw [if_neg hn0,if_pos ⟨h3,trivial,hsz,hsz'⟩,if_neg hfit]
       simp only [Bool.false_eq_true,if_false]
       rw [if_pos ⟨trivial,hend⟩]
      ·rw [he,List.take_length]
      ·rw [he,hlen];exact Nat.le_refl _
      ·rw [he] at hc;exact (hall cs hc).1
     ·have h0' : H.append ty esz bytes (.slice b 0 L.length cap false g) new = none:=by
       simp only [Heap.append,hcell,if_true,h2]
       rw [if_neg hn0,if_pos ⟨h3,trivial,hsz,hsz'⟩,if_neg hfit]
       simp only [Bool.false_eq_true,if_false]
       rw [if_neg (fun h=>hend h.2)]
      refine ⟨.slice b 0 (L.length + new.length) (L.length + new.length) false (g + 2),H.set b (.row ty' esz (els.take (0 + L.length) ++ new) (g + 2) (g + 1)),?_,⟨hall,.inr ⟨b,_,_,g + 2,ty',_,g + 1,by rw [hlen],Heap.set_same _ _ _,by omega,?_,by rw [hlen];exact Nat.le_refl _,?_,fun cs hc=>?_,h8⟩⟩,hU.set h8 _,hF.set hlt _,.inl rfl⟩
      ·simp only [Heap.append1,h0',h2]
       rw [if_pos ⟨hcell,hpos,trivial,h3,trivial,by omega,hsz,hsz'⟩]
      ·rw [Nat.zero_add,h4,List.take_length]
      ·rw [Nat.zero_add,h4,hlen];exact Nat.le_refl _
      ·rw [Nat.zero_add,h4] at hc;exact (hall cs hc).1
variable {Kp : Kept} {n : Nat} {ops : Array Oper} {l : List (Oper × Bool)} {ks : List KItem} {env : Env} {Q : Ex → Env → Heap → Prop}
theorem opStep_push {G H : Heap} {d : Option Tmp} {t u e esz bytes : Nat} (hb : appB P t u e esz bytes = true) {v x : AV} {L new : List (List AV)} (hO : Stk G H esz v L) (hF : Free H) (hU : Up G H) (hx : Holds H esz x new)
  (hnew : ∀ cs ∈ new,cs.all AV.isCell = true) (hsz : (L.length + new.length) * bytes ≤ maxBytes) (hsz' : L.length + new.length ≤ maxBytes)
  (h : ∀ u K,Stk G K esz u (L ++ new) → Up G K → Free K → AfterOps P Kp n ops l ks (env.put d u) K Q) : OpStep P Kp n ops d false (evBuiltin P H .append #[t,u] [v,x]) l ks env H Q:=by
 obtain ⟨r,K,h1,h2,h3,h4,h5⟩:=hO.append1 hF hU (fun cs hc=>⟨hx.1 cs hc,hnew cs hc⟩) hsz hsz'
 rw [append_ev hb hx.len? hx.elems,h1,opStep_some]
 exact ⟨h5,h r K h2 h3 h4⟩
end
structure TS (F N : Heap) (b ty esz : Nat) (H : Heap) (u : AV) (L els : List (List AV)) : Prop where
 up : Up F H
 free : Free H
 stk : Stk N H esz u L
 dom : ∀ c,N.blk c ≠ none → H.blk c ≠ none
 row : H.blk b = some (.row ty 1 els 0 0)
 name : N.blk b ≠ none
 sub : ∀ c x,F.blk c = some x → N.blk c ≠ none
 out : F.blk b = none
theorem TS.grow {F N : Heap} {b ty esz : Nat} {H K : Heap} {u : AV} {L els : List (List AV)} (h : TS F N b ty esz H u L els) (hU : Up H K) (hK : Free K) : TS F N b ty esz K u L els where
 up:=h.up.trans hU
 free:=hK
 stk:=h.stk.up hU
 dom:=fun c hc=>by
  cases hx : H.blk c with
  | none=>exact absurd hx (h.dom c hc)
  | some x=>rw [hU _ _ hx];simp
 row:=hU _ _ h.row
 name:=h.name
 sub:=h.sub
 out:=h.out
theorem TS.store {F N : Heap} {b ty esz : Nat} {H : Heap} {u : AV} {L els : List (List AV)} (h : TS F N b ty esz H u L els) (els' : List (List AV)) : TS F N b ty esz (H.set b (.row ty 1 els' 0 0)) u L els' where
 up:=h.up.set h.out _
 free:=h.free.set (h.free.lt h.row) _
 stk:=h.stk.keep fun c x hc hx=>by
  rw [Heap.set_other _ _ _ (fun e=>h.name (by rw [← e];exact (h.stk.row hc).1))];exact hx
 dom:=fun c hc=>Heap.set_ne (h.dom c hc)
 row:=Heap.set_same _ _ _
 name:=h.name
 sub:=h.sub
 out:=h.out
theorem TS.swap {F N : Heap} {b ty esz : Nat} {H : Heap} {u v : AV} {L M els : List (List AV)} (h : TS F N b ty esz H u L els) (hs : Stk N H esz v M) : TS F N b ty esz H v M els where
 up:=h.up
 free:=h.free
 stk:=hs
 dom:=h.dom
 row:=h.row
 name:=h.name
 sub:=h.sub
 out:=h.out
theorem TS.push {F N : Heap} {b ty esz : Nat} {H K : Heap} {u v : AV} {L M els : List (List AV)} (h : TS F N b ty esz H u L els) (hs : Stk (hbut H (rowOf u)) K esz v M) (hU : Up (hbut H (rowOf u)) K) (hK : Free K) : TS F N b ty esz K v M els:=by
 have hne : ∀ c,N.blk c ≠ none → rowOf u ≠ some c:=fun c hc he=>hc (h.stk.row he).1
 have hkeep : ∀ c x,N.blk c ≠ none → H.blk c = some x → K.blk c = some x:=fun c x hc hx=>hU _ _ (by rw [but_blk (hne c hc)];exact hx)
 refine ⟨fun c x hx=>hkeep c x (h.sub c x hx) (h.up _ _ hx),hK,hs.dom fun c hc=>?_,fun c hc=>?_,hkeep _ _ h.name h.row,h.name,h.sub,h.out⟩
 ·by_cases he : rowOf u = some c
  ·exact (h.stk.row he).1
  ·rw [but_blk he] at hc
   cases hx : N.blk c with
   | none=>rfl
   | some x=>exact absurd hc (h.dom c (by rw [hx];simp))
 ·cases hx : H.blk c with
  | none=>exact absurd hx (h.dom c hc)
  | some x=>rw [hkeep c x hc hx];simp
theorem TS.inner {F N : Heap} {b ty esz : Nat} {H : Heap} {u : AV} {L els : List (List AV)} (h : TS F N b ty esz H u L els) : TS (hbut (hbut H (rowOf u)) (some b)) (hbut H (rowOf u)) b ty esz H u L els where
 up:=but_up.trans but_up
 free:=h.free
 stk:=h.stk.but
 dom:=fun c hc=>by
  cases hx : (hbut H (rowOf u)).blk c with
  | none=>exact absurd hx hc
  | some x=>rw [but_up _ _ hx];simp
 row:=h.row
 name:=by
  rw [but_blk (fun he=>h.name (h.stk.row he).1),h.row];simp
 sub:=fun c x hx=>by rw [but_up _ _ hx];simp
 out:=by simp [hbut]
theorem TS.outer {F N : Heap} {b ty esz : Nat} {H K : Heap} {u v : AV} {L M els els' : List (List AV)} (h : TS F N b ty esz H u L els) (hi : TS (hbut (hbut H (rowOf u)) (some b)) (hbut H (rowOf u)) b ty esz K v M els') : TS F N b ty esz K v M els':=by
 have hne : ∀ c,N.blk c ≠ none → rowOf u ≠ some c:=fun c hc he=>hc (h.stk.row he).1
 have hnm : ∀ c,N.blk c ≠ none → (hbut H (rowOf u)).blk c ≠ none:=fun c hc=>by rw [but_blk (hne c hc)];exact h.dom c hc
 refine ⟨fun c x hx=>hi.up _ _ ?_,hi.free,hi.stk.dom fun c hc=>?_,fun c hc=>hi.dom c (hnm c hc),hi.row,h.name,h.sub,h.out⟩
 ·rw [but_blk (fun he=>?_),but_blk (hne c (h.sub c x hx))]
  ·exact h.up _ _ hx
  ·cases he;rw [h.out] at hx;cases hx
 ·cases hx : N.blk c with
  | none=>rfl
  | some x=>exact absurd hc (hnm c (by rw [hx];simp))
end Go.Ev
