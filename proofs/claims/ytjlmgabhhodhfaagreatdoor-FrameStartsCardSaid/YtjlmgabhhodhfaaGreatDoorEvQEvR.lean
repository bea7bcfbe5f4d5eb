import Derived.Test.YtjlmgabhhodhfaaGreatDoorEvVEvZ
import Derived.IntWalk
set_option linter.unusedVariables false
set_option linter.unusedSimpArgs false
namespace Go.Ev


inductive KItem where
  | code (c : Code)
  | blk (id : Nat)

section
variable (P : Program)

def After (n : Nat) : List KItem → Ex → Env → Heap → (Ex → Env → Heap → Prop) → Prop
  | [], ex, env, H, Q => Q ex env H
  | .code c :: ks, .normal, env, H, Q => WC P n c env H fun ex env H => After n ks ex env H Q
  | .code c :: ks, .exit i, env, H, Q => After n ks (.exit i) env H Q
  | .code c :: ks, .ret, env, H, Q => After n ks .ret env H Q
  | .blk id :: ks, .exit i, env, H, Q => if i = id then After n ks .normal env H Q else After n ks (.exit i) env H Q
  | .blk id :: ks, .normal, env, H, Q => After n ks .normal env H Q
  | .blk id :: ks, .ret, env, H, Q => After n ks .ret env H Q

def AfterOps (Kp : Kept) (n : Nat) (ops : Array Oper) (l : List (Oper × Bool)) (ks : List KItem) (env : Env) (H : Heap) (Q : Ex → Env → Heap → Prop) : Prop :=
  WS P Kp n ops l env H fun env H => After P n ks .normal env H Q

def OpStep (Kp : Kept) (n : Nat) (ops : Array Oper) (d : Option Tmp) (fl : Bool) (res : Option (AV × Heap)) (l : List (Oper × Bool)) (ks : List KItem) (env : Env) (H : Heap) (Q : Ex → Env → Heap → Prop) : Prop :=
  match res with
  | some (r, H1) => (H1.next = H.next ∨ H.blk H.next = none) ∧ (fl = true → UpB H.blk H1.blk) ∧ AfterOps P Kp n ops l ks (env.put d r) H1 Q
  | none => False

def OpStepK (K : (Nat → Prop) × Bool) (n : Nat) (ops : Array Oper) (o : Oper) (l : List (Oper × Bool)) (ks : List KItem) (env : Env) (H : Heap) (Q : Ex → Env → Heap → Prop) : Prop :=
  match evOp P env.at o H with
  | some (r, H1) => (H1.next = H.next ∨ H.blk H.next = none) ∧ FlOp P (some K) o env H r H1 ∧ AfterOps P (some K) n ops l ks (env.put o.dst r) H1 Q
  | none => False

def CallStep (Kp : Kept) (n : Nat) (ops : Array Oper) (d : Option Tmp) (fl : Bool) (f : AV) (args : List AV) (l : List (Oper × Bool)) (ks : List KItem) (env : Env) (H : Heap) (Q : Ex → Env → Heap → Prop) : Prop :=
  WCall P f args H fun r H1 => (fl = true → UpO Kp H.blk H1.blk) ∧ AfterOps P Kp n ops l ks (env.put d r) H1 Q

def DrawStep (n : Nat) (ops : Array Oper) (ks : List KItem) (env : Env) (H : Heap) (Q : Ex → Env → Heap → Prop) : Prop :=
  WC P n (.region 0 ops true) env H fun ex env H => After P n ks ex env H Q

def LoopStep (n : Nat) (c : Code) (ks : List KItem) (env : Env) (H : Heap) (Q : Ex → Env → Heap → Prop) : Prop :=
  WC P n (.loop c) env H fun ex env H => After P n ks ex env H Q

def CondStep (n : Nat) (c : AV) (a b : Code) (ks : List KItem) (env : Env) (H : Heap) (Q : Ex → Env → Heap → Prop) : Prop :=
  match c with
  | .bool t => if t = true then After P n (.code a :: ks) .normal env H Q else After P n (.code b :: ks) .normal env H Q
  | _ => False

def GuardStep (Kp : Kept) (n : Nat) (ops : Array Oper) (o : Oper) (fl : Bool) (w : Option Bool) (l : List (Oper × Bool)) (ks : List KItem) (env : Env) (H : Heap) (Q : Ex → Env → Heap → Prop) : Prop :=
  match w with
  | some true => AfterOps P Kp n ops (({ o with guard := none }, fl) :: l) ks env H Q
  | some false => AfterOps P Kp n ops l ks (env.put o.dst (.tuple [])) H Q
  | none => False

variable {P} {Kp : Kept} {n : Nat} {ks : List KItem} {env : Env} {H : Heap} {Q : Ex → Env → Heap → Prop} {ops : Array Oper} {l : List (Oper × Bool)}

theorem WC_mono {n : Nat} : ∀ (c : Code) {env : Env} {H : Heap} {Q Q' : Ex → Env → Heap → Prop}, (∀ ex env H, Q ex env H → Q' ex env H) → WC P n c env H Q → WC P n c env H Q' := by
  have WSm : ∀ {Kp : Kept} (ops : Array Oper) (l : List (Oper × Bool)) {env : Env} {H : Heap} {K K' : Env → Heap → Prop}, (∀ env H, K env H → K' env H) → WS P Kp n ops l env H K → WS P Kp n ops l env H K' := by
    intro Kp ops l
    induction l with
    | nil => intro env H K K' hk h; exact hk _ _ h
    | cons p l ih =>
      obtain ⟨o, fl⟩ := p
      intro env H K K' hk h
      simp only [WS] at h ⊢
      split at h
      · exact ih hk h
      · split at h
        · unfold WCall at h ⊢
          split at h
          · obtain ⟨r, H1, h1, h2, h3⟩ := h; exact ⟨r, H1, h1, h2, ih hk h3⟩
          · exact h
        · split at h
          · exact ⟨h.1, h.2.1, ih hk h.2.2⟩
          · exact h
      · exact h
  intro c
  induction c with
  | skip => intro env H Q Q' hq h; exact hq _ _ _ h
  | label l => intro env H Q Q' hq h; exact hq _ _ _ h
  | region id ops d =>
    intro env H Q Q' hq h
    cases d
    · exact WSm _ _ (hq _) h
    · simp only [WC] at h ⊢
      obtain ⟨Kp, fs, base, h1, h2⟩ := h
      exact ⟨Kp, fs, base, h1, WSm _ _ (hq _) h2⟩
  | seq a b iha ihb =>
    intro env H Q Q' hq h
    simp only [WC] at h ⊢
    refine iha (fun ex env H h => ?_) h
    cases ex with
    | normal => exact ihb hq h
    | exit i => exact hq _ _ _ h
    | ret => exact hq _ _ _ h
  | cond c a b iha ihb =>
    intro env H Q Q' hq h
    simp only [WC] at h ⊢
    split at h
    · split at h
      · rename_i e; rw [if_pos e]; exact iha hq h
      · rename_i e; rw [if_neg e]; exact ihb hq h
    · exact h
  | block id c ih =>
    intro env H Q Q' hq h
    simp only [WC] at h ⊢
    refine ih (fun ex env H h => ?_) h
    cases ex with
    | normal => exact hq _ _ _ h
    | exit i =>
      simp only at h ⊢
      split at h
      · rename_i e; rw [if_pos e]; exact hq _ _ _ h
      · rename_i e; rw [if_neg e]; exact hq _ _ _ h
    | ret => exact hq _ _ _ h
  | loop c ih =>
    intro env H Q Q' hq h
    simp only [WC] at h ⊢
    obtain ⟨ex, env', H', h1, h2⟩ := h
    exact ⟨ex, env', H', h1, hq _ _ _ h2⟩
  | exit id => intro env H Q Q' hq h; exact hq _ _ _ h
  | ret => intro env H Q Q' hq h; exact hq _ _ _ h
  | scope c ih =>
    intro env H Q Q' hq h
    simp only [WC] at h ⊢
    exact ih hq h
  | _ => intro env H Q Q' hq h; simp [WC] at h

theorem after_seq {a b : Code} : After P n (.code (.seq a b) :: ks) .normal env H Q = After P n (.code a :: .code b :: ks) .normal env H Q := by
  simp only [After, WC]
  congr 1
  funext ex env H
  cases ex <;> rfl
theorem after_skip : After P n (.code .skip :: ks) .normal env H Q = After P n ks .normal env H Q := rfl
theorem after_label {l : Nat} : After P n (.code (.label l) :: ks) .normal env H Q = After P n ks .normal env H Q := rfl
theorem after_exit {i : Nat} : After P n (.code (.exit i) :: ks) .normal env H Q = After P n ks (.exit i) env H Q := rfl
theorem after_ret : After P n (.code .ret :: ks) .normal env H Q = After P n ks .ret env H Q := rfl
theorem after_code_exit {c : Code} {i : Nat} : After P n (.code c :: ks) (.exit i) env H Q = After P n ks (.exit i) env H Q := rfl
theorem after_code_ret {c : Code} : After P n (.code c :: ks) .ret env H Q = After P n ks .ret env H Q := rfl
theorem after_blk {i : Nat} : After P n (.blk i :: ks) .normal env H Q = After P n ks .normal env H Q := rfl
theorem after_blk_ret {i : Nat} : After P n (.blk i :: ks) .ret env H Q = After P n ks .ret env H Q := rfl
theorem after_blk_exit {i j : Nat} : After P n (.blk i :: ks) (.exit j) env H Q = if j = i then After P n ks .normal env H Q else After P n ks (.exit j) env H Q := rfl
theorem after_nil {ex : Ex} : After P n [] ex env H Q = Q ex env H := by cases ex <;> rfl
theorem after_block {i : Nat} {c : Code} : After P n (.code (.block i c) :: ks) .normal env H Q = After P n (.code c :: .blk i :: ks) .normal env H Q := by
  simp only [After, WC]
  congr 1
  funext ex env H
  cases ex <;> rfl
theorem after_cond {c : Operand} {a b : Code} : After P n (.code (.cond c a b) :: ks) .normal env H Q = CondStep P n (env.at c) a b ks env H Q := by
  simp only [After, WC, CondStep]
  cases env.at c <;> rfl
theorem condStep_true {a b : Code} : CondStep P n (.bool true) a b ks env H Q = After P n (.code a :: ks) .normal env H Q := rfl
theorem condStep_false {a b : Code} : CondStep P n (.bool false) a b ks env H Q = After P n (.code b :: ks) .normal env H Q := rfl
theorem after_region {id : Nat} : After P n (.code (.region id ops false) :: ks) .normal env H Q = AfterOps P none n ops (plain ops) ks env H Q := rfl
theorem after_draw {id : Nat} : After P n (.code (.region id ops true) :: ks) .normal env H Q = DrawStep P n ops ks env H Q := rfl
theorem after_scope {c : Code} : After P n (.code (.scope c) :: ks) .normal env H Q = After P n (.code c :: ks) .normal env H Q := by simp only [After, WC]
theorem after_loop {c : Code} : After P n (.code (.loop c) :: ks) .normal env H Q = LoopStep P n c ks env H Q := rfl

theorem afterOps_nil : AfterOps P Kp n ops [] ks env H Q = After P n ks .normal env H Q := rfl

theorem opStep_some {d : Option Tmp} {r : AV} {H1 : Heap} : OpStep P Kp n ops d false (some (r, H1)) l ks env H Q = ((H1.next = H.next ∨ H.blk H.next = none) ∧ AfterOps P Kp n ops l ks (env.put d r) H1 Q) := by
  simp [OpStep]
theorem opStep_flag {d : Option Tmp} {r : AV} {H1 : Heap} : OpStep P Kp n ops d true (some (r, H1)) l ks env H Q = ((H1.next = H.next ∨ H.blk H.next = none) ∧ UpB H.blk H1.blk ∧ AfterOps P Kp n ops l ks (env.put d r) H1 Q) := by
  simp [OpStep]

def here : Op → Bool
  | .call { callee := .value _, .. } => false
  | _ => true

def HereStep (P : Program) (Kp : Kept) (n : Nat) (ops : Array Oper) (d : Option Tmp) (op : Op) (ty : TypeId) (pos : String) (af : Array Edge) (fl : Bool) (h : Bool) (l : List (Oper × Bool)) (ks : List KItem) (env : Env) (H : Heap) (Q : Ex → Env → Heap → Prop) : Prop :=
  match h with
  | true => (match fl, Kp with
    | true, some K => OpStepK P K n ops ⟨d, op, ty, pos, af, none⟩ l ks env H Q
    | fl, Kp => OpStep P Kp n ops d fl (evOp P env.at ⟨d, op, ty, pos, af, none⟩ H) l ks env H Q)
  | false => match op with
    | .call ⟨.value f, args, _⟩ => CallStep P Kp n ops d fl (env.at f) (args.toList.map env.at) l ks env H Q
    | _ => False

theorem afterOps_op {d : Option Tmp} {op : Op} {ty : TypeId} {pos : String} {af : Array Edge} {fl : Bool} (hd : dstOk n d = true) :
    AfterOps P Kp n ops ((⟨d, op, ty, pos, af, none⟩, fl) :: l) ks env H Q = HereStep P Kp n ops d op ty pos af fl (here op) l ks env H Q := by
  cases hh : here op with
  | true =>
    unfold AfterOps HereStep
    rw [WS]
    simp only [wantedA, hd]
    split
    · cases hh
    · cases fl with
      | false =>
        unfold OpStep
        cases evOp P env.at ⟨d, op, ty, pos, af, none⟩ H <;> simp [AfterOps]
      | true =>
        cases Kp with
        | none =>
          unfold OpStep
          cases evOp P env.at ⟨d, op, ty, pos, af, none⟩ H <;> simp [AfterOps, FlOp]
        | some K =>
          unfold OpStepK
          cases evOp P env.at ⟨d, op, ty, pos, af, none⟩ H <;> simp [AfterOps]
  | false =>
    unfold HereStep
    simp only
    split
    · unfold AfterOps CallStep
      rw [WS]
      simp only [wantedA, hd]
      rfl
    · rename_i hne
      unfold here at hh
      split at hh
      · rename_i f args ts; exact absurd rfl (hne f args ts)
      · cases hh

theorem hereStep_true {d : Option Tmp} {op : Op} {ty : TypeId} {pos : String} {af : Array Edge} :
    HereStep P Kp n ops d op ty pos af false true l ks env H Q = OpStep P Kp n ops d false (evOp P env.at ⟨d, op, ty, pos, af, none⟩ H) l ks env H Q := rfl
theorem hereStep_flag {d : Option Tmp} {op : Op} {ty : TypeId} {pos : String} {af : Array Edge} :
    HereStep P none n ops d op ty pos af true true l ks env H Q = OpStep P none n ops d true (evOp P env.at ⟨d, op, ty, pos, af, none⟩ H) l ks env H Q := rfl
theorem hereStep_K {K : (Nat → Prop) × Bool} {d : Option Tmp} {op : Op} {ty : TypeId} {pos : String} {af : Array Edge} :
    HereStep P (some K) n ops d op ty pos af true true l ks env H Q = OpStepK P K n ops ⟨d, op, ty, pos, af, none⟩ l ks env H Q := rfl

theorem opStepK_read {K : (Nat → Prop) × Bool} {o : Oper} (r : AV) (h : ∀ (G : Blks) (m : Nat), UpO (some K) H.blk G → evOp P env.at o ⟨G, m⟩ = some (r, ⟨G, m⟩)) (hA : AfterOps P (some K) n ops l ks (env.put o.dst r) H Q) : OpStepK P K n ops o l ks env H Q := by
  unfold OpStepK
  have := h H.blk H.next (UpO.refl _)
  rw [show (⟨H.blk, H.next⟩ : Heap) = H from rfl] at this
  rw [this]
  exact ⟨.inl rfl, ⟨UpO.refl _, fun _ G m hG => h G m hG⟩, hA⟩
theorem hereStep_false {d : Option Tmp} {f : Operand} {args : Array Operand} {ts : Array TypeId} {ty : TypeId} {pos : String} {af : Array Edge} {fl : Bool} :
    HereStep P Kp n ops d (.call ⟨.value f, args, ts⟩) ty pos af fl false l ks env H Q = CallStep P Kp n ops d fl (env.at f) (args.toList.map env.at) l ks env H Q := rfl

theorem afterOps_guard {d : Option Tmp} {op : Op} {ty : TypeId} {pos : String} {af : Array Edge} {fl : Bool} {g : Nat × Bool} (hd : dstOk n d = true) :
    AfterOps P Kp n ops ((⟨d, op, ty, pos, af, some g⟩, fl) :: l) ks env H Q = GuardStep P Kp n ops ⟨d, op, ty, pos, af, some g⟩ fl (wantedA ops env ⟨d, op, ty, pos, af, some g⟩) l ks env H Q := by
  unfold AfterOps GuardStep
  rw [WS]
  simp only [hd]
  have key : ∀ ρ : Operand → AV, evOp P ρ ⟨d, op, ty, pos, af, some g⟩ H = evOp P ρ ⟨d, op, ty, pos, af, none⟩ H := fun ρ => rfl
  have key2 : ∀ r H1, FlOp P Kp ⟨d, op, ty, pos, af, some g⟩ env H r H1 = FlOp P Kp ⟨d, op, ty, pos, af, none⟩ env H r H1 := fun r H1 => by cases Kp <;> rfl
  cases wantedA ops env ⟨d, op, ty, pos, af, some g⟩ with
  | none => rfl
  | some b =>
    cases b with
    | false => rfl
    | true =>
      simp only [AfterOps]
      rw [WS]
      simp only [wantedA, hd, key, key2]

theorem guardStep_true {o : Oper} {fl : Bool} : GuardStep P Kp n ops o fl (some true) l ks env H Q = AfterOps P Kp n ops (({ o with guard := none }, fl) :: l) ks env H Q := rfl
theorem guardStep_false {o : Oper} {fl : Bool} : GuardStep P Kp n ops o fl (some false) l ks env H Q = AfterOps P Kp n ops l ks (env.put o.dst (.tuple [])) H Q := rfl

theorem callStep {d : Option Tmp} {f : FuncId} {fs cs args : List AV} (h : WF P f (fs ++ args ++ cs) H fun r H1 => AfterOps P Kp n ops l ks (env.put d r) H1 Q) : CallStep P Kp n ops d false (.func (.func f) fs cs) args l ks env H Q := by
  unfold CallStep WCall
  exact h.mono fun r H1 h => ⟨by simp, h⟩
theorem callStep_flag {d : Option Tmp} {f : FuncId} {fs cs args : List AV} (h : WF P f (fs ++ args ++ cs) H fun r H1 => UpO Kp H.blk H1.blk ∧ AfterOps P Kp n ops l ks (env.put d r) H1 Q) : CallStep P Kp n ops d true (.func (.func f) fs cs) args l ks env H Q := by
  unfold CallStep WCall
  exact h.mono fun r H1 h => ⟨fun _ => h.1, h.2⟩

theorem drawStep (fs base : List Nat) (l : List (Oper × Bool)) (hl : laid ops fs base = l) (hok : drawOk P ops fs.contains base = true) (h : AfterOps P none n ops l ks env H Q) : DrawStep P n ops ks env H Q := by
  unfold DrawStep
  simp only [WC]
  exact ⟨none, fs, base, hok, hl ▸ h⟩

theorem drawStepK (K : Nat → Prop) (fs base : List Nat) (l : List (Oper × Bool)) (hl : laid ops fs base = l) (hok : drawOkE P true false ops fs.contains base = true) (h : AfterOps P (some (K, false)) n ops l ks env H Q) : DrawStep P n ops ks env H Q := by
  unfold DrawStep
  simp only [WC]
  exact ⟨some (K, false), fs, base, hok, hl ▸ h⟩

theorem loopStep {c : Code} (I : Env → Heap → Prop) (μ : Env → Heap → Nat) (h0 : I env H)
    (round : ∀ env H, I env H → After P n [.code c] .normal env H fun ex env' H' => match ex with | .normal => I env' H' ∧ μ env' H' < μ env H | ex => After P n ks ex env' H' Q) : LoopStep P n c ks env H Q := by
  unfold LoopStep
  simp only [WC]
  refine WL_of P I μ (fun ex env H => After P n ks ex env H Q) (fun env H hI => ?_) env H h0
  have := round env H hI
  simp only [After] at this
  refine WC_mono c (fun ex env H h => ?_) this
  cases ex <;> exact h

def RoundEnd (P : Program) (n : Nat) (I : Env → Heap → Prop) (μ : Env → Heap → Nat) (m : Nat) (ks : List KItem) (Q : Ex → Env → Heap → Prop) (ex : Ex) (env : Env) (H : Heap) : Prop :=
  match ex with
  | .normal => I env H ∧ μ env H < m
  | ex => After P n ks ex env H Q

theorem roundEnd_normal {I : Env → Heap → Prop} {μ : Env → Heap → Nat} {m : Nat} : RoundEnd P n I μ m ks Q .normal env H = (I env H ∧ μ env H < m) := rfl
theorem roundEnd_exit {I : Env → Heap → Prop} {μ : Env → Heap → Nat} {m i : Nat} : RoundEnd P n I μ m ks Q (.exit i) env H = After P n ks (.exit i) env H Q := rfl
theorem roundEnd_ret {I : Env → Heap → Prop} {μ : Env → Heap → Nat} {m : Nat} : RoundEnd P n I μ m ks Q .ret env H = After P n ks .ret env H Q := rfl

theorem loopStep' {c : Code} (I : Env → Heap → Prop) (μ : Env → Heap → Nat) (h0 : I env H)
    (round : ∀ env H, I env H → After P n [.code c] .normal env H (RoundEnd P n I μ (μ env H) ks Q)) : LoopStep P n c ks env H Q :=
  loopStep I μ h0 fun env H hI => by
    have := round env H hI
    simp only [After] at this ⊢
    refine WC_mono c (fun ex env H h => ?_) this
    cases ex <;> exact h

def FinR (res : Option AV) (H : Heap) (K : AV → Heap → Prop) : Prop :=
  match res with
  | some r => K r H
  | none => False
def Fin (P : Program) (rs : List ResultVar) (K : AV → Heap → Prop) (ex : Ex) (env : Env) (H : Heap) : Prop :=
  match ex with
  | .normal => FinR (evResults P rs env H) H K
  | .ret => FinR (evResults P rs env H) H K
  | .exit _ => False
theorem fin_normal {rs : List ResultVar} {K : AV → Heap → Prop} : Fin P rs K .normal env H = FinR (evResults P rs env H) H K := rfl
theorem fin_ret {rs : List ResultVar} {K : AV → Heap → Prop} : Fin P rs K .ret env H = FinR (evResults P rs env H) H K := rfl
theorem finR_some {r : AV} {K : AV → Heap → Prop} : FinR (some r) H K = K r H := rfl

theorem WF_body {f : FuncId} {fn : Func} {c : Code} {args : List AV} {H : Heap} {K : AV → Heap → Prop} (hf : P.funcs[f]? = some fn) (hn : (fn.name == "runtime.NumGoroutine") = false) (hb : fn.body = some c) {nt : Nat} (hnt : fn.ntmps = nt) {rs : List ResultVar} (hrs : fn.results.toList = rs) (ha : args.length ≤ nt)
    (h : After P nt [.code c] .normal (Env.ofArgs args) H (Fin P rs K)) : WF P f args H K := by
  subst hnt hrs
  refine WF_of P hf hn hb ha ?_
  simp only [After] at h
  refine WC_mono c (fun ex env H h => ?_) h
  cases ex with
  | normal => simp only [Fin, FinR] at h ⊢; cases hr : evResults P fn.results.toList env H <;> simp_all
  | ret => simp only [Fin, FinR] at h ⊢; cases hr : evResults P fn.results.toList env H <;> simp_all
  | exit i => exact h.elim

theorem dstOk_none : dstOk n none = true := by simp [dstOk]
theorem dstOk_some {d : Nat} (h : decide (d < n) = true) : dstOk n (some d) = true := h
theorem put_at {d t : Nat} {v : AV} : Env.at (Env.put env (some d) v) (.tmp t) = if t = d then v else Env.at env (.tmp t) := rfl
theorem put_none {v : AV} : Env.put env none v = env := rfl
theorem at_const {v : Value} : Env.at env (.const v) = avOf v := rfl
theorem at_func {f : FuncId} : Env.at env (.func f) = .func (.func f) [] [] := rfl
theorem args_at {args : List AV} {t : Nat} : Env.at (Env.ofArgs args) (.tmp t) = args.getD t .undef := rfl
theorem evResult_tmp {t : Nat} : evResult P env H (.tmp t) = some (Env.at env (.tmp t)) := rfl

def HP (H : Heap) (xs : List Blk) : Heap := ⟨fun b => if b < H.next then H.blk b else xs[b - H.next]?, H.next + xs.length⟩

theorem Free.hp {H : Heap} (h : Free H) (x : Blk) : H.push x = HP H [x] := Heap.ext' (fun i => by
  simp only [Heap.push, HP]
  by_cases h1 : i = H.next
  · subst h1; simp
  · rw [if_neg h1]
    by_cases h2 : i < H.next
    · rw [if_pos h2]
    · rw [if_neg h2, h i (by omega)]
      rw [List.getElem?_eq_none]; simp; omega) rfl
theorem hp_push {H : Heap} {xs : List Blk} {y : Blk} : (HP H xs).push y = HP H (xs ++ [y]) := Heap.ext' (fun i => by
  show (if i = H.next + xs.length then some y else if i < H.next then H.blk i else xs[i - H.next]?) = (if i < H.next then H.blk i else (xs ++ [y])[i - H.next]?)
  by_cases h1 : i = H.next + xs.length
  · subst h1; rw [if_pos rfl, if_neg (by omega)]; simp
  · rw [if_neg h1]
    by_cases h2 : i < H.next
    · rw [if_pos h2, if_pos h2]
    · rw [if_neg h2, if_neg h2]
      by_cases h3 : i - H.next < xs.length
      · rw [List.getElem?_append_left h3]
      · rw [List.getElem?_eq_none (by omega), List.getElem?_eq_none (by simp; omega)]) (by simp [HP, Heap.push]; omega)
theorem hp_next {H : Heap} {xs : List Blk} : (HP H xs).next = H.next + xs.length := rfl
theorem hp_blk0 {H : Heap} {xs : List Blk} : (HP H xs).blk H.next = xs[0]? := by simp [HP]
theorem hp_blk {H : Heap} {xs : List Blk} {k : Nat} : (HP H xs).blk (H.next + k) = xs[k]? := by
  show (if H.next + k < H.next then H.blk (H.next + k) else xs[H.next + k - H.next]?) = xs[k]?
  rw [if_neg (by omega), Nat.add_sub_cancel_left]
theorem hp_set0 {H : Heap} {xs : List Blk} {y : Blk} (h : 0 < xs.length) : (HP H xs).set H.next y = HP H (xs.set 0 y) := Heap.ext' (fun i => by
  simp only [HP, Heap.set]
  by_cases h1 : i = H.next
  · subst h1; simp [h]
  · rw [if_neg h1]
    by_cases h2 : i < H.next
    · rw [if_pos h2, if_pos h2]
    · rw [if_neg h2, if_neg h2, List.getElem?_set_ne (by omega)]) (by simp [HP, Heap.set])
theorem hp_set {H : Heap} {xs : List Blk} {k : Nat} {y : Blk} (h : k < xs.length) : (HP H xs).set (H.next + k) y = HP H (xs.set k y) := Heap.ext' (fun i => by
  simp only [HP, Heap.set]
  by_cases h1 : i = H.next + k
  · subst h1; rw [if_pos rfl, if_neg (by omega), Nat.add_sub_cancel_left, List.getElem?_set_self h]
  · rw [if_neg h1]
    by_cases h2 : i < H.next
    · rw [if_pos h2, if_pos h2]
    · rw [if_neg h2, if_neg h2, List.getElem?_set_ne (by omega)]) (by simp [HP, Heap.set])
theorem Free.hpF {H : Heap} (h : Free H) (xs : List Blk) : Free (HP H xs) := ⟨fun b hb => by
  have hb' : H.next + xs.length ≤ b := hb
  simp only [HP]
  rw [if_neg (by omega), List.getElem?_eq_none (by omega)], fun b hb => by
  have := h.base
  simp only [HP]
  rw [if_pos (by omega)]; exact h.low b hb, Nat.le_trans h.base (Nat.le_add_right _ _)⟩
theorem Free.hpU {H : Heap} (h : Free H) (xs : List Blk) : Up H (HP H xs) := fun b x hb => by
  simp only [HP]
  rw [if_pos (h.lt hb).2]; exact hb

def placesOf (P : Program) (t : TypeId) : Option (List (Nat × Nat)) :=
  match P.underlying t with
  | some (.struct fs) => fs.toList.mapM fun f => (szOf P f.type).map fun s => (f.offset, s)
  | _ => none

theorem fillA_congr {p q : Nat → Option (Nat × Nat)} (h : ∀ i, p i = q i) : ∀ (parts : List (Nat × AV)) (cells : List AV), fillA p cells parts = fillA q cells parts
  | [], cells => rfl
  | (i, v) :: rest, cells => by
    simp only [fillA, h i]
    split
    · rfl
    · split
      · exact fillA_congr h rest _
      · rfl

theorem evBuild_struct {t : TypeId} {zc : List AV} {ps : List (Nat × Nat)} (hz : zeroOf P t = some (.agg zc)) (hp : placesOf P t = some ps) (parts : List (Nat × AV)) : evBuild P t parts = (fillA (fun i => ps[i]?) zc parts).map .agg := by
  unfold placesOf at hp
  split at hp
  · rename_i fs hu
    obtain ⟨h1, h2⟩ := mapM_some_iff hp
    have hall : fs.all (fun f => (szOf P f.type).isSome) = true := by
      rw [Array.all_eq_true_iff_forall_mem]
      intro f hf
      obtain ⟨i, hi, rfl⟩ := Array.mem_iff_getElem.1 hf
      obtain ⟨b, hb, _⟩ := h2 i fs[i] (by simp)
      obtain ⟨s, hs, _⟩ := map_some_eq hb
      simp [hs]
    unfold evBuild
    rw [hz, hu]
    simp only [AV.isUndef, Bool.false_eq_true, if_false, hall, if_true, AV.cells]
    congr 1
    refine fillA_congr (fun i => ?_) _ _
    by_cases hi : i < fs.size
    · obtain ⟨b, hb, hb'⟩ := h2 i fs[i] (by simp)
      rw [hb']
      simp [hi, hb]
    · rw [List.getElem?_eq_none (by rw [h1]; simpa using hi)]
      simp [hi]
  · cases hp

end
end Go.Ev
set_option linter.unusedVariables false
set_option linter.unusedSimpArgs false
namespace Go.Ev
section
variable {P : Program}

def WBool (w : Bool) (v : AV) : Option Bool := match v with | .bool b => some (b == w) | .tuple [] => some false | _ => none
def WStep (w : Bool) (d : Option Tmp) (env : Env) : Option Bool := match d with | some d => WBool w (env.at (.tmp d)) | none => none
theorem wantedA_guard {ops : Array Oper} {env : Env} {d : Option Tmp} {op : Op} {ty : TypeId} {pos : String} {af : Array Edge} {j : Nat} {w : Bool} : wantedA ops env ⟨d, op, ty, pos, af, some (j, w)⟩ = WStep w ((ops[j]?).bind (·.dst)) env := by
  simp only [wantedA, WStep, WBool, Env.at]
  rfl
theorem wstep_some {w : Bool} {d : Tmp} {env : Env} : WStep w (some d) env = WBool w (env.at (.tmp d)) := rfl
theorem wbool_off {w : Bool} : WBool w (.tuple []) = some false := rfl
theorem wbool_true {b : Bool} : WBool true (.bool b) = some b := by cases b <;> rfl
theorem wbool_false {b : Bool} : WBool false (.bool b) = some (!b) := by cases b <;> rfl

theorem load_ptr {H : Heap} {b i o g n : Nat} : H.load (.ptr b i o g) n = (match H.blk b with
    | some (.row _ esz els _ wgen) =>
      if wgen ≤ g ∧ o + n ≤ esz then
        match els[i]? with
        | some cs => some ((cs.drop o).take n)
        | none => none
      else none
    | _ => none) := rfl
theorem load_iptr {H : Heap} {cs : List AV} {o n : Nat} : H.load (.iptr cs o) n = if o + n ≤ cs.length then some ((cs.drop o).take n) else none := rfl

theorem Holds.lenAt {H : Heap} {esz : Nat} {v : AV} {L : List (List AV)} (h : Holds H esz v L) {t e : TypeId} (ht : P.underlying t = some (.slice e)) (G : Heap) : evBuiltin P G .len #[t] [v] = some (.int .i64 L.length, G) := by
  obtain ⟨h0, ⟨rfl, rfl | rfl⟩ | rfl | ⟨b, off, cap, ex, g, ty, els, gen, wgen, rfl, h2, h3⟩⟩ := h <;> simp [evBuiltin, ht]

theorem len_str {t : TypeId} (ht : P.underlying t = some .string) (G : Heap) (s : List Nat) : evBuiltin P G .len #[t] [.str s] = some (.int .i64 s.length, G) := by simp [evBuiltin, ht]
theorem len_nil {t e : TypeId} (ht : P.underlying t = some (.slice e)) (G : Heap) : evBuiltin P G .len #[t] [.nilslice] = some (.int .i64 0, G) := by simp [evBuiltin, ht]
theorem len_slice {t e : TypeId} (ht : P.underlying t = some (.slice e)) (G : Heap) (b o l c : Nat) (ex : Bool) (g : Nat) : evBuiltin P G .len #[t] [.slice b o l c ex g] = some (.int .i64 l, G) := by simp [evBuiltin, ht]

theorem wrap_succ {i : Nat} (h : i < 2 ^ 62) : IntKind.i64.wrap ((i : Int) + 1) = ((i + 1 : Nat) : Int) := by
  rw [IntWalk.i64_in _ (by omega)]; omega

theorem lt_true {i n : Nat} (h : i < n) : ((i : Int) < (n : Int)) = True := by simp; exact h
theorem lt_false {i n : Nat} (h : ¬ i < n) : ((i : Int) < (n : Int)) = False := by simp; omega

theorem holds_hp {H : Heap} {xs : List Blk} {k n esz ty : Nat} {c : Nat} {ex : Bool} {L : List (List AV)} (hx : xs[k]? = some (.row ty esz L 0 0)) (hn : L.length = n) (hc : n ≤ c) (hL : ∀ cs ∈ L, cs.length = esz) :
    Holds (HP H xs) esz (.slice (H.next + k) 0 n c ex 0) L := by
  subst hn
  exact ⟨hL, .inr (.inr ⟨H.next + k, 0, c, ex, 0, ty, L, 0, 0, rfl, by rw [hp_blk]; exact hx, Nat.le_refl _, by simp, by simp, hc⟩)⟩

def FreshS (H : Heap) (v : AV) : Prop := ∀ b off len cap ex g, v = .slice b off len cap ex g → H.blk b = none

theorem FreshS.up {G H : Heap} {v : AV} (h : FreshS H v) (hu : Up G H) : FreshS G v := fun b off len cap ex g e => hu.fresh (h b off len cap ex g e)

theorem Own.base {G G' H : Heap} {ty esz : Nat} {v : AV} {L : List (List AV)} (h : Own G' H ty esz v L) (hu : Up G G') : Own G H ty esz v L := by
  obtain ⟨h0, h | ⟨b, g, wgen, h1, h2, h3, h4⟩ | ⟨b, g, ty', gen, wgen, h1, h2, h3, h4⟩⟩ := h
  · exact ⟨h0, .inl h⟩
  · exact ⟨h0, .inr (.inl ⟨b, g, wgen, h1, h2, h3, hu.fresh h4⟩)⟩
  · exact ⟨h0, .inr (.inr ⟨b, g, ty', gen, wgen, h1, h2, h3, hu.fresh h4⟩)⟩

theorem own_hp {G H : Heap} {xs : List Blk} {k n esz ty ty' : Nat} {L : List (List AV)} (hF : Free H) (hU : Up G H) (hx : xs[k]? = some (.row ty' esz L 0 0)) (hn : L.length = n) (hL : ∀ cs ∈ L, cs.length = esz ∧ cs.all AV.isCell = true) :
    Own G (HP H xs) ty esz (.slice (H.next + k) 0 n n true 0) L := by
  subst hn
  exact ⟨hL, .inr (.inr ⟨H.next + k, 0, ty', 0, 0, rfl, by rw [hp_blk]; exact hx, ⟨Nat.le_refl _, rfl⟩, hU.fresh (hF _ (by omega))⟩)⟩

variable {Kp : Kept} {n : Nat} {ks : List KItem} {env : Env} {Q : Ex → Env → Heap → Prop} {ops : Array Oper} {l : List (Oper × Bool)}

def RoundR (I : Env → Heap → Prop) (μ : Env → Heap → Nat) (m : Nat) (R : Ex → Env → Heap → Prop) (ex : Ex) (env : Env) (H : Heap) : Prop :=
  match ex with
  | .normal => I env H ∧ μ env H < m
  | ex => R ex env H

theorem roundR_normal {I : Env → Heap → Prop} {μ : Env → Heap → Nat} {m : Nat} {R : Ex → Env → Heap → Prop} {env : Env} {H : Heap} : RoundR I μ m R .normal env H = (I env H ∧ μ env H < m) := rfl
theorem roundR_exit {I : Env → Heap → Prop} {μ : Env → Heap → Nat} {m i : Nat} {R : Ex → Env → Heap → Prop} {env : Env} {H : Heap} : RoundR I μ m R (.exit i) env H = R (.exit i) env H := rfl
theorem roundR_ret {I : Env → Heap → Prop} {μ : Env → Heap → Nat} {m : Nat} {R : Ex → Env → Heap → Prop} {env : Env} {H : Heap} : RoundR I μ m R .ret env H = R .ret env H := rfl

theorem loopStepR {c : Code} {H : Heap} (I : Env → Heap → Prop) (μ : Env → Heap → Nat) (R : Ex → Env → Heap → Prop) (h0 : I env H)
    (round : ∀ env H, I env H → After P n [.code c] .normal env H (RoundR I μ (μ env H) R)) (after : ∀ ex env H, R ex env H → After P n ks ex env H Q) : LoopStep P n c ks env H Q :=
  loopStep I μ h0 fun env H hI => by
    have := round env H hI
    simp only [After] at this ⊢
    refine WC_mono c (fun ex env H h => ?_) this
    cases ex
    · exact h
    · exact after _ _ _ h
    · exact after _ _ _ h

theorem opStep_append {G H : Heap} {d : Option Tmp} {t u e esz bytes : Nat} (hb : appB P t u e esz bytes = true) {v x : AV} {L new : List (List AV)} (hO : Own G H e esz v L) (hF : Free H) (hU : Up G H) (hx : Holds H esz x new)
    (hnew : ∀ cs ∈ new, cs.all AV.isCell = true) (hsz : (L.length + new.length) * bytes ≤ maxBytes) (hsz' : L.length + new.length ≤ maxBytes)
    (h : ∀ u K, Own G K e esz u (L ++ new) → Up G K → Free K → AfterOps P Kp n ops l ks (env.put d u) K Q) : OpStep P Kp n ops d false (evBuiltin P H .append #[t, u] [v, x]) l ks env H Q := by
  obtain ⟨r, K, h1, h2, h3, h4, h5, _⟩ := hO.append hF hU (fun cs hc => ⟨hx.1 cs hc, hnew cs hc⟩) hsz hsz'
  rw [append_ev hb hx.len? hx.elems, append1_some h1, opStep_some]
  exact ⟨h5, h r K h2 h3 h4⟩

end
end Go.Ev
