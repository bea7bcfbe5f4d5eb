import Derived.Test.YtjjmdbhgmecpjaaGreatDoorEvM
import Derived.Calls
set_option linter.unusedVariables false
set_option linter.unusedSimpArgs false
namespace Go.Ev

abbrev Env := Nat → AV

def Env.put (env : Env) (d : Option Tmp) (v : AV) : Env :=
  match d with
  | some d => fun t => if t = d then v else env t
  | none => env

def Env.at (env : Env) : Operand → AV
  | .tmp t => env t
  | .const v => avOf v
  | .global _ => .undef
  | .func f => .func (.func f) [] []

def Env.ofArgs (args : List AV) : Env := fun t => args.getD t .undef

inductive Ex where
  | normal
  | exit (id : Nat)
  | ret
  deriving DecidableEq

def Ex.out : Ex → Exit
  | .normal => .normal
  | .exit id => .exit id
  | .ret => .ret

/-- Is the operation carried out? -/
def wantedA (ops : Array Oper) (env : Env) (o : Oper) : Option Bool :=
  match o.guard with
  | none => some true
  | some (j, want) =>
    match (ops[j]?).bind (·.dst) with
    | some d => (match env d with | .bool b => some (b == want) | .tuple [] => some false | _ => none)
    | none => none

def dstOk (n : Nat) : Option Tmp → Bool
  | some d => decide (d < n)
  | none => true

def evResult (P : Program) (env : Env) (H : Heap) : ResultVar → Option AV
  | .tmp t => some (env t)
  | .cell a t =>
    match aggOf P t, szOf P t with
    | some true, some n => (H.load (env a) n).map .agg
    | some false, _ => (match H.load (env a) 1 with | some [v] => some v | _ => none)
    | _, _ => none

def evResultsL (P : Program) (env : Env) (H : Heap) : List ResultVar → Option (List AV)
  | [] => some []
  | r :: rs => match evResult P env H r, evResultsL P env H rs with
    | some v, some vs => some (v :: vs)
    | _, _ => none

def evResults (P : Program) (rs : List ResultVar) (env : Env) (H : Heap) : Option AV :=
  match evResultsL P env H rs with
  | some [v] => some v
  | some vs => some (.tuple vs)
  | none => none

mutual
/-- A function, called with these arguments over H, returns r and leaves H'. -/
inductive EvF (P : Program) : FuncId → List AV → Heap → AV → Heap → Prop
  | mk (f : FuncId) (fn : Func) (c : Code) (args : List AV) (H : Heap) (ex : Ex) (env : Env) (H' : Heap) (r : AV) (hf : P.funcs[f]? = some fn) (hn : (fn.name == "runtime.NumGoroutine") = false) (hb : fn.body = some c)
      (ha : args.length ≤ fn.ntmps) (h : EvC P fn.ntmps c (Env.ofArgs args) H ex env H') (he : ex = .normal ∨ ex = .ret) (hr : evResults P fn.results.toList env H' = some r) : EvF P f args H r H'
inductive EvC (P : Program) : Nat → Code → Env → Heap → Ex → Env → Heap → Prop
  | skip (n : Nat) (env : Env) (H : Heap) : EvC P n .skip env H .normal env H
  | label (n l : Nat) (env : Env) (H : Heap) : EvC P n (.label l) env H .normal env H
  | region (n id : Nat) (ops : Array Oper) (env : Env) (H : Heap) (env' : Env) (H' : Heap) (h : EvS P n ops (List.range ops.size) env H env' H') : EvC P n (.region id ops false) env H .normal env' H'
  | draw (n id : Nat) (ops : Array Oper) (env : Env) (H : Heap) (env' : Env) (H' : Heap) (h : ∀ t, EvS P n ops (Region.linearise .any ops t) env H env' H') : EvC P n (.region id ops true) env H .normal env' H'
  | seq (n : Nat) (x y : Code) (env : Env) (H : Heap) (env1 : Env) (H1 : Heap) (ex : Ex) (env2 : Env) (H2 : Heap) (h : EvC P n x env H .normal env1 H1) (h' : EvC P n y env1 H1 ex env2 H2) : EvC P n (.seq x y) env H ex env2 H2
  | seqOut (n : Nat) (x y : Code) (env : Env) (H : Heap) (ex : Ex) (env1 : Env) (H1 : Heap) (h : EvC P n x env H ex env1 H1) (hx : ex ≠ .normal) : EvC P n (.seq x y) env H ex env1 H1
  | cond (n : Nat) (c : Operand) (x y : Code) (t : Bool) (env : Env) (H : Heap) (ex : Ex) (env1 : Env) (H1 : Heap) (hc : env.at c = .bool t) (h : EvC P n (if t then x else y) env H ex env1 H1) : EvC P n (.cond c x y) env H ex env1 H1
  | block (n id : Nat) (c : Code) (env : Env) (H : Heap) (ex : Ex) (env1 : Env) (H1 : Heap) (h : EvC P n c env H ex env1 H1) (hx : ex = .normal ∨ ex = .exit id) : EvC P n (.block id c) env H .normal env1 H1
  | blockOut (n id : Nat) (c : Code) (env : Env) (H : Heap) (ex : Ex) (env1 : Env) (H1 : Heap) (h : EvC P n c env H ex env1 H1) (hx : ex ≠ .normal ∧ ex ≠ .exit id) : EvC P n (.block id c) env H ex env1 H1
  | loop (n : Nat) (c : Code) (env : Env) (H : Heap) (ex : Ex) (env' : Env) (H' : Heap) (h : EvL P n c env H ex env' H') : EvC P n (.loop c) env H ex env' H'
  | exit (n id : Nat) (env : Env) (H : Heap) : EvC P n (.exit id) env H (.exit id) env H
  | ret (n : Nat) (env : Env) (H : Heap) : EvC P n .ret env H .ret env H
  | scope (n : Nat) (c : Code) (env : Env) (H : Heap) (ex : Ex) (env1 : Env) (H1 : Heap) (h : EvC P n c env H ex env1 H1) : EvC P n (.scope c) env H ex env1 H1
/-- The rounds of a loop. -/
inductive EvL (P : Program) : Nat → Code → Env → Heap → Ex → Env → Heap → Prop
  | again (n : Nat) (c : Code) (env : Env) (H : Heap) (env1 : Env) (H1 : Heap) (ex : Ex) (env2 : Env) (H2 : Heap) (h : EvC P n c env H .normal env1 H1) (h' : EvL P n c env1 H1 ex env2 H2) : EvL P n c env H ex env2 H2
  | out (n : Nat) (c : Code) (env : Env) (H : Heap) (ex : Ex) (env1 : Env) (H1 : Heap) (h : EvC P n c env H ex env1 H1) (hx : ex ≠ .normal) : EvL P n c env H ex env1 H1
inductive EvS (P : Program) : Nat → Array Oper → List Nat → Env → Heap → Env → Heap → Prop
  | nil (n : Nat) (ops : Array Oper) (env : Env) (H : Heap) : EvS P n ops [] env H env H
  | skip (n : Nat) (ops : Array Oper) (i : Nat) (l : List Nat) (o : Oper) (env : Env) (H : Heap) (env' : Env) (H' : Heap) (ho : ops[i]? = some o) (hw : wantedA ops env o = some false) (hd : dstOk n o.dst = true)
      (h : EvS P n ops l (env.put o.dst (.tuple [])) H env' H') : EvS P n ops (i :: l) env H env' H'
  | op (n : Nat) (ops : Array Oper) (i : Nat) (l : List Nat) (o : Oper) (env : Env) (H : Heap) (r : AV) (H1 : Heap) (env' : Env) (H' : Heap) (ho : ops[i]? = some o) (hw : wantedA ops env o = some true) (hd : dstOk n o.dst = true)
      (hfree : H.blk H.next = none ∨ H1.next = H.next) (he : evOp P env.at o H = some (r, H1)) (h : EvS P n ops l (env.put o.dst r) H1 env' H') : EvS P n ops (i :: l) env H env' H'
  /-- Another name for the next new block. -/
  | hint (n : Nat) (ops : Array Oper) (l : List Nat) (m : Nat) (env : Env) (H : Heap) (env' : Env) (H' : Heap) (h : EvS P n ops l env ⟨H.blk, m⟩ env' H') : EvS P n ops l env H env' H'
  | call (n : Nat) (ops : Array Oper) (i : Nat) (l : List Nat) (o : Oper) (f : Operand) (args : Array Operand) (ts : Array TypeId) (g : FuncId) (first cap : List AV) (env : Env) (H : Heap) (r : AV) (H1 : Heap) (env' : Env) (H' : Heap)
      (ho : ops[i]? = some o) (hw : wantedA ops env o = some true) (hd : dstOk n o.dst = true) (hop : o.op = .call { callee := .value f, args := args, argTypes := ts }) (hf : env.at f = .func (.func g) first cap)
      (hc : EvF P g (first ++ args.toList.map env.at ++ cap) H r H1) (h : EvS P n ops l (env.put o.dst r) H1 env' H') : EvS P n ops (i :: l) env H env' H'
end

section
variable {P : Program} {C : Mem} {w0 : World}

/-- The frame holds what the environment says. -/
structure ERel (C : Mem) (E : Emb) (n : Nat) (env : Env) (a : Act) : Prop where
  size : a.tmps.size = n
  at_ : ∀ t, Rep C E (env t) (a.tmps.getD t undef)

theorem ERel.mono {E E' : Emb} {n : Nat} {env : Env} {a : Act} (h : ERel C E n env a) (hE : E.le E') : ERel C E' n env a := ⟨h.size, fun t => (h.at_ t).mono (Mem.le_refl _) hE⟩

theorem ERel.eval {E : Emb} {n : Nat} {env : Env} {a : Act} (h : ERel C E n env a) (x : Operand) : Rep C E (env.at x) (a.eval x) := by
  cases x with
  | tmp t => exact h.at_ t
  | const v => exact rep_avOf v
  | global g => exact .undef _
  | func f => exact .func _ _ _ _ _ .nil .nil

theorem ERel.put {E : Emb} {n : Nat} {env : Env} {a : Act} (h : ERel C E n env a) {d : Option Tmp} (hd : dstOk n d = true) {v : AV} {u : Value} (hv : Rep C E v u) : ERel C E n (env.put d v) (a.put d u) := by
  cases d with
  | none => exact h
  | some d =>
    have hdn : d < n := by simpa [dstOk] using hd
    refine ⟨by simp [Act.put, h.size], fun t => ?_⟩
    simp only [Env.put, Act.put]
    by_cases ht : t = d
    · subst ht
      rw [if_pos rfl]
      have : (a.tmps.setIfInBounds t u).getD t undef = u := by
        rw [Array.getD_eq_getD_getElem?, Array.getElem?_setIfInBounds_self_of_lt (by rw [h.size]; exact hdn)]
        rfl
      rw [this]; exact hv
    · rw [if_neg ht]
      have : (a.tmps.setIfInBounds d u).getD t undef = a.tmps.getD t undef := by
        rw [Array.getD_eq_getD_getElem?, Array.getElem?_setIfInBounds_ne (Ne.symm ht), Array.getD_eq_getD_getElem?]
      rw [this]; exact h.at_ t

theorem ERel.wanted {E : Emb} {n : Nat} {env : Env} {a : Act} (h : ERel C E n env a) {ops : Array Oper} {o : Oper} {b : Bool} (hw : wantedA ops env o = some b) : Region.wanted o (yielded ops a.tmps) = b := by
  unfold wantedA at hw
  unfold Region.wanted
  split at hw
  · rename_i hg; rw [hg]; simpa using hw
  · rename_i j want hg
    rw [hg]
    split at hw
    · rename_i d hd
      split at hw
      · rename_i t ht
        have := h.at_ d
        rw [ht] at this
        have hb := rep_bool this
        have hlt : d < a.tmps.size := by
          apply Classical.byContradiction
          intro hn
          rw [Array.getD_eq_getD_getElem?, Array.getElem?_eq_none (Nat.le_of_not_lt hn)] at hb
          simp [undef] at hb
        have hg' : a.tmps[d]? = some (.bool t) := by
          rw [Array.getD_eq_getD_getElem?, Array.getElem?_eq_getElem hlt] at hb
          rw [Array.getElem?_eq_getElem hlt]
          simpa using hb
        simp only [yielded, hd, Option.bind_some, hg']
        cases hw
        cases t <;> cases want <;> rfl
      · rename_i ht
        have := h.at_ d
        rw [ht] at this
        have hv : a.tmps.getD d undef = .tuple #[] := by
          generalize a.tmps.getD d undef = v at this
          cases this with
          | tuple cs vs hl => cases hl; rfl
        have hy : yielded ops a.tmps j = none := by
          simp only [yielded, hd, Option.bind_some]
          cases hg : a.tmps[d]? with
          | none => rfl
          | some v =>
            rw [Array.getD_eq_getD_getElem?, hg] at hv
            simp only [Option.getD_some] at hv
            subst hv
            rfl
        cases hw
        simp only [hy]
        rfl
      · cases hw
    · cases hw

theorem ERel.enter {E : Emb} {args : List AV} {vs : List Value} (h : RepL C E args vs) {n : Nat} (hn : args.length ≤ n) :
    ERel C E n (Env.ofArgs args) { tmps := vs.toArray ++ Array.replicate (n - vs.toArray.size) undef, defers := [] } := by
  have hl := h.length
  refine ⟨by simp; omega, fun t => ?_⟩
  simp only [Env.ofArgs]
  by_cases ht : t < args.length
  · rw [List.getD_eq_getElem?_getD, List.getElem?_eq_getElem ht]
    obtain ⟨v, hv, hr⟩ := h.get t _ (List.getElem?_eq_getElem ht)
    have : (vs.toArray ++ Array.replicate (n - vs.toArray.size) undef).getD t undef = v := by
      rw [Array.getD_eq_getD_getElem?, Array.getElem?_append_left (by simp; omega)]
      simp [hv]
    rw [this]; exact hr
  · rw [List.getD_eq_getElem?_getD, List.getElem?_eq_none (by omega)]
    exact .undef _

/-- A result variable, read. -/
def resSem (a : Act) (rv : ResultVar) : Sem Value :=
  match rv with
  | .tmp t => pure (a.tmps.getD t undef)
  | .cell ad t => do loadVar t (← asAddr (a.tmps.getD ad undef))

theorem result_ok {E : Emb} {H : Heap} {w : World} (hw : WRel C w0 E H w) {n : Nat} {env : Env} {a : Act} (he : ERel C E n env a) {rv : ResultVar} {r : AV} (h : evResult P env H rv = some r) :
    ∃ v, (resSem a rv).run P w = .ok v w ∧ Rep C E r v := by
  cases rv with
  | tmp t => simp only [evResult, Option.some.injEq] at h; subst h; exact ⟨_, rfl, he.at_ t⟩
  | cell ad t =>
    simp only [evResult] at h
    have hx := he.at_ ad
    split at h
    · rename_i k hag hs
      obtain ⟨cs, hc, e⟩ := map_some_eq h
      cases e
      obtain ⟨q, vs, hq, hl, hr, hcell⟩ := load_cells hw hc hx
      refine ⟨.agg vs.toArray, ?_, .agg _ _ hr⟩
      have := run_loadCells' (P := P) hcell (n := k) (by rw [hr.length, hl])
      simp [resSem, hq, asAddr, loadVar, run_isAgg' w hag, run_sizeOf' w hs, this]
    · rename_i hag
      split at h
      · rename_i v hv
        cases h
        obtain ⟨q, vs, hq, hl, hr, hcell⟩ := load_cells hw hv hx
        cases hr with
        | cons _ u _ _ h1 h2 =>
          refine ⟨u, ?_, h1⟩
          have := hcell 0 u rfl
          have h0 : q.add 0 = q := by simp [Addr.add]
          rw [h0] at this
          simp [resSem, hq, asAddr, loadVar, run_isAgg' w hag, this]
      · cases h
    · cases h

theorem results_ok {E : Emb} {H : Heap} {w : World} (hw : WRel C w0 E H w) {n : Nat} {env : Env} {a : Act} (he : ERel C E n env a) {fn : Func} {r : AV} (h : evResults P fn.results.toList env H = some r) :
    ∃ v, (results fn a.tmps).run P w = .ok v w ∧ Rep C E r v := by
  have key : ∀ (rs : List ResultVar) (as : List AV), evResultsL P env H rs = some as → ∃ vs, (rs.mapM (resSem a)).run P w = .ok vs w ∧ RepL C E as vs := by
    intro rs
    induction rs with
    | nil => intro as h; simp only [evResultsL, Option.some.injEq] at h; subst h; exact ⟨[], by simp, .nil⟩
    | cons rv rs ih =>
      intro as h
      simp only [evResultsL] at h
      split at h
      · rename_i v vs h1 h2
        cases h
        obtain ⟨u, g1, g2⟩ := result_ok (P := P) hw he h1
        obtain ⟨us, g3, g4⟩ := ih vs h2
        refine ⟨u :: us, ?_, .cons _ _ _ _ g2 g4⟩
        rw [List.mapM_cons, Sem.run_bind, g1]
        simp only [Result.andThen_ok, Sem.run_bind, g3, Sem.run_pure]
      · cases h
  unfold evResults at h
  split at h
  · rename_i v hv
    cases h
    obtain ⟨vs, g1, g2⟩ := key _ _ hv
    cases g2 with
    | cons _ u _ _ h1 h2 =>
      cases h2
      refine ⟨u, ?_, h1⟩
      have e : results fn a.tmps = (do let vs ← fn.results.mapM (resSem a); pure (if h : vs.size = 1 then vs[0] else .tuple vs)) := rfl
      rw [e, Array.mapM_eq_mapM_toList]
      simp only [Sem.run_bind, Sem.run_map]
      rw [g1]
      simp
  · rename_i vs hne hv
    cases h
    obtain ⟨us, g1, g2⟩ := key _ _ hv
    refine ⟨.tuple us.toArray, ?_, .tuple _ _ g2⟩
    have e : results fn a.tmps = (do let vs ← fn.results.mapM (resSem a); pure (if h : vs.size = 1 then vs[0] else .tuple vs)) := rfl
    rw [e, Array.mapM_eq_mapM_toList]
    simp only [Sem.run_bind, Sem.run_map]
    rw [g1]
    have : us.length ≠ 1 := fun e => by
      rw [g2.length] at e
      match vs, e with
      | [v], _ => exact hne v rfl
    simp [this]
  · cases h

end
end Go.Ev
