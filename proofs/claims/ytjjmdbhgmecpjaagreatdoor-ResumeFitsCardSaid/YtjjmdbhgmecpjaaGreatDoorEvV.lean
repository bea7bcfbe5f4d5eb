import Derived.Test.YtjjmdbhgmecpjaaGreatDoorEvU
import Derived.Test.YtjjmdbhgmecpjaaGreatDoorEvY
set_option linter.unusedVariables false
set_option linter.unusedSimpArgs false
namespace Go.Ev
open Go.RowKit
section
variable (P : Program)

/-- A call comes to a result and a heap that K takes. -/
def WF (f : FuncId) (args : List AV) (H : Heap) (K : AV → Heap → Prop) : Prop := ∃ r H', EvF P f args H r H' ∧ K r H'

theorem WF.mono {P : Program} {f : FuncId} {args : List AV} {H : Heap} {K K' : AV → Heap → Prop} (h : WF P f args H K) (hk : ∀ r H', K r H' → K' r H') : WF P f args H K' :=
  let ⟨r, H', h1, h2⟩ := h; ⟨r, H', h1, hk r H' h2⟩

/-- A call through a value. -/
def WCall (f : AV) (args : List AV) (H : Heap) (K : AV → Heap → Prop) : Prop :=
  match f with
  | .func (.func g) first cap => WF P g (first ++ args ++ cap) H K
  | _ => False

/-- A flagged operation that is not a call. -/
def FlOp (Kp : Kept) (o : Oper) (env : Env) (H : Heap) (r : AV) (H1 : Heap) : Prop :=
  match Kp with
  | none => UpB H.blk H1.blk
  | some K => UpO (some K) H.blk H1.blk ∧ (opKind P o.op = 1 → ∀ (G : Blks) (m : Nat), UpO (some K) H.blk G → evOp P env.at o ⟨G, m⟩ = some (r, ⟨G, m⟩))

/-- The operations of a region, one after the other. The flags: this one only adds (or keeps K). -/
def WS (Kp : Kept) (n : Nat) (ops : Array Oper) : List (Oper × Bool) → Env → Heap → (Env → Heap → Prop) → Prop
  | [], env, H, K => K env H
  | (o, fl) :: l, env, H, K =>
    match wantedA ops env o, dstOk n o.dst with
    | some false, true => WS Kp n ops l (env.put o.dst (.tuple [])) H K
    | some true, true =>
      (match o.op with
       | .call { callee := .value f, args, .. } => WCall P (env.at f) (args.toList.map env.at) H fun r H1 => (fl = true → UpO Kp H.blk H1.blk) ∧ WS Kp n ops l (env.put o.dst r) H1 K
       | _ => (match evOp P env.at o H with
         | some (r, H1) => (H1.next = H.next ∨ H.blk H.next = none) ∧ (fl = true → FlOp P Kp o env H r H1) ∧ WS Kp n ops l (env.put o.dst r) H1 K
         | none => False))
    | _, _ => False

/-- The operations in the order 'base'; 'fs': those that only add. -/
def laid (ops : Array Oper) (fs base : List Nat) : List (Oper × Bool) := base.filterMap fun i => (ops.toList[i]?).map (·, fs.contains i)

def plain (ops : Array Oper) : List (Oper × Bool) := ops.toList.map (·, false)

/-- The code of a function. -/
def WC (n : Nat) : Code → Env → Heap → (Ex → Env → Heap → Prop) → Prop
  | .skip, env, H, Q | .label _, env, H, Q => Q .normal env H
  | .region _ ops false, env, H, Q => WS P none n ops (plain ops) env H (Q .normal)
  | .region _ ops true, env, H, Q => ∃ (Kp : Kept) (fs base : List Nat), drawOkE P Kp.isSome Kp.eq ops fs.contains base = true ∧ WS P Kp n ops (laid ops fs base) env H (Q .normal)
  | .seq a b, env, H, Q => WC n a env H fun ex env' H' => match ex with | .normal => WC n b env' H' Q | ex => Q ex env' H'
  | .cond c a b, env, H, Q => (match env.at c with | .bool t => if t = true then WC n a env H Q else WC n b env H Q | _ => False)
  | .block id c, env, H, Q => WC n c env H fun ex env' H' => match ex with | .exit i => if i = id then Q .normal env' H' else Q (.exit i) env' H' | ex => Q ex env' H'
  | .loop c, env, H, Q => ∃ ex env' H', EvL P n c env H ex env' H' ∧ Q ex env' H'
  | .exit id, env, H, Q => Q (.exit id) env H
  | .ret, env, H, Q => Q .ret env H
  | .scope c, env, H, Q => WC n c env H Q
  | _, _, _, _ => False

theorem flOp_ok {P : Program} {Kp : Kept} {ops : Array Oper} {o : Oper} {env : Env} {H : Heap} {r : AV} {H1 : Heap} (hw : wantedA ops env o = some true) (h : FlOp P Kp o env H r H1) : FlOk P ops Kp o env H.blk r H1.blk := by
  cases Kp with
  | none => exact ⟨h, fun hs => by cases hs⟩
  | some K => exact ⟨h.1, fun _ hk G hG => .op G H.next r ⟨G, H.next⟩ hw (.inr rfl) (h.2 hk G H.next hG)⟩

theorem WS_run {Kp : Kept} {n : Nat} {ops : Array Oper} {fl : Nat → Bool} : ∀ (l : List (Oper × Bool)) (is : List Nat) (env : Env) (H : Heap) (K : Env → Heap → Prop), is.map (fun i => (ops[i]?, fl i)) = l.map (fun p => (some p.1, p.2)) → WS P Kp n ops l env H K →
    ∃ env' H', Run P Kp n ops fl is env H.blk env' H'.blk ∧ K env' H'
  | [], is, env, H, K, hi, h => by
    cases is with
    | nil => exact ⟨env, H, ⟨rfl, rfl⟩, h⟩
    | cons i is => simp at hi
  | (o, f) :: l, is, env, H, K, hi, h => by
    cases is with
    | nil => simp at hi
    | cons i is =>
      simp only [List.map_cons, List.cons.injEq, Prod.mk.injEq] at hi
      obtain ⟨⟨ho, hfl⟩, hi⟩ := hi
      simp only [WS] at h
      split at h
      · rename_i hw hd
        obtain ⟨env', H', h1, h2⟩ := WS_run l is _ _ _ hi h
        exact ⟨env', H', ⟨_, _, ⟨o, _, ho, hd, .skip _ hw, rfl, fun _ => ⟨UpO.refl _, fun _ _ G _ => .skip _ hw⟩⟩, h1⟩, h2⟩
      · rename_i hw hd
        split at h
        · rename_i f args ts hop
          unfold WCall at h
          split at h
          · rename_i g first cap hf
            obtain ⟨r, H1, hF, hu, h⟩ := h
            obtain ⟨env', H', h1, h2⟩ := WS_run l is _ _ _ hi h
            exact ⟨env', H', ⟨_, _, ⟨o, r, ho, hd, .call _ H.next f args ts g first cap r H1 hw hop hf hF, rfl, fun q => ⟨hu (hfl ▸ q), fun _ hk => by rw [hop] at hk; simp [opKind] at hk⟩⟩, h1⟩, h2⟩
          · exact h.elim
        · split at h
          · rename_i r H1 hev
            obtain ⟨hfree, hu, h⟩ := h
            obtain ⟨env', H', h1, h2⟩ := WS_run l is _ _ _ hi h
            exact ⟨env', H', ⟨_, _, ⟨o, r, ho, hd, .op _ H.next r H1 hw hfree.symm hev, rfl, fun q => flOp_ok hw (hu (hfl ▸ q))⟩, h1⟩, h2⟩
          · exact h.elim
      · exact h.elim

theorem plain_ops (ops : Array Oper) : (List.range ops.size).map (fun i => (ops[i]?, false)) = (plain ops).map (fun p => (some p.1, p.2)) := by
  apply List.ext_getElem?
  intro i
  simp only [List.getElem?_map, plain]
  by_cases h : i < ops.size
  · simp [List.getElem?_range h, h]
  · rw [List.getElem?_eq_none (by simp; omega), List.getElem?_eq_none (by simp; omega)]; rfl

theorem laid_ops (ops : Array Oper) (fs : List Nat) : ∀ (base : List Nat), (∀ i ∈ base, i < ops.size) → base.map (fun i => (ops[i]?, fs.contains i)) = (laid ops fs base).map (fun p => (some p.1, p.2))
  | [], _ => rfl
  | i :: l, h => by
    have hi : i < ops.size := h i List.mem_cons_self
    have := laid_ops ops fs l (fun k hk => h k (List.mem_cons_of_mem _ hk))
    simp only [laid, List.contains_eq_mem] at this ⊢
    simpa [hi] using this

theorem WC_sound {n : Nat} : ∀ (c : Code) (env : Env) (H : Heap) (Q : Ex → Env → Heap → Prop), WC P n c env H Q → ∃ ex env' H', EvC P n c env H ex env' H' ∧ Q ex env' H'
  | .skip, env, H, Q, h => ⟨_, _, _, .skip _ _ _, h⟩
  | .label l, env, H, Q, h => ⟨_, _, _, .label _ _ _ _, h⟩
  | .region id ops false, env, H, Q, h => by
    simp only [WC] at h
    obtain ⟨env', H', h1, h2⟩ := WS_run P (fl := fun _ => false) _ _ _ _ _ (plain_ops ops) h
    exact ⟨_, _, _, .region _ _ _ _ _ _ _ (h1.evS _ _), h2⟩
  | .region id ops true, env, H, Q, h => by
    simp only [WC] at h
    obtain ⟨Kp, fs, base, hok, h⟩ := h
    have hb : ∀ i ∈ base, i < ops.size := by
      simp only [drawOkE, Bool.and_eq_true, List.all_eq_true, decide_eq_true_eq] at hok
      exact hok.1.1.2
    obtain ⟨env', H', h1, h2⟩ := WS_run P _ _ _ _ _ (laid_ops ops fs base hb) h
    exact ⟨_, _, _, .draw _ _ _ _ _ _ _ (draw_of_run hok h1), h2⟩
  | .seq a b, env, H, Q, h => by
    simp only [WC] at h
    obtain ⟨ex, env', H', h1, h2⟩ := WC_sound a env H _ h
    cases ex with
    | normal =>
      obtain ⟨ex, env2, H2, h3, h4⟩ := WC_sound b env' H' Q h2
      exact ⟨_, _, _, .seq _ _ _ _ _ _ _ _ _ _ h1 h3, h4⟩
    | exit i => exact ⟨_, _, _, .seqOut _ _ _ _ _ _ _ _ h1 (by simp), h2⟩
    | ret => exact ⟨_, _, _, .seqOut _ _ _ _ _ _ _ _ h1 (by simp), h2⟩
  | .cond c a b, env, H, Q, h => by
    simp only [WC] at h
    split at h
    · rename_i t ht
      split at h
      · rename_i e
        subst e
        obtain ⟨ex, env', H', h1, h2⟩ := WC_sound a env H Q h
        exact ⟨_, _, _, .cond _ _ _ _ true _ _ _ _ _ ht h1, h2⟩
      · rename_i e
        obtain rfl : t = false := by cases t <;> simp_all
        obtain ⟨ex, env', H', h1, h2⟩ := WC_sound b env H Q h
        exact ⟨_, _, _, .cond _ _ _ _ false _ _ _ _ _ ht h1, h2⟩
    · exact h.elim
  | .block id c, env, H, Q, h => by
    simp only [WC] at h
    obtain ⟨ex, env', H', h1, h2⟩ := WC_sound c env H _ h
    cases ex with
    | normal => exact ⟨_, _, _, .block _ _ _ _ _ _ _ _ h1 (.inl rfl), h2⟩
    | exit i =>
      simp only at h2
      split at h2
      · rename_i e; subst e; exact ⟨_, _, _, .block _ _ _ _ _ _ _ _ h1 (.inr rfl), h2⟩
      · rename_i e; exact ⟨_, _, _, .blockOut _ _ _ _ _ _ _ _ h1 ⟨by simp, by simpa using e⟩, h2⟩
    | ret => exact ⟨_, _, _, .blockOut _ _ _ _ _ _ _ _ h1 ⟨by simp, by simp⟩, h2⟩
  | .loop c, env, H, Q, h => by
    simp only [WC] at h
    obtain ⟨ex, env', H', h1, h2⟩ := h
    exact ⟨_, _, _, .loop _ _ _ _ _ _ _ h1, h2⟩
  | .exit id, env, H, Q, h => ⟨_, _, _, .exit _ _ _ _, h⟩
  | .ret, env, H, Q, h => ⟨_, _, _, .ret _ _ _, h⟩
  | .scope c, env, H, Q, h => by
    simp only [WC] at h
    obtain ⟨ex, env', H', h1, h2⟩ := WC_sound c env H _ h
    exact ⟨_, _, _, .scope _ _ _ _ _ _ _ h1, h2⟩
  | .rangeFunc .., env, H, Q, h => by simp [WC] at h
  | .goto .., env, H, Q, h => by simp [WC] at h
  | .refuse .., env, H, Q, h => by simp [WC] at h

/-- A function's contract from its body. -/
theorem WF_of {f : FuncId} {fn : Func} {c : Code} {args : List AV} {H : Heap} {K : AV → Heap → Prop} (hf : P.funcs[f]? = some fn) (hn : (fn.name == "runtime.NumGoroutine") = false) (hb : fn.body = some c) (ha : args.length ≤ fn.ntmps)
    (h : WC P fn.ntmps c (Env.ofArgs args) H fun ex env H' => match ex, evResults P fn.results.toList env H' with | .normal, some r => K r H' | .ret, some r => K r H' | _, _ => False) : WF P f args H K := by
  obtain ⟨ex, env, H', h1, h2⟩ := WC_sound P _ _ _ _ h
  cases hr : evResults P fn.results.toList env H' with
  | none => simp [hr] at h2
  | some r =>
    simp only [hr] at h2
    cases ex with
    | normal => exact ⟨r, H', .mk f fn c args H _ env H' r hf hn hb ha h1 (.inl rfl) hr, h2⟩
    | ret => exact ⟨r, H', .mk f fn c args H _ env H' r hf hn hb ha h1 (.inr rfl) hr, h2⟩
    | exit i => exact h2.elim

/-- A loop, by a measure. -/
theorem WL_of {n : Nat} {c : Code} (I : Env → Heap → Prop) (μ : Env → Heap → Nat) (Q : Ex → Env → Heap → Prop)
    (round : ∀ env H, I env H → WC P n c env H fun ex env' H' => match ex with | .normal => I env' H' ∧ μ env' H' < μ env H | ex => Q ex env' H') :
    ∀ env H, I env H → ∃ ex env' H', EvL P n c env H ex env' H' ∧ Q ex env' H' := by
  have key : ∀ k env H, μ env H = k → I env H → ∃ ex env' H', EvL P n c env H ex env' H' ∧ Q ex env' H' := by
    intro k
    induction k using Nat.strongRecOn with
    | _ k ih =>
      intro env H hk hI
      obtain ⟨ex, env1, H1, h1, h2⟩ := WC_sound P _ _ _ _ (round env H hI)
      cases ex with
      | normal =>
        obtain ⟨hI1, hlt⟩ := h2
        obtain ⟨ex, env2, H2, h3, h4⟩ := ih _ (hk ▸ hlt) env1 H1 rfl hI1
        exact ⟨ex, env2, H2, .again _ _ _ _ _ _ _ _ _ h1 h3, h4⟩
      | exit i => exact ⟨_, _, _, .out _ _ _ _ _ _ _ h1 (by simp), h2⟩
      | ret => exact ⟨_, _, _, .out _ _ _ _ _ _ _ h1 (by simp), h2⟩
  exact fun env H hI => key _ env H rfl hI

/-- The beginning: nothing made yet. -/
def H0 : Heap := ⟨fun _ => none, 0⟩
def E0 : Emb := ⟨fun _ _ => none, fun _ => none⟩

theorem wrel_start (W : World) : WRel (memOf W) W E0 H0 W where
  below := Below.refl _ _
  mem := fun b o v h => ⟨World.block_lt_of_cell? (a := ⟨b, o, none⟩) W h, h⟩
  dom := fun b g L h => by cases h
  mdom := fun b m h => by cases h
  row := fun b ty esz els gen wgen h => by cases h
  map := fun b es cl h => by cases h
  sep := fun b g L b' g' L' h => by cases h
  msep := fun b m b' h => by cases h
  memsep := fun b g L o v h => by cases h

/-- A law that comes to true. -/
theorem law_calls {P : Program} (hm : P.follows .mixedOrders = true) {f : FuncId} {as : List AV} {vs : List Value} {W : World} (hr : RepL (memOf W) E0 as vs) (h : WF P f as H0 fun r _ => r = .bool true) :
    Calls P f vs.toArray W fun e W' => e = .returned (.bool true) ∧ Below W.heap.size W W' := by
  obtain ⟨r, H', h1, h2⟩ := h
  subst h2
  refine ((EvF.sound (C := memOf W) (w0 := W) hm h1).2 (wrel_start W) hr).mono fun e W' ⟨E', v, he, _, hw, hv⟩ => ?_
  rw [rep_bool hv] at he
  exact ⟨he, hw.below⟩

end
end Go.Ev
