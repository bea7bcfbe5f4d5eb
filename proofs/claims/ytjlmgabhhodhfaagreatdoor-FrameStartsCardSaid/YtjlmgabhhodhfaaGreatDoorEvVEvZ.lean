import Derived.Test.YtjlmgabhhodhfaaGreatDoorEvUEvX
import Derived.Test.YtjlmgabhhodhfaaGreatDoorEvY
set_option linter.unusedVariables false
set_option linter.unusedSimpArgs false
namespace Go.Ev
open Go.RowKit
section
variable (P : Program)

def WF (f : FuncId) (args : List AV) (H : Heap) (K : AV → Heap → Prop) : Prop := ∃ r H', EvF P f args H r H' ∧ K r H'

theorem WF.mono {P : Program} {f : FuncId} {args : List AV} {H : Heap} {K K' : AV → Heap → Prop} (h : WF P f args H K) (hk : ∀ r H', K r H' → K' r H') : WF P f args H K' :=
  let ⟨r, H', h1, h2⟩ := h; ⟨r, H', h1, hk r H' h2⟩

def WCall (f : AV) (args : List AV) (H : Heap) (K : AV → Heap → Prop) : Prop :=
  match f with
  | .func (.func g) first cap => WF P g (first ++ args ++ cap) H K
  | _ => False

def FlOp (Kp : Kept) (o : Oper) (env : Env) (H : Heap) (r : AV) (H1 : Heap) : Prop :=
  match Kp with
  | none => UpB H.blk H1.blk
  | some K => UpO (some K) H.blk H1.blk ∧ (opKind P o.op = 1 → ∀ (G : Blks) (m : Nat), UpO (some K) H.blk G → evOp P env.at o ⟨G, m⟩ = some (r, ⟨G, m⟩))

def WS (Kp : Kept) (n : Nat) (ops : Array Oper) : List (Oper × Bool) → Env → Heap → (Env → Heap → Prop) → Prop
  | [], env, H, K => K env H
  | (o, fl) :: l, env, H, K =>
    match wantedA ops env o, dstOk n o.dst with
    | some false, true => WS Kp n ops l (env.put o.dst (.tuple [])) H K
    | some true, true =>
      (match o.op with
       | .call { callee := .value f, args, .. } => WCall P (env.at f) (args.toList.map env.at) H fun r H1 => (fl = true → UpO Kp H.blk H1.blk) ∧ WS Kp n ops l (env.put o.dst r) H1 K
       | _ => (match evOp P env.at o H with
         | some (r, H1) => (H1.next = H.next ∨ H.blk H.next = none) ∧ (fl = true → FlOp P Kp o env H r H1) ∧ WS Kp n ops l (env.put o.dst r) H1 K
         | none => False))
    | _, _ => False

def laid (ops : Array Oper) (fs base : List Nat) : List (Oper × Bool) := base.filterMap fun i => (ops.toList[i]?).map (·, fs.contains i)

def plain (ops : Array Oper) : List (Oper × Bool) := ops.toList.map (·, false)

def WC (n : Nat) : Code → Env → Heap → (Ex → Env → Heap → Prop) → Prop
  | .skip, env, H, Q | .label _, env, H, Q => Q .normal env H
  | .region _ ops false, env, H, Q => WS P none n ops (plain ops) env H (Q .normal)
  | .region _ ops true, env, H, Q => ∃ (Kp : Kept) (fs base : List Nat), drawOkE P Kp.isSome Kp.eq ops fs.contains base = true ∧ WS P Kp n ops (laid ops fs base) env H (Q .normal)
  | .seq a b, env, H, Q => WC n a env H fun ex env' H' => match ex with | .normal => WC n b env' H' Q | ex => Q ex env' H'
  | .cond c a b, env, H, Q => (match env.at c with | .bool t => if t = true then WC n a env H Q else WC n b env H Q | _ => False)
  | .block id c, env, H, Q => WC n c env H fun ex env' H' => match ex with | .exit i => if i = id then Q .normal env' H' else Q (.exit i) env' H' | ex => Q ex env' H'
  | .loop c, env, H, Q => ∃ ex env' H', EvL P n c env H ex env' H' ∧ Q ex env' H'
  | .exit id, env, H, Q => Q (.exit id) env H
  | .ret, env, H, Q => Q .ret env H
  | .scope c, env, H, Q => WC n c env H Q
  | _, _, _, _ => False

theorem flOp_ok {P : Program} {Kp : Kept} {ops : Array Oper} {o : Oper} {env : Env} {H : Heap} {r : AV} {H1 : Heap} (hw : wantedA ops env o = some true) (h : FlOp P Kp o env H r H1) : FlOk P ops Kp o env H.blk r H1.blk := by
  cases Kp with
  | none => exact ⟨h, fun hs => by cases hs⟩
  | some K => exact ⟨h.1, fun _ hk G hG => .op G H.next r ⟨G, H.next⟩ hw (.inr rfl) (h.2 hk G H.next hG)⟩

theorem WS_run {Kp : Kept} {n : Nat} {ops : Array Oper} {fl : Nat → Bool} : ∀ (l : List (Oper × Bool)) (is : List Nat) (env : Env) (H : Heap) (K : Env → Heap → Prop), is.map (fun i => (ops[i]?, fl i)) = l.map (fun p => (some p.1, p.2)) → WS P Kp n ops l env H K →
    ∃ env' H', Run P Kp n ops fl is env H.blk env' H'.blk ∧ K env' H'
  | [], is, env, H, K, hi, h => by
    cases is with
    | nil => exact ⟨env, H, ⟨rfl, rfl⟩, h⟩
    | cons i is => simp at hi
  | (o, f) :: l, is, env, H, K, hi, h => by
    cases is with
    | nil => simp at hi
    | cons i is =>
      simp only [List.map_cons, List.cons.injEq, Prod.mk.injEq] at hi
      obtain ⟨⟨ho, hfl⟩, hi⟩ := hi
      simp only [WS] at h
      split at h
      · rename_i hw hd
        obtain ⟨env', H', h1, h2⟩ := WS_run l is _ _ _ hi h
        exact ⟨env', H', ⟨_, _, ⟨o, _, ho, hd, .skip _ hw, rfl, fun _ => ⟨UpO.refl _, fun _ _ G _ => .skip _ hw⟩⟩, h1⟩, h2⟩
      · rename_i hw hd
        split at h
        · rename_i f args ts hop
          unfold WCall at h
          split at h
          · rename_i g first cap hf
            obtain ⟨r, H1, hF, hu, h⟩ := h
            obtain ⟨env', H', h1, h2⟩ := WS_run l is _ _ _ hi h
            exact ⟨env', H', ⟨_, _, ⟨o, r, ho, hd, .call _ H.next f args ts g first cap r H1 hw hop hf hF, rfl, fun q => ⟨hu (hfl ▸ q), fun _ hk => by rw [hop] at hk; simp [opKind] at hk⟩⟩, h1⟩, h2⟩
          · exact h.elim
        · split at h
          · rename_i r H1 hev
            obtain ⟨hfree, hu, h⟩ := h
            obtain ⟨env', H', h1, h2⟩ := WS_run l is _ _ _ hi h
            exact ⟨env', H', ⟨_, _, ⟨o, r, ho, hd, .op _ H.next r H1 hw hfree.symm hev, rfl, fun q => flOp_ok hw (hu (hfl ▸ q))⟩, h1⟩, h2⟩
          · exact h.elim
      · exact h.elim

theorem plain_ops (ops : Array Oper) : (List.range ops.size).map (fun i => (ops[i]?, false)) = (plain ops).map (fun p => (some p.1, p.2)) := by
  apply List.ext_getElem?
  intro i
  simp only [List.getElem?_map, plain]
  by_cases h : i < ops.size
  · simp [List.getElem?_range h, h]
  · rw [List.getElem?_eq_none (by simp; omega), List.getElem?_eq_none (by simp; omega)]; rfl

theorem laid_ops (ops : Array Oper) (fs : List Nat) : ∀ (base : List Nat), (∀ i ∈ base, i < ops.size) → base.map (fun i => (ops[i]?, fs.contains i)) = (laid ops fs base).map (fun p => (some p.1, p.2))
  | [], _ => rfl
  | i :: l, h => by
    have hi : i < ops.size := h i List.mem_cons_self
    have := laid_ops ops fs l (fun k hk => h k (List.mem_cons_of_mem _ hk))
    simp only [laid, List.contains_eq_mem] at this ⊢
    simpa [hi] using this

theorem WC_sound {n : Nat} : ∀ (c : Code) (env : Env) (H : Heap) (Q : Ex → Env → Heap → Prop), WC P n c env H Q → ∃ ex env' H', EvC P n c env H ex env' H' ∧ Q ex env' H'
  | .skip, env, H, Q, h => ⟨_, _, _, .skip _ _ _, h⟩
  | .label l, env, H, Q, h => ⟨_, _, _, .label _ _ _ _, h⟩
  | .region id ops false, env, H, Q, h => by
    simp only [WC] at h
    obtain ⟨env', H', h1, h2⟩ := WS_run P (fl := fun _ => false) _ _ _ _ _ (plain_ops ops) h
    exact ⟨_, _, _, .region _ _ _ _ _ _ _ (h1.evS _ _), h2⟩
  | .region id ops true, env, H, Q, h => by
    simp only [WC] at h
    obtain ⟨Kp, fs, base, hok, h⟩ := h
    have hb : ∀ i ∈ base, i < ops.size := by
      simp only [drawOkE, Bool.and_eq_true, List.all_eq_true, decide_eq_true_eq] at hok
      exact hok.1.1.2
    obtain ⟨env', H', h1, h2⟩ := WS_run P _ _ _ _ _ (laid_ops ops fs base hb) h
    exact ⟨_, _, _, .draw _ _ _ _ _ _ _ (draw_of_run hok h1), h2⟩
  | .seq a b, env, H, Q, h => by
    simp only [WC] at h
    obtain ⟨ex, env', H', h1, h2⟩ := WC_sound a env H _ h
    cases ex with
    | normal =>
      obtain ⟨ex, env2, H2, h3, h4⟩ := WC_sound b env' H' Q h2
      exact ⟨_, _, _, .seq _ _ _ _ _ _ _ _ _ _ h1 h3, h4⟩
    | exit i => exact ⟨_, _, _, .seqOut _ _ _ _ _ _ _ _ h1 (by simp), h2⟩
    | ret => exact ⟨_, _, _, .seqOut _ _ _ _ _ _ _ _ h1 (by simp), h2⟩
  | .cond c a b, env, H, Q, h => by
    simp only [WC] at h
    split at h
    · rename_i t ht
      split at h
      · rename_i e
        subst e
        obtain ⟨ex, env', H', h1, h2⟩ := WC_sound a env H Q h
        exact ⟨_, _, _, .cond _ _ _ _ true _ _ _ _ _ ht h1, h2⟩
      · rename_i e
        obtain rfl : t = false := by cases t <;> simp_all
        obtain ⟨ex, env', H', h1, h2⟩ := WC_sound b env H Q h
        exact ⟨_, _, _, .cond _ _ _ _ false _ _ _ _ _ ht h1, h2⟩
    · exact h.elim
  | .block id c, env, H, Q, h => by
    simp only [WC] at h
    obtain ⟨ex, env', H', h1, h2⟩ := WC_sound c env H _ h
    cases ex with
    | normal => exact ⟨_, _, _, .block _ _ _ _ _ _ _ _ h1 (.inl rfl), h2⟩
    | exit i =>
      simp only at h2
      split at h2
      · rename_i e; subst e; exact ⟨_, _, _, .block _ _ _ _ _ _ _ _ h1 (.inr rfl), h2⟩
      · rename_i e; exact ⟨_, _, _, .blockOut _ _ _ _ _ _ _ _ h1 ⟨by simp, by simpa using e⟩, h2⟩
    | ret => exact ⟨_, _, _, .blockOut _ _ _ _ _ _ _ _ h1 ⟨by simp, by simp⟩, h2⟩
  | .loop c, env, H, Q, h => by
    simp only [WC] at h
    obtain ⟨ex, env', H', h1, h2⟩ := h
    exact ⟨_, _, _, .loop _ _ _ _ _ _ _ h1, h2⟩
  | .exit id, env, H, Q, h => ⟨_, _, _, .exit _ _ _ _, h⟩
  | .ret, env, H, Q, h => ⟨_, _, _, .ret _ _ _, h⟩
  | .scope c, env, H, Q, h => by
    simp only [WC] at h
    obtain ⟨ex, env', H', h1, h2⟩ := WC_sound c env H _ h
    exact ⟨_, _, _, .scope _ _ _ _ _ _ _ h1, h2⟩
  | .rangeFunc .., env, H, Q, h => by simp [WC] at h
  | .goto .., env, H, Q, h => by simp [WC] at h
  | .refuse .., env, H, Q, h => by simp [WC] at h

theorem WF_of {f : FuncId} {fn : Func} {c : Code} {args : List AV} {H : Heap} {K : AV → Heap → Prop} (hf : P.funcs[f]? = some fn) (hn : (fn.name == "runtime.NumGoroutine") = false) (hb : fn.body = some c) (ha : args.length ≤ fn.ntmps)
    (h : WC P fn.ntmps c (Env.ofArgs args) H fun ex env H' => match ex, evResults P fn.results.toList env H' with | .normal, some r => K r H' | .ret, some r => K r H' | _, _ => False) : WF P f args H K := by
  obtain ⟨ex, env, H', h1, h2⟩ := WC_sound P _ _ _ _ h
  cases hr : evResults P fn.results.toList env H' with
  | none => simp [hr] at h2
  | some r =>
    simp only [hr] at h2
    cases ex with
    | normal => exact ⟨r, H', .mk f fn c args H _ env H' r hf hn hb ha h1 (.inl rfl) hr, h2⟩
    | ret => exact ⟨r, H', .mk f fn c args H _ env H' r hf hn hb ha h1 (.inr rfl) hr, h2⟩
    | exit i => exact h2.elim

theorem WL_of {n : Nat} {c : Code} (I : Env → Heap → Prop) (μ : Env → Heap → Nat) (Q : Ex → Env → Heap → Prop)
    (round : ∀ env H, I env H → WC P n c env H fun ex env' H' => match ex with | .normal => I env' H' ∧ μ env' H' < μ env H | ex => Q ex env' H') :
    ∀ env H, I env H → ∃ ex env' H', EvL P n c env H ex env' H' ∧ Q ex env' H' := by
  have key : ∀ k env H, μ env H = k → I env H → ∃ ex env' H', EvL P n c env H ex env' H' ∧ Q ex env' H' := by
    intro k
    induction k using Nat.strongRecOn with
    | _ k ih =>
      intro env H hk hI
      obtain ⟨ex, env1, H1, h1, h2⟩ := WC_sound P _ _ _ _ (round env H hI)
      cases ex with
      | normal =>
        obtain ⟨hI1, hlt⟩ := h2
        obtain ⟨ex, env2, H2, h3, h4⟩ := ih _ (hk ▸ hlt) env1 H1 rfl hI1
        exact ⟨ex, env2, H2, .again _ _ _ _ _ _ _ _ _ h1 h3, h4⟩
      | exit i => exact ⟨_, _, _, .out _ _ _ _ _ _ _ h1 (by simp), h2⟩
      | ret => exact ⟨_, _, _, .out _ _ _ _ _ _ _ h1 (by simp), h2⟩
  exact fun env H hI => key _ env H rfl hI

def H0 : Heap := ⟨fun _ => none, 0⟩
def E0 : Emb := ⟨fun _ _ => none, fun _ => none⟩

end
end Go.Ev
set_option linter.unusedVariables false
set_option linter.unusedSimpArgs false
namespace Go.Ev


def M0 : Nat := 10000000
structure Free (H : Heap) : Prop where
  above : ∀ b, H.next ≤ b → H.blk b = none
  low : ∀ b, b < M0 → H.blk b = none
  base : M0 ≤ H.next
instance {H : Heap} : CoeFun (Free H) (fun _ => ∀ b, H.next ≤ b → H.blk b = none) := ⟨Free.above⟩

theorem Free.push {H : Heap} (h : Free H) (x : Blk) : Free (H.push x) := ⟨fun b hb => by
  have hb' : H.next + 1 ≤ b := hb
  simp only [Heap.push]
  rw [if_neg (by omega)]; exact h b (by omega), fun b hb => by
  have := h.base
  simp only [Heap.push]
  rw [if_neg (by omega)]; exact h.low b hb, Nat.le_succ_of_le h.base⟩
theorem Free.lt {H : Heap} (h : Free H) {b : Nat} {x : Blk} (hb : H.blk b = some x) : M0 ≤ b ∧ b < H.next := by
  refine ⟨?_, ?_⟩
  · apply Classical.byContradiction
    intro hn
    rw [h.low b (by omega)] at hb; cases hb
  · apply Classical.byContradiction
    intro hn
    rw [h b (by omega)] at hb; cases hb
theorem Free.set {H : Heap} (h : Free H) {b : Nat} (hb : M0 ≤ b ∧ b < H.next) (x : Blk) : Free (H.set b x) := ⟨fun c hc => by
  have hc' : H.next ≤ c := hc
  rw [Heap.set_other _ _ _ (by omega)]; exact h c hc', fun c hc => by
  rw [Heap.set_other _ _ _ (by omega)]; exact h.low c hc, h.base⟩
theorem Free.at {H : Heap} (h : Free H) : H.blk H.next = none := h _ (Nat.le_refl _)

theorem push_blk_same (H : Heap) (x : Blk) : (H.push x).blk H.next = some x := by simp [Heap.push]
theorem push_blk_other {H : Heap} {b : Nat} (x : Blk) (h : b ≠ H.next) : (H.push x).blk b = H.blk b := by simp only [Heap.push]; rw [if_neg h]
theorem push_blk_old {H : Heap} (hF : Free H) {b : Nat} {x y : Blk} (h : H.blk b = some y) : (H.push x).blk b = some y := by
  rw [push_blk_other _ (by have := hF.lt h; omega)]; exact h

theorem Up.refl (H : Heap) : Up H H := fun _ _ h => h
theorem Up.trans {H G K : Heap} (h : Up H G) (k : Up G K) : Up H K := fun b x hb => k b x (h b x hb)
theorem Up.push {H0 H : Heap} (h : Up H0 H) (hF : Free H) (x : Blk) : Up H0 (H.push x) := fun b y hb => push_blk_old hF (h b y hb)
theorem Up.set {H0 H : Heap} (h : Up H0 H) {b : Nat} (hb : H0.blk b = none) (x : Blk) : Up H0 (H.set b x) := fun c y hc => by
  rw [Heap.set_other _ _ _ (fun e => by rw [e, hb] at hc; cases hc)]; exact h c y hc
theorem Up.new {H0 H : Heap} (h : Up H0 H) (hF : Free H) : H0.blk H.next = none := by
  cases hx : H0.blk H.next with
  | none => rfl
  | some x => have := h _ _ hx; rw [hF.at] at this; cases this
theorem Up.fresh {H0 H : Heap} (h : Up H0 H) {b : Nat} (hb : H.blk b = none) : H0.blk b = none := by
  cases hx : H0.blk b with
  | none => rfl
  | some x => have := h _ _ hx; rw [hb] at this; cases this


def Holds (H : Heap) (esz : Nat) (v : AV) (L : List (List AV)) : Prop :=
  (∀ cs ∈ L, cs.length = esz) ∧
  ((L = [] ∧ (v = .nilslice ∨ v = .eslice)) ∨ v = .lst esz L ∨
   ∃ b off cap ex g ty els gen wgen, v = .slice b off L.length cap ex g ∧ H.blk b = some (.row ty esz els gen wgen) ∧ wgen ≤ g ∧ (els.drop off).take L.length = L ∧ off + L.length ≤ els.length ∧ L.length ≤ cap)

theorem Holds.up {H G : Heap} {esz : Nat} {v : AV} {L : List (List AV)} (h : Holds H esz v L) (hu : Up H G) : Holds G esz v L := by
  obtain ⟨h0, h | h | ⟨b, off, cap, ex, g, ty, els, gen, wgen, h1, h2, h3⟩⟩ := h
  · exact ⟨h0, .inl h⟩
  · exact ⟨h0, .inr (.inl h)⟩
  · exact ⟨h0, .inr (.inr ⟨b, off, cap, ex, g, ty, els, gen, wgen, h1, hu _ _ h2, h3⟩)⟩

theorem Holds.lst {H : Heap} {esz : Nat} {L : List (List AV)} (h : ∀ cs ∈ L, cs.length = esz) : Holds H esz (.lst esz L) L := ⟨h, .inr (.inl rfl)⟩
theorem Holds.nil {H : Heap} {esz : Nat} : Holds H esz .nilslice [] := ⟨by simp, .inl ⟨rfl, .inl rfl⟩⟩

section
variable {P : Program}

theorem Holds.len {H : Heap} {esz : Nat} {v : AV} {L : List (List AV)} (h : Holds H esz v L) {t e : TypeId} (ht : P.underlying t = some (.slice e)) : evBuiltin P H .len #[t] [v] = some (.int .i64 L.length, H) := by
  obtain ⟨h0, ⟨rfl, rfl | rfl⟩ | rfl | ⟨b, off, cap, ex, g, ty, els, gen, wgen, rfl, h2, h3⟩⟩ := h <;> simp [evBuiltin, ht]

theorem Holds.len? {H : Heap} {esz : Nat} {v : AV} {L : List (List AV)} (h : Holds H esz v L) : v.len? = some L.length := by
  obtain ⟨h0, ⟨rfl, rfl | rfl⟩ | rfl | ⟨b, off, cap, ex, g, ty, els, gen, wgen, rfl, h2, h3⟩⟩ := h <;> simp [AV.len?]

theorem Holds.elems {H : Heap} {esz : Nat} {v : AV} {L : List (List AV)} (h : Holds H esz v L) : H.elems esz L.length v = some L := by
  obtain ⟨h0, ⟨rfl, rfl | rfl⟩ | rfl | ⟨b, off, cap, ex, g, ty, els, gen, wgen, rfl, h2, h3, h4, _⟩⟩ := h <;> simp_all [Heap.elems]

theorem Holds.index {H : Heap} {esz : Nat} {v : AV} {L : List (List AV)} (h : Holds H esz v L) {t e : TypeId} (ht : P.underlying t = some (.slice e)) (hs : szOf P e = some esz) (k : IntKind) {i : Nat} {cs : List AV} (hi : L[i]? = some cs) :
    ∃ p, evIndexAddr P H t v (.int k i) = some p ∧ (∀ G, Up H G → G.load p esz = some cs) ∧ ∀ b' i' o' g', p = .ptr b' i' o' g' → H.blk b' ≠ none := by
  obtain ⟨h0, ⟨rfl, rfl | rfl⟩ | rfl | ⟨b, off, cap, ex, g, ty, els, gen, wgen, rfl, h2, h3, h4, h5, _⟩⟩ := h
  · simp at hi
  · simp at hi
  · refine ⟨.iptr cs 0, by simp [evIndexAddr, ht, hs, hi], fun G _ => ?_, by simp⟩
    have := h0 cs (List.mem_of_getElem? hi)
    subst this
    simp [Heap.load]
  · have hlt := (List.getElem?_eq_some_iff.1 hi).1
    have hg : els[off + i]? = some cs := by
      rw [← h4, List.getElem?_take_of_lt hlt, List.getElem?_drop] at hi; exact hi
    refine ⟨.ptr b (off + i) 0 g, ?_, fun G hG => ?_, fun b' i' o' g' e => by cases e; rw [h2]; simp⟩
    · simp [evIndexAddr, ht, hs, Heap.eszOf, h2, h3, hlt]
    · have hl := h0 cs (List.mem_of_getElem? hi)
      subst hl
      simp [Heap.load, hG _ _ h2, h3, hg]

theorem Holds.part {H : Heap} {esz : Nat} {v : AV} {L : List (List AV)} (h : Holds H esz v L) {t e : TypeId} (ht : P.underlying t = some (.slice e)) (hs : szOf P e = some esz) (lo : Option Int) (hi : Option Int) (a b : Nat) (hlo : lo.getD 0 = a) (hhi : hi.getD L.length = b)
    (hab : a ≤ b) (hb : b ≤ L.length) : ∃ u, evSlice P H t v lo hi none = some u ∧ Holds H esz u ((L.drop a).take (b - a)) := by
  have hz : ∀ cs ∈ (L.drop a).take (b - a), cs.length = esz := fun cs hc => h.1 cs (List.mem_of_mem_drop (List.mem_of_mem_take hc))
  obtain ⟨h0, ⟨rfl, rfl | rfl⟩ | rfl | ⟨blk, off, cap, ex, g, ty, els, gen, wgen, rfl, h2, h3, h4, h5, h6⟩⟩ := h
  · have hb0 : b = 0 := by simpa using hb
    subst hb0
    obtain rfl : a = 0 := by omega
    refine ⟨.nilslice, ?_, by simpa using Holds.nil⟩
    have hhi' : hi.getD 0 = 0 := by simpa using hhi
    simp [evSlice, ht, hs, hlo, hhi', boundsOk]
  · have hb0 : b = 0 := by simpa using hb
    subst hb0
    obtain rfl : a = 0 := by omega
    refine ⟨.eslice, ?_, ⟨by simp, .inl ⟨by simp, .inr rfl⟩⟩⟩
    have hhi' : hi.getD 0 = 0 := by simpa using hhi
    simp [evSlice, ht, hs, hlo, hhi', boundsOk]
  · refine ⟨.lst esz ((L.drop a).take (b - a)), ?_, hz, .inr (.inl rfl)⟩
    have e1 : ((b : Int) - (a : Int)).toNat = b - a := by omega
    simp only [evSlice, ht, hlo, hhi, hs, boundsOk, e1, Int.toNat_natCast]
    rw [if_pos (by simp; omega)]
  · have e1 : ((b : Int) - (a : Int)).toNat = b - a := by omega
    refine ⟨.slice blk (off + a) (b - a) (cap - a) ex g, ?_, hz, .inr (.inr ⟨blk, off + a, cap - a, ex, g, ty, els, gen, wgen, ?_, h2, h3, ?_, ?_, ?_⟩)⟩
    · simp only [evSlice, ht, hlo, hhi, hs, boundsOk, e1, Int.toNat_natCast, Heap.eszOf, h2, if_pos h3]
      rw [if_pos (by simp; omega)]
    · simp; omega
    · have hle : ((L.drop a).take (b - a)).length = b - a := by simp; omega
      rw [hle]
      conv => rhs; rw [← h4]
      rw [List.drop_take, List.take_take, List.drop_drop]
      congr 1
      omega
    · have hle : ((L.drop a).take (b - a)).length = b - a := by simp; omega
      rw [hle]; omega
    · have hle : ((L.drop a).take (b - a)).length = b - a := by simp; omega
      rw [hle]; omega


def Own (H0 H : Heap) (ty esz : Nat) (v : AV) (L : List (List AV)) : Prop :=
  (∀ cs ∈ L, cs.length = esz ∧ cs.all AV.isCell = true) ∧
  ((L = [] ∧ (v = .nilslice ∨ v = .eslice)) ∨
   (∃ b g wgen, v = .slice b 0 L.length L.length false g ∧ H.blk b = some (.row ty esz L g wgen) ∧ wgen ≤ g ∧ H0.blk b = none) ∨
   ∃ b g ty' gen wgen, v = .slice b 0 L.length L.length true g ∧ H.blk b = some (.row ty' esz L gen wgen) ∧ (wgen ≤ g ∧ gen = g) ∧ H0.blk b = none)

theorem Own.holds {G H : Heap} {ty esz : Nat} {v : AV} {L : List (List AV)} (h : Own G H ty esz v L) : Holds H esz v L := by
  obtain ⟨h0, h | ⟨b, g, wgen, h1, h2, h3, h4⟩ | ⟨b, g, ty', gen, wgen, h1, h2, h3, h4⟩⟩ := h
  · exact ⟨fun cs hc => (h0 cs hc).1, .inl h⟩
  · exact ⟨fun cs hc => (h0 cs hc).1, .inr (.inr ⟨b, 0, _, false, g, ty, L, g, wgen, h1, h2, h3, by simp, by simp, Nat.le_refl _⟩)⟩
  · exact ⟨fun cs hc => (h0 cs hc).1, .inr (.inr ⟨b, 0, _, true, g, ty', L, gen, wgen, h1, h2, h3.1, by simp, by simp, Nat.le_refl _⟩)⟩

theorem Own.nil {G H : Heap} {ty esz : Nat} : Own G H ty esz .nilslice [] := ⟨by simp, .inl ⟨rfl, .inl rfl⟩⟩

theorem Own.up {G H K : Heap} {ty esz : Nat} {v : AV} {L : List (List AV)} (h : Own G H ty esz v L) (hu : Up H K) : Own G K ty esz v L := by
  obtain ⟨h0, h | ⟨b, g, wgen, h1, h2, h3, h4⟩ | ⟨b, g, ty', gen, wgen, h1, h2, h3, h4⟩⟩ := h
  · exact ⟨h0, .inl h⟩
  · exact ⟨h0, .inr (.inl ⟨b, g, wgen, h1, hu _ _ h2, h3, h4⟩)⟩
  · exact ⟨h0, .inr (.inr ⟨b, g, ty', gen, wgen, h1, hu _ _ h2, h3, h4⟩)⟩

theorem Own.append {G H : Heap} {ty esz bytes : Nat} {v : AV} {L : List (List AV)} (h : Own G H ty esz v L) (hF : Free H) (hU : Up G H) {new : List (List AV)} (hnew : ∀ cs ∈ new, cs.length = esz ∧ cs.all AV.isCell = true)
    (hsz : (L.length + new.length) * bytes ≤ maxBytes) (hsz' : L.length + new.length ≤ maxBytes) :
    ∃ u K, H.append ty esz bytes v new = some (u, K) ∧ Own G K ty esz u (L ++ new) ∧ Up G K ∧ Free K ∧ (K.next = H.next ∨ H.blk H.next = none) ∧ (∀ b x, H.blk b = some x → G.blk b ≠ none → K.blk b = some x) := by
  have hcell : new.all (fun cs => cs.all AV.isCell) = true := List.all_eq_true.2 fun cs hc => (hnew cs hc).2
  have hall : ∀ cs ∈ L ++ new, cs.length = esz ∧ cs.all AV.isCell = true := fun cs hc => (List.mem_append.1 hc).elim (h.1 cs) (hnew cs)
  have hkeep : ∀ b x, H.blk b = some x → G.blk b ≠ none → H.blk b = some x := fun b x hb _ => hb
  by_cases hn : new = []
  · subst hn
    refine ⟨v, H, ?_, by simpa using h, hU, hF, .inl rfl, hkeep⟩
    obtain ⟨h0, ⟨rfl, rfl | rfl⟩ | ⟨b, g, wgen, rfl, h2, h3, h4⟩ | ⟨b, g, ty', gen, wgen, rfl, h2, h3, h4⟩⟩ := h <;> simp [Heap.append]
  · have hn0 : new.length ≠ 0 := by simpa using hn
    have hpos : 0 < new.length := by omega
    obtain ⟨h0, ⟨rfl, hv⟩ | ⟨b, g, wgen, rfl, h2, h3, h4⟩ | ⟨b, g, ty', gen, wgen, rfl, h2, h3, h4⟩⟩ := h
    · have hs1 : new.length * bytes ≤ maxBytes ∧ new.length ≤ maxBytes := by simp at hsz hsz'; exact ⟨hsz, hsz'⟩
      refine ⟨.slice H.next 0 new.length new.length false 0, H.push (.row ty esz new 0 0), ?_, ⟨by simpa using hall, .inr (.inl ⟨H.next, 0, 0, by simp, by simpa using push_blk_same _ _, Nat.le_refl _, hU.new hF⟩)⟩, hU.push hF _, hF.push _, .inr hF.at,
        fun b x hb _ => push_blk_old hF hb⟩
      rcases hv with rfl | rfl <;> (simp only [Heap.append, hcell, if_true]; rw [if_neg hn0, if_pos hs1])
    · have hlt := hF.lt h2
      refine ⟨.slice b 0 (L.length + new.length) (L.length + new.length) false (g + 1), H.set b (.row ty esz (L ++ new) (g + 1) wgen), ?_, ⟨hall, .inr (.inl ⟨b, g + 1, wgen, by simp, by simp [Heap.set_same], by omega, h4⟩)⟩, hU.set h4 _, hF.set hlt _, .inl rfl,
        fun c x hc hg => ?_⟩
      · simp only [Heap.append, hcell, if_true]
        rw [if_neg hn0]
        simp only [h2]
        rw [if_pos ⟨h3, trivial, hsz, hsz'⟩, if_neg (by omega)]
        simp
      · rw [Heap.set_other _ _ _ (fun e => hg (by rw [e]; exact h4))]; exact hc
    · refine ⟨.slice H.next 0 (L.length + new.length) (L.length + new.length) false 0, H.push (.row ty esz (L ++ new) 0 0), ?_, ⟨hall, .inr (.inl ⟨H.next, 0, 0, by simp, push_blk_same _ _, Nat.le_refl _, hU.new hF⟩)⟩, hU.push hF _, hF.push _, .inr hF.at,
        fun b x hb _ => push_blk_old hF hb⟩
      simp only [Heap.append, hcell, if_true]
      rw [if_neg hn0]
      simp only [h2]
      rw [if_pos ⟨h3.1, trivial, hsz, hsz'⟩, if_neg (by omega)]
      simp

theorem append1_some {H : Heap} {e : TypeId} {esz bytes : Nat} {s : AV} {new : List (List AV)} {q : AV × Heap} (h : H.append e esz bytes s new = some q) : H.append1 e esz bytes s new = some q := by
  simp only [Heap.append1, h]

def appB (P : Program) (t u e esz bytes : Nat) : Bool :=
  elemOfSlice P t == some e && (match P.underlying u with | some (.slice _) => true | _ => false) &&
  (match P.info? e with | some i => i.size == esz && i.bytes == bytes && decide (0 < esz) && (match i.zero with | some z => z.cells.size == i.size | none => false) | none => false)

theorem append_ev {H : Heap} {t u e esz bytes : Nat} (hb : appB P t u e esz bytes = true) {s x : AV} {new : List (List AV)} {n : Nat} (hn : x.len? = some n) (he : H.elems esz n x = some new) :
    evBuiltin P H .append #[t, u] [s, x] = H.append1 e esz bytes s new := by
  simp only [appB, Bool.and_eq_true, beq_iff_eq] at hb
  obtain ⟨⟨h1, h2⟩, h3⟩ := hb
  split at h2
  · rename_i ue hu
    split at h3
    · rename_i i hi
      simp only [Bool.and_eq_true, beq_iff_eq, decide_eq_true_eq] at h3
      obtain ⟨⟨⟨rfl, rfl⟩, h0⟩, hz⟩ := h3
      split at hz
      · rename_i z hzz
        simp only [beq_iff_eq] at hz
        simp [evBuiltin, h1, hu, hi, hzz, hn, hz, h0, he]
      · cases hz
    · cases h3
  · cases h2

end
end Go.Ev
