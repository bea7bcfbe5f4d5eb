import Derived.Test.YtjjmdbhgmecpjaaGreatDoorEvQ
import Derived.IntWalk
set_option linter.unusedVariables false
set_option linter.unusedSimpArgs false
namespace Go.Ev
section
variable {P : Program}

def WBool (w : Bool) (v : AV) : Option Bool := match v with | .bool b => some (b == w) | .tuple [] => some false | _ => none
def WStep (w : Bool) (d : Option Tmp) (env : Env) : Option Bool := match d with | some d => WBool w (env.at (.tmp d)) | none => none
theorem wantedA_guard {ops : Array Oper} {env : Env} {d : Option Tmp} {op : Op} {ty : TypeId} {pos : String} {af : Array Edge} {j : Nat} {w : Bool} : wantedA ops env ⟨d, op, ty, pos, af, some (j, w)⟩ = WStep w ((ops[j]?).bind (·.dst)) env := by
  simp only [wantedA, WStep, WBool, Env.at]
  rfl
theorem wstep_some {w : Bool} {d : Tmp} {env : Env} : WStep w (some d) env = WBool w (env.at (.tmp d)) := rfl
theorem wbool_off {w : Bool} : WBool w (.tuple []) = some false := rfl
theorem wbool_true {b : Bool} : WBool true (.bool b) = some b := by cases b <;> rfl
theorem wbool_false {b : Bool} : WBool false (.bool b) = some (!b) := by cases b <;> rfl

theorem load_ptr {H : Heap} {b i o g n : Nat} : H.load (.ptr b i o g) n = (match H.blk b with
    | some (.row _ esz els _ wgen) =>
      if wgen ≤ g ∧ o + n ≤ esz then
        match els[i]? with
        | some cs => some ((cs.drop o).take n)
        | none => none
      else none
    | _ => none) := rfl
theorem load_iptr {H : Heap} {cs : List AV} {o n : Nat} : H.load (.iptr cs o) n = if o + n ≤ cs.length then some ((cs.drop o).take n) else none := rfl

theorem Holds.lenAt {H : Heap} {esz : Nat} {v : AV} {L : List (List AV)} (h : Holds H esz v L) {t e : TypeId} (ht : P.underlying t = some (.slice e)) (G : Heap) : evBuiltin P G .len #[t] [v] = some (.int .i64 L.length, G) := by
  obtain ⟨h0, ⟨rfl, rfl | rfl⟩ | rfl | ⟨b, off, cap, ex, g, ty, els, gen, wgen, rfl, h2, h3⟩⟩ := h <;> simp [evBuiltin, ht]

theorem len_str {t : TypeId} (ht : P.underlying t = some .string) (G : Heap) (s : List Nat) : evBuiltin P G .len #[t] [.str s] = some (.int .i64 s.length, G) := by simp [evBuiltin, ht]
theorem len_nil {t e : TypeId} (ht : P.underlying t = some (.slice e)) (G : Heap) : evBuiltin P G .len #[t] [.nilslice] = some (.int .i64 0, G) := by simp [evBuiltin, ht]
theorem len_slice {t e : TypeId} (ht : P.underlying t = some (.slice e)) (G : Heap) (b o l c : Nat) (ex : Bool) (g : Nat) : evBuiltin P G .len #[t] [.slice b o l c ex g] = some (.int .i64 l, G) := by simp [evBuiltin, ht]

theorem wrap_succ {i : Nat} (h : i < 2 ^ 62) : IntKind.i64.wrap ((i : Int) + 1) = ((i + 1 : Nat) : Int) := by
  rw [IntWalk.i64_in _ (by omega)]; omega

theorem lt_true {i n : Nat} (h : i < n) : ((i : Int) < (n : Int)) = True := by simp; exact h
theorem lt_false {i n : Nat} (h : ¬ i < n) : ((i : Int) < (n : Int)) = False := by simp; omega

/-- A new row is read. -/
theorem holds_hp {H : Heap} {xs : List Blk} {k n esz ty : Nat} {c : Nat} {ex : Bool} {L : List (List AV)} (hx : xs[k]? = some (.row ty esz L 0 0)) (hn : L.length = n) (hc : n ≤ c) (hL : ∀ cs ∈ L, cs.length = esz) :
    Holds (HP H xs) esz (.slice (H.next + k) 0 n c ex 0) L := by
  subst hn
  exact ⟨hL, .inr (.inr ⟨H.next + k, 0, c, ex, 0, ty, L, 0, 0, rfl, by rw [hp_blk]; exact hx, Nat.le_refl _, by simp, by simp, hc⟩)⟩

/-- The slice's row is not of this heap. -/
def FreshS (H : Heap) (v : AV) : Prop := ∀ b off len cap ex g, v = .slice b off len cap ex g → H.blk b = none

theorem freshS_hp {H : Heap} (hF : Free H) {k o n c : Nat} {ex : Bool} {g : Nat} : FreshS H (.slice (H.next + k) o n c ex g) := fun b off len cap ex' g' e => by
  cases e; exact hF _ (by omega)
theorem freshS_nil {H : Heap} : FreshS H .nilslice := fun b off len cap ex g e => by cases e

theorem FreshS.up {G H : Heap} {v : AV} (h : FreshS H v) (hu : Up G H) : FreshS G v := fun b off len cap ex g e => hu.fresh (h b off len cap ex g e)

theorem rebase_aux {G Hb H : Heap} {b : Nat} {x : Blk} (hG : Up G Hb) (hu : Up Hb H) (h2 : Hb.blk b = some x) (h4 : G.blk b = none) :
    ∃ G' : Heap, G'.blk b = none ∧ Up G G' ∧ Up G' H ∧ (∀ u s L', Holds H s u L' → FreshS Hb u → Holds G' s u L') := by
  refine ⟨⟨fun c => if c = b then none else H.blk c, H.next⟩, by simp, fun c x hc => ?_, fun c x hc => ?_, fun u s L' hl hf => ?_⟩
  · have hne : c ≠ b := fun e => by rw [e, h4] at hc; cases hc
    simp only; rw [if_neg hne]; exact hu _ _ (hG _ _ hc)
  · simp only at hc; split at hc
    · cases hc
    · exact hc
  · obtain ⟨k0, k | k | ⟨b', off, cap, ex, g', ty', els, gen, wgen', k1, k2, k3⟩⟩ := hl
    · exact ⟨k0, .inl k⟩
    · exact ⟨k0, .inr (.inl k)⟩
    · have hne : b' ≠ b := fun e => by have := hf _ _ _ _ _ _ k1; rw [e, h2] at this; cases this
      exact ⟨k0, .inr (.inr ⟨b', off, cap, ex, g', ty', els, gen, wgen', k1, by simp only; rw [if_neg hne]; exact k2, k3⟩)⟩

/-- Another base for a slice that grows: all but its own row. -/
theorem Own.rebase {G Hb H : Heap} {ty esz : Nat} {v : AV} {L : List (List AV)} (h : Own G Hb ty esz v L) (hG : Up G Hb) (hu : Up Hb H) :
    ∃ G', Up G G' ∧ Up G' H ∧ Own G' H ty esz v L ∧ (∀ u s L', Holds H s u L' → FreshS Hb u → Holds G' s u L') := by
  obtain ⟨h0, h | ⟨b, g, wgen, h1, h2, h3, h4⟩ | ⟨b, g, ty', gen, wgen, h1, h2, h3, h4⟩⟩ := h
  · exact ⟨H, hG.trans hu, Up.refl H, ⟨h0, .inl h⟩, fun u s L' hu' _ => hu'⟩
  · obtain ⟨G', k1, k2, k3, k4⟩ := rebase_aux hG hu h2 h4
    exact ⟨G', k2, k3, ⟨h0, .inr (.inl ⟨b, g, wgen, h1, hu _ _ h2, h3, k1⟩)⟩, k4⟩
  · obtain ⟨G', k1, k2, k3, k4⟩ := rebase_aux hG hu h2 h4
    exact ⟨G', k2, k3, ⟨h0, .inr (.inr ⟨b, g, ty', gen, wgen, h1, hu _ _ h2, h3, k1⟩)⟩, k4⟩

theorem Own.base {G G' H : Heap} {ty esz : Nat} {v : AV} {L : List (List AV)} (h : Own G' H ty esz v L) (hu : Up G G') : Own G H ty esz v L := by
  obtain ⟨h0, h | ⟨b, g, wgen, h1, h2, h3, h4⟩ | ⟨b, g, ty', gen, wgen, h1, h2, h3, h4⟩⟩ := h
  · exact ⟨h0, .inl h⟩
  · exact ⟨h0, .inr (.inl ⟨b, g, wgen, h1, h2, h3, hu.fresh h4⟩)⟩
  · exact ⟨h0, .inr (.inr ⟨b, g, ty', gen, wgen, h1, h2, h3, hu.fresh h4⟩)⟩

theorem Own.freshS {G H : Heap} {ty esz : Nat} {v : AV} {L : List (List AV)} (h : Own G H ty esz v L) : FreshS G v := fun b off len cap ex g e => by
  obtain ⟨h0, ⟨_, h | h⟩ | ⟨b', g', wgen, h1, h2, h3, h4⟩ | ⟨b', g', ty', gen, wgen, h1, h2, h3, h4⟩⟩ := h
  · rw [h] at e; cases e
  · rw [h] at e; cases e
  · rw [h1] at e; cases e; exact h4
  · rw [h1] at e; cases e; exact h4

/-- A row that has just been built. -/
theorem own_hp {G H : Heap} {xs : List Blk} {k n esz ty ty' : Nat} {L : List (List AV)} (hF : Free H) (hU : Up G H) (hx : xs[k]? = some (.row ty' esz L 0 0)) (hn : L.length = n) (hL : ∀ cs ∈ L, cs.length = esz ∧ cs.all AV.isCell = true) :
    Own G (HP H xs) ty esz (.slice (H.next + k) 0 n n true 0) L := by
  subst hn
  exact ⟨hL, .inr (.inr ⟨H.next + k, 0, ty', 0, 0, rfl, by rw [hp_blk]; exact hx, ⟨Nat.le_refl _, rfl⟩, hU.fresh (hF _ (by omega))⟩)⟩

variable {Kp : Kept} {n : Nat} {ks : List KItem} {env : Env} {Q : Ex → Env → Heap → Prop} {ops : Array Oper} {l : List (Oper × Bool)}

/-- The end of a round, with a condition that holds when the loop is left. -/
def RoundR (I : Env → Heap → Prop) (μ : Env → Heap → Nat) (m : Nat) (R : Ex → Env → Heap → Prop) (ex : Ex) (env : Env) (H : Heap) : Prop :=
  match ex with
  | .normal => I env H ∧ μ env H < m
  | ex => R ex env H

theorem roundR_normal {I : Env → Heap → Prop} {μ : Env → Heap → Nat} {m : Nat} {R : Ex → Env → Heap → Prop} {env : Env} {H : Heap} : RoundR I μ m R .normal env H = (I env H ∧ μ env H < m) := rfl
theorem roundR_exit {I : Env → Heap → Prop} {μ : Env → Heap → Nat} {m i : Nat} {R : Ex → Env → Heap → Prop} {env : Env} {H : Heap} : RoundR I μ m R (.exit i) env H = R (.exit i) env H := rfl
theorem roundR_ret {I : Env → Heap → Prop} {μ : Env → Heap → Nat} {m : Nat} {R : Ex → Env → Heap → Prop} {env : Env} {H : Heap} : RoundR I μ m R .ret env H = R .ret env H := rfl

theorem loopStepR {c : Code} {H : Heap} (I : Env → Heap → Prop) (μ : Env → Heap → Nat) (R : Ex → Env → Heap → Prop) (h0 : I env H)
    (round : ∀ env H, I env H → After P n [.code c] .normal env H (RoundR I μ (μ env H) R)) (after : ∀ ex env H, R ex env H → After P n ks ex env H Q) : LoopStep P n c ks env H Q :=
  loopStep I μ h0 fun env H hI => by
    have := round env H hI
    simp only [After] at this ⊢
    refine WC_mono c (fun ex env H h => ?_) this
    cases ex
    · exact h
    · exact after _ _ _ h
    · exact after _ _ _ h

theorem opStep_append {G H : Heap} {d : Option Tmp} {t u e esz bytes : Nat} (hb : appB P t u e esz bytes = true) {v x : AV} {L new : List (List AV)} (hO : Own G H e esz v L) (hF : Free H) (hU : Up G H) (hx : Holds H esz x new)
    (hnew : ∀ cs ∈ new, cs.all AV.isCell = true) (hsz : (L.length + new.length) * bytes ≤ maxBytes) (hsz' : L.length + new.length ≤ maxBytes)
    (h : ∀ u K, Own G K e esz u (L ++ new) → Up G K → Free K → AfterOps P Kp n ops l ks (env.put d u) K Q) : OpStep P Kp n ops d false (evBuiltin P H .append #[t, u] [v, x]) l ks env H Q := by
  obtain ⟨r, K, h1, h2, h3, h4, h5, _⟩ := hO.append hF hU (fun cs hc => ⟨hx.1 cs hc, hnew cs hc⟩) hsz hsz'
  rw [append_ev hb hx.len? hx.elems, h1, opStep_some]
  exact ⟨h5, h r K h2 h3 h4⟩

end
end Go.Ev
