import Derived.Test.YtjlmgabhhodhfaaGreatDoorK1K3
set_option linter.unusedVariables false
set_option linter.unusedSimpArgs false
namespace Go.Ev
open Go.RowKit
section
variable {P : Program}

theorem load_next (B : Nat → Option Blk) (m k : Nat) (a : AV) (n : Nat) : Heap.load ⟨B, m⟩ a n = Heap.load ⟨B, k⟩ a n := by
  cases a <;> rfl

theorem results_next {env : Env} {B : Nat → Option Blk} (m k : Nat) : ∀ (rs : List ResultVar), evResultsL P env ⟨B, m⟩ rs = evResultsL P env ⟨B, k⟩ rs
  | [] => rfl
  | r :: rs => by
    have h : evResult P env ⟨B, m⟩ r = evResult P env ⟨B, k⟩ r := by
      cases r with
      | tmp t => rfl
      | cell a t => simp only [evResult, load_next B m k]
    simp only [evResultsL, h, results_next m k rs]

theorem EvS.renext {n : Nat} {ops : Array Oper} {l : List Nat} {env : Env} {H : Heap} {env' : Env} {H' : Heap} (h : EvS P n ops l env H env' H') (m : Nat) : EvS P n ops l env ⟨H.blk, m⟩ env' H' :=
  .hint _ _ _ H.next _ _ _ _ h

mutual
theorem EvC.renext : ∀ {n : Nat} {c : Code} {env : Env} {H : Heap} {ex : Ex} {env' : Env} {H' : Heap}, EvC P n c env H ex env' H' → ∀ m, ∃ k, EvC P n c env ⟨H.blk, m⟩ ex env' ⟨H'.blk, k⟩
  | _, _, _, _, _, _, _, .skip n env H, m => ⟨m, .skip _ _ _⟩
  | _, _, _, _, _, _, _, .label n l env H, m => ⟨m, .label _ _ _ _⟩
  | _, _, _, _, _, _, _, .region n id ops env H env' H' h, m => ⟨H'.next, .region _ _ _ _ _ _ _ (h.renext m)⟩
  | _, _, _, _, _, _, _, .draw n id ops env H env' H' h, m => ⟨H'.next, .draw _ _ _ _ _ _ _ (fun t => (h t).renext m)⟩
  | _, _, _, _, _, _, _, .seq n x y env H env1 H1 ex env2 H2 h h', m =>
    let ⟨k, h1⟩ := h.renext m; let ⟨k', h2⟩ := h'.renext k; ⟨k', .seq _ _ _ _ _ _ _ _ _ _ h1 h2⟩
  | _, _, _, _, _, _, _, .seqOut n x y env H ex env1 H1 h hx, m => let ⟨k, h1⟩ := h.renext m; ⟨k, .seqOut _ _ _ _ _ _ _ _ h1 hx⟩
  | _, _, _, _, _, _, _, .cond n c x y t env H ex env1 H1 hc h, m => let ⟨k, h1⟩ := h.renext m; ⟨k, .cond _ _ _ _ t _ _ _ _ _ hc h1⟩
  | _, _, _, _, _, _, _, .block n id c env H ex env1 H1 h hx, m => let ⟨k, h1⟩ := h.renext m; ⟨k, .block _ _ _ _ _ _ _ _ h1 hx⟩
  | _, _, _, _, _, _, _, .blockOut n id c env H ex env1 H1 h hx, m => let ⟨k, h1⟩ := h.renext m; ⟨k, .blockOut _ _ _ _ _ _ _ _ h1 hx⟩
  | _, _, _, _, _, _, _, .loop n c env H ex env' H' h, m => let ⟨k, h1⟩ := h.renext m; ⟨k, .loop _ _ _ _ _ _ _ h1⟩
  | _, _, _, _, _, _, _, .exit n id env H, m => ⟨m, .exit _ _ _ _⟩
  | _, _, _, _, _, _, _, .ret n env H, m => ⟨m, .ret _ _ _⟩
  | _, _, _, _, _, _, _, .scope n c env H ex env1 H1 h, m => let ⟨k, h1⟩ := h.renext m; ⟨k, .scope _ _ _ _ _ _ _ h1⟩
theorem EvL.renext : ∀ {n : Nat} {c : Code} {env : Env} {H : Heap} {ex : Ex} {env' : Env} {H' : Heap}, EvL P n c env H ex env' H' → ∀ m, ∃ k, EvL P n c env ⟨H.blk, m⟩ ex env' ⟨H'.blk, k⟩
  | _, _, _, _, _, _, _, .again n c env H env1 H1 ex env2 H2 h h', m =>
    let ⟨k, h1⟩ := h.renext m; let ⟨k', h2⟩ := h'.renext k; ⟨k', .again _ _ _ _ _ _ _ _ _ h1 h2⟩
  | _, _, _, _, _, _, _, .out n c env H ex env1 H1 h hx, m => let ⟨k, h1⟩ := h.renext m; ⟨k, .out _ _ _ _ _ _ _ h1 hx⟩
end

theorem EvP.renext : ∀ {n : Nat} {l : List Code} {env : Env} {H : Heap} {ex : Ex} {env' : Env} {H' : Heap}, EvP P n l env H ex env' H' → ∀ m, ∃ k, EvP P n l env ⟨H.blk, m⟩ ex env' ⟨H'.blk, k⟩
  | _, _, _, _, _, _, _, .nil n env H, m => ⟨m, .nil _ _ _⟩
  | _, _, _, _, _, _, _, .cons n c l env H env1 H1 ex env2 H2 h h', m =>
    let ⟨k, h1⟩ := h.renext m; let ⟨k', h2⟩ := EvP.renext h' k; ⟨k', .cons _ _ _ _ _ _ _ _ _ _ h1 h2⟩
  | _, _, _, _, _, _, _, .out n c l env H env1 H1 ex h hx, m => let ⟨k, h1⟩ := h.renext m; ⟨k, .out _ _ _ _ _ _ _ _ h1 hx⟩

theorem EvD.renext {f : FuncId} {args : List AV} {H : Heap} {H' : Heap} (h : EvD P f args H H') (m : Nat) : ∃ k, EvD P f args ⟨H.blk, m⟩ ⟨H'.blk, k⟩ := by
  obtain ⟨_, fn, c, id, ops, d, e, l, _, _, ex, env, _, r, hf, hn, hb, ha, hl, hd, hdn, hen, h, he, hr⟩ := h
  obtain ⟨k, h1⟩ := h.renext m
  refine ⟨k, .mk f fn c id ops d e l args _ ex env _ r hf hn hb ha hl hd hdn hen h1 he ?_⟩
  rw [← hr]
  unfold evResults
  rw [results_next k H'.next]

theorem EvF.renext {f : FuncId} {args : List AV} {H : Heap} {r : AV} {H' : Heap} (h : EvF P f args H r H') (m : Nat) : ∃ k, EvF P f args ⟨H.blk, m⟩ r ⟨H'.blk, k⟩ := by
  cases h with
  | mk _ fn c _ _ ex env _ _ hf hn hb ha h he hr =>
    obtain ⟨k, h1⟩ := h.renext m
    refine ⟨k, .mk f fn c args _ ex env _ r hf hn hb ha h1 he ?_⟩
    rw [← hr]
    unfold evResults
    rw [results_next k H'.next]
  | mkD _ fn c l1 l2 id ops d g first cap _ _ env1 H1 ex env2 H2 _ _ hf hn hb ha hl hd hdn h1 h2 he h3 hr =>
    obtain ⟨k1, e1⟩ := h1.renext m
    obtain ⟨k2, e2⟩ := h2.renext k1
    obtain ⟨k3, e3⟩ := h3.renext k2
    refine ⟨k3, .mkD f fn c l1 l2 id ops d g first cap args _ env1 _ ex env2 _ _ r hf hn hb ha hl hd hdn e1 e2 he e3 ?_⟩
    rw [← hr]
    unfold evResults
    rw [results_next k3 H'.next]

def beside (M : Nat) (G H : Heap) (k : Nat) : Heap := ⟨fun b => if M ≤ b ∧ b < k then G.blk b else H.blk b, H.next⟩

theorem EvF.frames {f : FuncId} {args : List AV} {H : Heap} {r : AV} {H' : Heap} (h : EvF P f args H r H') {M : Nat} (hM : ∀ b, M ≤ b → H'.blk b = none) (G : Heap) :
    ∀ k, EvF P f args (beside M G H k) r (beside M G H' k)
  | 0 => by
    have e : ∀ X : Heap, beside M G X 0 = X := fun X => Heap.ext' (fun i => by simp [beside]) rfl
    rw [e, e]; exact h
  | k + 1 => by
    have ih := h.frames hM G k
    have hd := h.dom
    by_cases hk : M ≤ k
    · have e : ∀ X : Heap, ∀ x, G.blk k = some x → beside M G X (k + 1) = (beside M G X k).set k x := fun X x hx => Heap.ext' (fun i => by
        simp only [beside, Heap.set]
        by_cases hi : i = k
        · subst hi; rw [if_pos ⟨hk, by omega⟩, if_pos rfl, hx]
        · rw [if_neg hi]
          by_cases hi2 : M ≤ i ∧ i < k
          · rw [if_pos hi2, if_pos ⟨hi2.1, by omega⟩]
          · rw [if_neg hi2, if_neg (by omega)]) rfl
      have e' : ∀ X : Heap, X.blk k = none → G.blk k = none → beside M G X (k + 1) = beside M G X k := fun X hX hG => Heap.ext' (fun i => by
        simp only [beside]
        by_cases hi : i = k
        · subst hi; rw [if_pos ⟨hk, by omega⟩, if_neg (by omega), hG, hX]
        · by_cases hi2 : M ≤ i ∧ i < k
          · rw [if_pos hi2, if_pos ⟨hi2.1, by omega⟩]
          · rw [if_neg hi2, if_neg (by omega)]) rfl
      cases hx : G.blk k with
      | none => rw [e' H (none_of_dom hd (hM k hk)) hx, e' H' (hM k hk) hx]; exact ih
      | some x => rw [e H x hx, e H' x hx]; exact ih.frame x (by simp only [beside]; rw [if_neg (by omega)]; exact hM k hk)
    · have e : ∀ X : Heap, beside M G X (k + 1) = beside M G X k := fun X => Heap.ext' (fun i => by
        simp only [beside]
        rw [if_neg (by omega), if_neg (by omega)]) rfl
      rw [e, e]; exact ih

def H00 (M : Nat) : Heap := ⟨fun _ => none, M⟩
theorem free_H00 : Free (H00 M0) := ⟨fun _ _ => rfl, fun _ _ => rfl, Nat.le_refl _⟩
theorem wrel_start' (W : World) (M : Nat) : WRel (memOf W) W E0 (H00 M) W where
  below := Below.refl _ _
  mem := fun b o v h => ⟨World.block_lt_of_cell? (a := ⟨b, o, none⟩) W h, h⟩
  dom := fun b g L h => by cases h
  mdom := fun b m h => by cases h
  row := fun b ty esz els gen wgen h => by cases h
  map := fun b es cl h => by cases h
  sep := fun b g L b' g' L' h => by cases h
  msep := fun b m b' h => by cases h
  memsep := fun b g L o v h => by cases h

theorem law_calls' {P : Program} (hm : P.follows .mixedOrders = true) (M : Nat) {f : FuncId} {as : List AV} {vs : List Value} {W : World} (hgl : GlOk (memOf W)) (hr : RepL (memOf W) E0 as vs) (h : WF P f as (H00 M) fun r _ => r = .bool true) :
    Calls P f vs.toArray W fun e W' => e = .returned (.bool true) ∧ Below W.heap.size W W' := by
  obtain ⟨r, H', h1, h2⟩ := h
  subst h2
  refine ((EvF.sound (C := memOf W) (w0 := W) hm hgl h1).2 (wrel_start' W M) hr).mono fun e W' ⟨E', v, he, _, hw, hv⟩ => ?_
  rw [rep_bool hv] at he
  exact ⟨he, hw.below⟩
end
end Go.Ev
