import Derived.Test.YtjjmdbhgmecpjaaGreatDoorK4d
set_option linter.unusedVariables false
set_option linter.unusedSimpArgs false
namespace Go.Ev

/-! ### A closed run in pieces: each begins at a heap that is written down -/

mutual
def eqAV : AV → AV → Bool
  | .undef, .undef => true
  | .bool b, .bool b' => b == b'
  | .int k n, .int k' n' => decide (k = k') && decide (n = n')
  | .str s, .str s' => s == s'
  | .nilptr, .nilptr => true
  | .ptr b i o g, .ptr b' i' o' g' => Nat.beq b b' && Nat.beq i i' && Nat.beq o o' && Nat.beq g g'
  | .iptr cs o, .iptr cs' o' => eqAVs cs cs' && Nat.beq o o'
  | .nilslice, .nilslice => true
  | .eslice, .eslice => true
  | .slice b o l c ex g, .slice b' o' l' c' ex' g' => Nat.beq b b' && Nat.beq o o' && Nat.beq l l' && Nat.beq c c' && ex == ex' && Nat.beq g g'
  | .lst n es, .lst n' es' => Nat.beq n n' && eqAVss es es'
  | .agg cs, .agg cs' => eqAVs cs cs'
  | .tuple cs, .tuple cs' => eqAVs cs cs'
  | .nilIface, .nilIface => true
  | .iface t v, .iface t' v' => Nat.beq t t' && eqAV v v'
  | .nilFunc, .nilFunc => true
  | .func f u w, .func f' u' w' => decide (f = f') && eqAVs u u' && eqAVs w w'
  | .nilMap, .nilMap => true
  | .map b, .map b' => Nat.beq b b'
  | _, _ => false
def eqAVs : List AV → List AV → Bool
  | [], [] => true
  | a :: l, b :: m => eqAV a b && eqAVs l m
  | _, _ => false
def eqAVss : List (List AV) → List (List AV) → Bool
  | [], [] => true
  | a :: l, b :: m => eqAVs a b && eqAVss l m
  | _, _ => false
end
theorem nbeq {a b : Nat} (h : Nat.beq a b = true) : a = b := Nat.eq_of_beq_eq_true h
mutual
theorem eqAV_ok : ∀ (a b : AV), eqAV a b = true → a = b := by
  intro a b h
  cases a <;> cases b <;> simp only [eqAV, Bool.and_eq_true, decide_eq_true_eq, beq_iff_eq, reduceCtorEq, Bool.false_eq_true] at h
  all_goals first
    | rfl
    | (subst h; rfl)
    | (obtain ⟨rfl, rfl⟩ := h; rfl)
    | (rw [nbeq h])
    | (obtain ⟨⟨⟨h1, h2⟩, h3⟩, h4⟩ := h; rw [nbeq h1, nbeq h2, nbeq h3, nbeq h4])
    | (obtain ⟨⟨⟨⟨⟨h1, h2⟩, h3⟩, h4⟩, rfl⟩, h6⟩ := h; rw [nbeq h1, nbeq h2, nbeq h3, nbeq h4, nbeq h6])
    | (rw [eqAVs_ok _ _ h])
    | (obtain ⟨h1, h2⟩ := h; rw [eqAVs_ok _ _ h1, nbeq h2])
    | (obtain ⟨h1, h2⟩ := h; rw [nbeq h1, eqAVss_ok _ _ h2])
    | (obtain ⟨h1, h2⟩ := h; rw [nbeq h1, eqAV_ok _ _ h2])
    | (obtain ⟨⟨rfl, h1⟩, h2⟩ := h; rw [eqAVs_ok _ _ h1, eqAVs_ok _ _ h2])
theorem eqAVs_ok : ∀ (a b : List AV), eqAVs a b = true → a = b
  | [], [], _ => rfl
  | [], _ :: _, h => by simp [eqAVs] at h
  | _ :: _, [], h => by simp [eqAVs] at h
  | a :: l, b :: m, h => by
    simp only [eqAVs, Bool.and_eq_true] at h
    rw [eqAV_ok a b h.1, eqAVs_ok l m h.2]
theorem eqAVss_ok : ∀ (a b : List (List AV)), eqAVss a b = true → a = b
  | [], [], _ => rfl
  | [], _ :: _, h => by simp [eqAVss] at h
  | _ :: _, [], h => by simp [eqAVss] at h
  | a :: l, b :: m, h => by
    simp only [eqAVss, Bool.and_eq_true] at h
    rw [eqAVs_ok a b h.1, eqAVss_ok l m h.2]
end
def eqEs : List (AV × AV × Nat) → List (AV × AV × Nat) → Bool
  | [], [] => true
  | (a, b, n) :: l, (a', b', n') :: m => eqAV a a' && eqAV b b' && Nat.beq n n' && eqEs l m
  | _, _ => false
theorem eqEs_ok : ∀ (a b : List (AV × AV × Nat)), eqEs a b = true → a = b
  | [], [], _ => rfl
  | [], _ :: _, h => by simp [eqEs] at h
  | _ :: _, [], h => by simp [eqEs] at h
  | (a, b, n) :: l, (a', b', n') :: m, h => by
    simp only [eqEs, Bool.and_eq_true] at h
    rw [eqAV_ok _ _ h.1.1.1, eqAV_ok _ _ h.1.1.2, nbeq h.1.2, eqEs_ok l m h.2]
def eqBlk : Blk → Blk → Bool
  | .row t z e g w, .row t' z' e' g' w' => Nat.beq t t' && Nat.beq z z' && eqAVss e e' && Nat.beq g g' && Nat.beq w w'
  | .map es c, .map es' c' => eqEs es es' && Nat.beq c c'
  | _, _ => false
theorem eqBlk_ok {a b : Blk} (h : eqBlk a b = true) : a = b := by
  cases a <;> cases b <;> simp only [eqBlk, Bool.and_eq_true, Bool.false_eq_true] at h
  · obtain ⟨⟨⟨⟨h1, h2⟩, h3⟩, h4⟩, h5⟩ := h
    rw [nbeq h1, nbeq h2, eqAVss_ok _ _ h3, nbeq h4, nbeq h5]
  · rw [eqEs_ok _ _ h.1, nbeq h.2]
def eqTrA : Tr AV → Tr AV → Bool
  | .nil, .nil => true
  | .node l v r, .node l' v' r' => (match v, v' with | none, none => true | some a, some b => eqAV a b | _, _ => false) && eqTrA l l' && eqTrA r r'
  | _, _ => false
theorem eqTrA_ok : ∀ (a b : Tr AV), eqTrA a b = true → a = b
  | .nil, .nil, _ => rfl
  | .nil, .node _ _ _, h => by simp [eqTrA] at h
  | .node _ _ _, .nil, h => by simp [eqTrA] at h
  | .node l v r, .node l' v' r', h => by
    simp only [eqTrA, Bool.and_eq_true] at h
    rw [eqTrA_ok l l' h.1.2, eqTrA_ok r r' h.2]
    cases v <;> cases v' <;> simp only [Bool.false_eq_true, false_and] at h
    · rfl
    · rw [eqAV_ok _ _ h.1.1]

/-- A heap, written down: these blocks, the next name N. -/
abbrev RL := List (Nat × Blk)
noncomputable def mkT (R : RL) : Tr Blk := @List.rec (Nat × Blk) (fun _ => Tr Blk) .nil (fun e _ ih => putP e.2 (pathOf e.1) ih) R
noncomputable def mkK (N : Nat) (R : RL) : KH := ⟨mkT R, N, N, []⟩
noncomputable def mkE (R : List (Nat × AV)) : KE := @List.rec (Nat × AV) (fun _ => KE) .nil (fun e _ ih => putP e.2 (pathOf e.1) ih) R
theorem get_putP {α : Type} (x : α) (t : Tr α) (n m : Nat) : (putP x (pathOf n) t).get m = if m = n then some x else t.get m := by
  have h : n + 1 < 2 ^ (n + 1) := Nat.lt_two_pow_self
  rw [putP_eq x n t (n + 1) h, Tr.get_put x _ t n m h]
theorem mkT_get : ∀ {R : RL} {b : Nat} {x : Blk}, (mkT R).get b = some x → (b, x) ∈ R
  | [], b, x, h => by cases h
  | e :: R, b, x, h => by
    rw [show mkT (e :: R) = putP e.2 (pathOf e.1) (mkT R) from rfl, get_putP] at h
    by_cases hb : b = e.1
    · rw [if_pos hb] at h
      cases h
      subst hb
      exact List.mem_cons_self
    · rw [if_neg hb] at h
      exact List.mem_cons_of_mem _ (mkT_get h)
theorem mkT_some : ∀ {R : RL} {b : Nat}, b ∈ R.map (·.1) → ∃ x, (mkT R).get b = some x
  | [], b, h => by simp at h
  | e :: R, b, h => by
    rw [show mkT (e :: R) = putP e.2 (pathOf e.1) (mkT R) from rfl, get_putP]
    by_cases hb : b = e.1
    · exact ⟨_, by rw [if_pos hb]⟩
    · rw [if_neg hb]
      simp only [List.map_cons, List.mem_cons] at h
      exact mkT_some (h.resolve_left hb)
def below (N : Nat) : RL → Bool
  | [] => true
  | e :: R => Nat.blt e.1 N && below N R
theorem below_ok {N : Nat} : ∀ {R : RL}, below N R = true → ∀ e ∈ R, e.1 < N
  | [], _, e, he => by cases he
  | x :: R, h, e, he => by
    simp only [below, Bool.and_eq_true, bltN, decide_eq_true_eq] at h
    rcases List.mem_cons.1 he with rfl | he
    · exact h.1
    · exact below_ok h.2 e he
theorem mkK_ok {N : Nat} {R : RL} (h : below N R = true) : (mkK N R).Ok := ⟨fun b hb => by
  cases hg : (mkT R).get b with
  | none => exact hg
  | some x =>
    have := below_ok h _ (mkT_get hg)
    exact absurd this (Nat.not_lt.2 hb), Nat.le_refl _⟩

/-- Beside a run: the blocks below k that its end does not have. -/
def over (k : Nat) (G H1 X : Heap) : Heap := ⟨fun b => if b < k ∧ (H1.blk b).isNone = true then G.blk b else X.blk b, X.next⟩
theorem EvC.over {P : Program} {n : Nat} {c : Code} {env : Env} {H0 : Heap} {ex : Ex} {env' : Env} {H1 : Heap} (h : EvC P n c env H0 ex env' H1) {F : Heap} (hF : Dom H1 F) (G : Heap) : ∀ k, EvC P n c env (over k G F H0) ex env' (over k G F H1)
  | 0 => by
    have e : ∀ X : Heap, Go.Ev.over 0 G F X = X := fun X => Heap.ext' (fun i => by simp [Go.Ev.over]) rfl
    rw [e, e]; exact h
  | k + 1 => by
    have ih := h.over hF G k
    have hd := h.dom
    cases h1 : F.blk k with
    | some y =>
      have e : ∀ X : Heap, Go.Ev.over (k + 1) G F X = Go.Ev.over k G F X := fun X => Heap.ext' (fun i => by
        simp only [Go.Ev.over]
        by_cases hi : i = k
        · subst hi; rw [h1]; simp
        · by_cases hi2 : i < k ∧ (F.blk i).isNone = true
          · rw [if_pos hi2, if_pos ⟨by omega, hi2.2⟩]
          · rw [if_neg hi2, if_neg (fun q => hi2 ⟨by omega, q.2⟩)]) rfl
      rw [e, e]; exact ih
    | none =>
      have h11 : H1.blk k = none := none_of_dom hF h1
      have h0 : H0.blk k = none := none_of_dom hd h11
      cases hx : G.blk k with
      | none =>
        have e : ∀ X : Heap, X.blk k = none → Go.Ev.over (k + 1) G F X = Go.Ev.over k G F X := fun X hX => Heap.ext' (fun i => by
          simp only [Go.Ev.over]
          by_cases hi : i = k
          · subst hi; rw [h1, hx, hX]; simp
          · by_cases hi2 : i < k ∧ (F.blk i).isNone = true
            · rw [if_pos hi2, if_pos ⟨by omega, hi2.2⟩]
            · rw [if_neg hi2, if_neg (fun q => hi2 ⟨by omega, q.2⟩)]) rfl
        rw [e H0 h0, e H1 h11]; exact ih
      | some x =>
        have e : ∀ X : Heap, Go.Ev.over (k + 1) G F X = (Go.Ev.over k G F X).set k x := fun X => Heap.ext' (fun i => by
          simp only [Go.Ev.over, Heap.set]
          by_cases hi : i = k
          · subst hi; rw [h1, hx]; simp
          · rw [if_neg hi]
            by_cases hi2 : i < k ∧ (F.blk i).isNone = true
            · rw [if_pos hi2, if_pos ⟨by omega, hi2.2⟩]
            · rw [if_neg hi2, if_neg (fun q => hi2 ⟨by omega, q.2⟩)]) rfl
        rw [e, e]
        exact ih.frame x (by simp only [Go.Ev.over]; rw [if_neg (by omega)]; exact h11)

/-- The heap of a run that has come so far: its next name, and what stands in these blocks. -/
structure At (N : Nat) (R : RL) (H : Heap) : Prop where
  next : H.next = N
  free : ∀ b, N ≤ b → H.blk b = none
  has : ∀ b x, (mkT R).get b = some x → H.blk b = some x

noncomputable def hasAll (K : KH) : RL → Bool := @List.rec (Nat × Blk) (fun _ => Bool) true (fun e _ ih => (@Bool.rec (fun _ => _) (false) (ih) (oElim false (fun x => eqBlk x e.2) (getP (pathOf e.1) K.blk))))
noncomputable def inR (R : RL) (b : Nat) : Bool := @List.rec (Nat × Blk) (fun _ => Bool) false (fun e _ ih => (@Bool.rec (fun _ => _) (ih) (true) (Nat.beq e.1 b))) R
noncomputable def logIn (R : RL) : List Nat → Bool := @List.rec Nat (fun _ => Bool) true (fun b _ ih => (@Bool.rec (fun _ => _) (false) (ih) (inR R b)))
theorem hasAll_ok {K : KH} : ∀ {R : RL}, hasAll K R = true → ∀ e ∈ R, K.blk.get e.1 = some e.2
  | [], _, e, he => by cases he
  | x :: R, h, e, he => by
    obtain ⟨h1, h2⟩ := and_split (a := oElim false (fun y => eqBlk y x.2) (getP (pathOf x.1) K.blk)) (b := hasAll K R) h
    rcases List.mem_cons.1 he with rfl | he
    · rw [getP_eq] at h1
      cases hg : K.blk.get e.1 with
      | none => rw [hg] at h1; cases h1
      | some y => rw [hg] at h1; rw [eqBlk_ok (show eqBlk y e.2 = true from h1)]
    · exact hasAll_ok h2 e he
theorem inR_ok {b : Nat} : ∀ {R : RL}, inR R b = true → b ∈ R.map (·.1)
  | [], h => by cases h
  | e :: R, h => by
    have h : @Bool.rec (fun _ => Bool) (inR R b) true (Nat.beq e.1 b) = true := h
    rw [beqN] at h
    by_cases he : e.1 = b
    · simp [he]
    · rw [decide_eq_false he] at h
      simp only [List.map_cons, List.mem_cons]
      exact .inr (inR_ok h)
theorem logIn_ok {R : RL} : ∀ {l : List Nat}, logIn R l = true → ∀ b ∈ l, b ∈ R.map (·.1)
  | [], _, b, hb => by cases hb
  | c :: l, h, b, hb => by
    obtain ⟨h1, h2⟩ := and_split (a := inR R c) (b := logIn R l) h
    rcases List.mem_cons.1 hb with rfl | hb
    · exact inR_ok h1
    · exact logIn_ok h2 b hb

/-- Pieces of code, one after the other. -/
noncomputable def kCs (P : Program) (cf : CF) (D : Tab) (n : Nat) : List Code → C4 := @List.rec Code (fun _ => C4) (fun E K => .ok .normal E K) (fun c _ ih E K => xE (exN ih) (kC4 P cf D n c E K))
noncomputable def chkCs (P : Program) (D : Tab) : List Code → Bool := @List.rec Code (fun _ => Bool) true (fun c _ ih => (@Bool.rec (fun _ => _) (false) (ih) (chkC P D c)))
noncomputable def flat : Code → List Code := @Code.rec (fun _ => List Code) [.skip] (fun id ops d => [.region id ops d]) (fun _ _ x y => app4 y x) (fun c x y _ _ => [.cond c x y]) (fun id c _ => [.block id c]) (fun c _ => [.loop c]) (fun f ps a b _ _ => [.rangeFunc f ps a b]) (fun id => [.exit id]) (fun c _ => [.scope c]) (fun l => [.label l]) (fun l => [.goto l]) [.ret] (fun w => [.refuse w])

/-- Pieces, each left normally but the last. -/
inductive EvP (P : Program) (n : Nat) : List Code → Env → Heap → Ex → Env → Heap → Prop
  | nil (env : Env) (H : Heap) : EvP P n [] env H .normal env H
  | cons (c : Code) (l : List Code) (env : Env) (H : Heap) (env1 : Env) (H1 : Heap) (ex : Ex) (env2 : Env) (H2 : Heap) (h : EvC P n c env H .normal env1 H1) (h' : EvP P n l env1 H1 ex env2 H2) : EvP P n (c :: l) env H ex env2 H2
  | out (c : Code) (l : List Code) (env : Env) (H : Heap) (env1 : Env) (H1 : Heap) (ex : Ex) (h : EvC P n c env H ex env1 H1) (hx : ex ≠ .normal) : EvP P n (c :: l) env H ex env1 H1
theorem EvP.app' {P : Program} {n : Nat} {l : List Code} {env : Env} {H : Heap} {ex0 : Ex} {env1 : Env} {H1 : Heap} (h : EvP P n l env H ex0 env1 H1) (h0 : ex0 = .normal) {m : List Code} {ex : Ex} {env2 : Env} {H2 : Heap} (hm : EvP P n m env1 H1 ex env2 H2) : EvP P n (l ++ m) env H ex env2 H2 := by
  induction h with
  | nil env H => exact hm
  | cons c l env H env1 H1 ex' env2' H2' h h' ih => exact .cons c _ env H env1 H1 _ _ _ h (ih h0 hm)
  | out c l env H env1 H1 ex' h hx => exact absurd h0 hx
theorem EvP.app {P : Program} {n : Nat} {l : List Code} {env : Env} {H : Heap} {env1 : Env} {H1 : Heap} (h : EvP P n l env H .normal env1 H1) {m : List Code} {ex : Ex} {env2 : Env} {H2 : Heap} (hm : EvP P n m env1 H1 ex env2 H2) : EvP P n (l ++ m) env H ex env2 H2 := h.app' rfl hm
theorem EvP.split {P : Program} {n : Nat} : ∀ {l m : List Code} {env : Env} {H : Heap} {ex : Ex} {env2 : Env} {H2 : Heap}, EvP P n (l ++ m) env H ex env2 H2 → (∃ env1 H1, EvP P n l env H .normal env1 H1 ∧ EvP P n m env1 H1 ex env2 H2) ∨ (EvP P n l env H ex env2 H2 ∧ ex ≠ .normal)
  | [], m, env, H, ex, env2, H2, h => .inl ⟨_, _, .nil _ _, h⟩
  | c :: l, m, env, H, ex, env2, H2, h => by
    cases h with
    | cons _ _ _ _ env1 H1 _ _ _ h h' =>
      rcases EvP.split h' with ⟨e, G, h1, h2⟩ | ⟨h1, h2⟩
      · exact .inl ⟨e, G, .cons _ _ _ _ _ _ _ _ _ h h1, h2⟩
      · exact .inr ⟨.cons _ _ _ _ _ _ _ _ _ h h1, h2⟩
    | out _ _ _ _ _ _ _ h hx => exact .inr ⟨.out _ _ _ _ _ _ _ h hx, hx⟩
theorem EvP.one {P : Program} {n : Nat} {c : Code} {env : Env} {H : Heap} {ex : Ex} {env1 : Env} {H1 : Heap} (h : EvP P n [c] env H ex env1 H1) : EvC P n c env H ex env1 H1 := by
  cases h with
  | cons _ _ _ _ _ _ _ _ _ h h' => cases h'; exact h
  | out _ _ _ _ _ _ _ h hx => exact h
theorem EvP.code {P : Program} {n : Nat} : ∀ {c : Code} {env : Env} {H : Heap} {ex : Ex} {env1 : Env} {H1 : Heap}, EvP P n (flat c) env H ex env1 H1 → EvC P n c env H ex env1 H1 := by
  intro c
  induction c with
  | seq x y ihx ihy =>
    intro env H ex env1 H1 h
    rw [show flat (.seq x y) = app4 (flat y) (flat x) from rfl, app4_eq] at h
    rcases h.split with ⟨e, G, h1, h2⟩ | ⟨h1, h2⟩
    · exact .seq _ _ _ _ _ _ _ _ _ _ (ihx h1) (ihy h2)
    · exact .seqOut _ _ _ _ _ _ _ _ (ihx h1) h2
  | _ => intro env H ex env1 H1 h; exact h.one
theorem EvP.dom {P : Program} {n : Nat} {l : List Code} {env : Env} {H0 : Heap} {ex : Ex} {env' : Env} {H1 : Heap} (h : EvP P n l env H0 ex env' H1) : Dom H0 H1 := by
  induction h with
  | nil env H => exact Dom.refl H
  | cons c l env H env1 H1 ex env2 H2 h h' ih => exact h.dom.trans ih
  | out c l env H env1 H1 ex h hx => exact h.dom
theorem EvP.over {P : Program} {n : Nat} {l : List Code} {env : Env} {H0 : Heap} {ex : Ex} {env' : Env} {H1 : Heap} (h : EvP P n l env H0 ex env' H1) {F : Heap} (hF : Dom H1 F) (G : Heap) (k : Nat) : EvP P n l env (over k G F H0) ex env' (over k G F H1) := by
  induction h with
  | nil env H => exact .nil _ _
  | cons c l env H env1 H1 ex env2 H2 h h' ih => exact .cons _ _ _ _ _ _ _ _ _ (h.over (h'.dom.trans hF) G k) (ih hF)
  | out c l env H env1 H1 ex h hx => exact .out _ _ _ _ _ _ _ (h.over hF G k) hx

theorem kCs_ok {P : Program} {cf : CF} (hcf : CfOk P (cfo cf)) {D : Tab} {n : Nat} (hn : n < 4000) : ∀ {l : List Code} {E : KE} {K : KH} {ex : Ex} {E1 : KE} {K1 : KH}, K.Ok → chkCs P D l = true → kCs P cf D n l E K = .ok ex E1 K1 → EvP P n l E.env K.heap ex E1.env K1.heap ∧ Sd K K1
  | [], E, K, ex, E1, K1, hK, _, h => by cases h; exact ⟨.nil _ _, Sd.refl hK⟩
  | c :: l, E, K, ex, E1, K1, hK, hc, h => by
    obtain ⟨hc1, hc2⟩ := and_split (a := chkC P D c) (b := chkCs P D l) hc
    have h : xE (exN (kCs P cf D n l)) (kC4 P cf D n c E K) = .ok ex E1 K1 := h
    obtain ⟨e, E', K', h1, h⟩ := xE_ok h
    obtain ⟨a1, a2⟩ := kC_ok hcf hn hK (kC4_ok hc1 h1)
    cases e with
    | normal =>
      obtain ⟨b1, b2⟩ := kCs_ok hcf hn a2.ok hc2 (show kCs P cf D n l E' K' = .ok ex E1 K1 from h)
      exact ⟨.cons _ _ _ _ _ _ _ _ _ a1 b1, a2.trans b2⟩
    | exit j => cases h; exact ⟨.out _ _ _ _ _ _ _ a1 (by simp), a2⟩
    | ret => cases h; exact ⟨.out _ _ _ _ _ _ _ a1 (by simp), a2⟩

/-- A piece that begins at a heap written down, over the whole heap. -/
theorem piece_at {P : Program} {D : FuncId → Tab} (hD : TabOk P D) {d n : Nat} (hn : n < 4000) {D0 : Tab} {l : List Code} (hc : chkCs P D0 l = true) {N : Nat} {R : RL} {E : KE} (hb : below N R = true) {ex : Ex} {E1 : KE} {K1 : KH}
    (h : kCs P (kF4 P D d) D0 n l E (mkK N R) = .ok ex E1 K1) (hlog : logIn R K1.log = true) {H : Heap} (hH : At N R H) :
    ∃ H1, EvP P n l E.env H ex E1.env H1 ∧ H1.next = K1.next ∧ (∀ b, K1.next ≤ b → H1.blk b = none) ∧ Up K1.heap H1 := by
  obtain ⟨h1, hS⟩ := kCs_ok (kF4_ok hD d) hn (mkK_ok hb) hc h
  have h2 := h1.over (Dom.refl _) H N
  have e : over N H K1.heap (mkK N R).heap = H := Heap.ext' (fun i => by
    simp only [over]
    by_cases hi : i < N ∧ (K1.heap.blk i).isNone = true
    · rw [if_pos hi]
    · rw [if_neg hi]
      show (mkT R).get i = H.blk i
      cases hg : (mkT R).get i with
      | some x => exact (hH.has i x hg).symm
      | none =>
        by_cases hN : N ≤ i
        · exact (hH.free i hN).symm
        · exfalso
          refine hi ⟨by omega, ?_⟩
          have hl : i ∉ K1.log := fun q => by
            obtain ⟨x, hx⟩ := mkT_some (logIn_ok hlog i q)
            rw [hg] at hx; cases hx
          have := hS.same i (show i < N by omega) hl
          show (K1.blk.get i).isNone = true
          rw [this]
          show ((mkT R).get i).isNone = true
          rw [hg]; rfl) hH.next.symm
  rw [e] at h2
  refine ⟨_, h2, rfl, fun b hb => ?_, fun b x hx => ?_⟩
  · simp only [over]
    rw [if_neg (fun q => absurd q.1 (Nat.not_lt.2 (Nat.le_trans hS.next hb)))]
    exact hS.ok.none b hb
  · simp only [over]
    rw [if_neg (fun q => by rw [hx] at q; cases q.2)]
    exact hx

noncomputable def isNorm (ex : Ex) : Bool := @Ex.rec (fun _ => Bool) true (fun _ => false) false ex
noncomputable def pieceOk (R : RL) (N1 : Nat) (R1 : RL) (E1 : List (Nat × AV)) (q : X4) : Bool :=
  @X4.rec (fun _ => Bool) false (fun ex E K => (@Bool.rec (fun _ => _) (false) ((@Bool.rec (fun _ => _) (false) ((@Bool.rec (fun _ => _) (false) ((@Bool.rec (fun _ => _) (false) (hasAll K R1) (logIn R K.log))) (Nat.beq K.next N1))) (eqTrA E (mkE E1)))) (isNorm ex))) q
theorem piece_ok {P : Program} {D : FuncId → Tab} (hD : TabOk P D) {d n : Nat} (hn : n < 4000) {D0 : Tab} {l : List Code} (hc : chkCs P D0 l = true) {N : Nat} {R : RL} {E : List (Nat × AV)} (hb : below N R = true) {N1 : Nat} {R1 : RL} {E1 : List (Nat × AV)}
    (h : pieceOk R N1 R1 E1 (kCs P (kF4 P D d) D0 n l (mkE E) (mkK N R)) = true) {H : Heap} (hH : At N R H) :
    ∃ H1, EvP P n l (mkE E).env H .normal (mkE E1).env H1 ∧ At N1 R1 H1 := by
  cases hq : kCs P (kF4 P D d) D0 n l (mkE E) (mkK N R) with
  | no => rw [hq] at h; cases h
  | ok ex E' K' =>
    rw [hq] at h
    obtain ⟨h1, h⟩ := and_split (a := isNorm ex) h
    obtain ⟨h2, h⟩ := and_split (a := eqTrA E' (mkE E1)) h
    obtain ⟨h3, h⟩ := and_split (a := Nat.beq K'.next N1) h
    obtain ⟨h4, h5⟩ := and_split (a := logIn R K'.log) h
    have hex : ex = .normal := by cases ex <;> first | rfl | cases h1
    subst hex
    obtain rfl := eqTrA_ok _ _ h2
    have h3 := nbeq h3
    obtain ⟨H1, a1, a2, a3, a4⟩ := piece_at hD hn hc hb hq h4 hH
    exact ⟨H1, a1, a2.trans h3, fun b hb => a3 b (by rw [h3]; exact hb), fun b x hx => a4 b x (hasAll_ok h5 _ (mkT_get hx))⟩

theorem results_up {P : Program} {env : Env} {H G : Heap} (hu : Up H G) : ∀ {rs : List ResultVar} {vs : List AV}, evResultsL P env H rs = some vs → evResultsL P env G rs = some vs
  | [], vs, h => h
  | r :: rs, vs, h => by
    simp only [evResultsL] at h ⊢
    cases h1 : evResult P env H r with
    | none => rw [h1] at h; cases h
    | some v =>
      cases h2 : evResultsL P env H rs with
      | none => rw [h1, h2] at h; cases h
      | some us =>
        rw [h1, h2] at h
        rw [results_up hu h2]
        have : evResult P env G r = some v := by
          cases r with
          | tmp t => exact h1
          | cell a t =>
            simp only [evResult] at h1 ⊢
            split at h1
            · obtain ⟨cs, hc, e⟩ := map_some_eq h1
              rename_i hag hs
              rw [load_up hc hu]
              exact congrArg some e
            · split at h1
              · rename_i w hw
                rw [load_up hw hu]
                exact h1
              · cases h1
            · cases h1
        rw [this]
        exact h
noncomputable def lastOk (P : Program) (rs : List ResultVar) (R : RL) (M : Nat) (q : X4) : Bool :=
  @X4.rec (fun _ => Bool) false (fun ex E K => (@Bool.rec (fun _ => _) (false) (okN4 M (@Ex.rec (fun _ => Q4) (kRes P rs E K) (fun _ => .no) (kRes P rs E K) ex)) (logIn R K.log))) q
theorem last_ok {P : Program} {D : FuncId → Tab} (hD : TabOk P D) {d n : Nat} (hn : n < 4000) {D0 : Tab} {l : List Code} (hc : chkCs P D0 l = true) {N : Nat} {R : RL} {E : List (Nat × AV)} (hb : below N R = true) {rs : List ResultVar} {M : Nat}
    (h : lastOk P rs R M (kCs P (kF4 P D d) D0 n l (mkE E) (mkK N R)) = true) {H : Heap} (hH : At N R H) :
    ∃ H1 ex env1, EvP P n l (mkE E).env H ex env1 H1 ∧ (ex = .normal ∨ ex = .ret) ∧ evResults P rs env1 H1 = some (.bool true) ∧ ∀ b, M ≤ b → H1.blk b = none := by
  cases hq : kCs P (kF4 P D d) D0 n l (mkE E) (mkK N R) with
  | no => rw [hq] at h; cases h
  | ok ex E' K' =>
    rw [hq] at h
    obtain ⟨h1, h⟩ := and_split (a := logIn R K'.log) h
    obtain ⟨H1, a1, a2, a3, a4⟩ := piece_at hD hn hc hb hq h1 hH
    obtain ⟨K2, h2, h3⟩ := okN4_ok h
    have key : kRes P rs E' K' = .ok (.bool true) K2 → ∃ H1 ex' env1, EvP P n l (mkE E).env H ex' env1 H1 ∧ ex' = ex ∧ evResults P rs env1 H1 = some (.bool true) ∧ ∀ b, M ≤ b → H1.blk b = none := fun hk => by
      obtain ⟨b1, rfl⟩ := kRes_ok hk
      refine ⟨H1, ex, _, a1, rfl, ?_, fun b hb => a3 b (Nat.le_trans h3 hb)⟩
      unfold evResults at b1 ⊢
      cases hr : evResultsL P E'.env K2.heap rs with
      | none => rw [hr] at b1; cases b1
      | some vs => rw [hr] at b1; rw [results_up a4 hr]; exact b1
    cases ex with
    | exit j => exact noOk h2
    | normal => obtain ⟨H1, ex', env1, c1, c2, c3⟩ := key h2; exact ⟨H1, ex', env1, c1, .inl c2, c3⟩
    | ret => obtain ⟨H1, ex', env1, c1, c2, c3⟩ := key h2; exact ⟨H1, ex', env1, c1, .inr c2, c3⟩

theorem chkCs_mem {P : Program} {D : Tab} : ∀ {l : List Code}, chkCs P D l = true → ∀ c ∈ l, chkC P D c = true
  | [], _, c, hc => by cases hc
  | x :: l, h, c, hc => by
    obtain ⟨h1, h2⟩ := and_split (a := chkC P D x) (b := chkCs P D l) h
    rcases List.mem_cons.1 hc with rfl | hc
    · exact h1
    · exact chkCs_mem h2 c hc
theorem chkCs_of {P : Program} {D : Tab} : ∀ {l : List Code}, (∀ c ∈ l, chkC P D c = true) → chkCs P D l = true
  | [], _ => rfl
  | x :: l, h => by
    show @Bool.rec (fun _ => Bool) false (chkCs P D l) (chkC P D x) = true
    rw [h x List.mem_cons_self]
    exact chkCs_of fun c hc => h c (List.mem_cons_of_mem _ hc)
theorem chk_drop {P : Program} {D : Tab} {l : List Code} (h : chkCs P D l = true) (a : Nat) : chkCs P D (drop4 l a) = true := by
  rw [drop4_eq]; exact chkCs_of fun c hc => chkCs_mem h c (List.mem_of_mem_drop hc)
theorem chk_take {P : Program} {D : Tab} {l : List Code} (h : chkCs P D l = true) (a k : Nat) : chkCs P D (take4 (drop4 l a) k) = true := by
  rw [take4_eq]; exact chkCs_of fun c hc => chkCs_mem (chk_drop h a) c (List.mem_of_mem_take hc)
theorem EvP.join {P : Program} {n : Nat} {l : List Code} {a k : Nat} {env : Env} {H : Heap} {env1 : Env} {H1 : Heap} (h : EvP P n (take4 (drop4 l a) k) env H .normal env1 H1) {ex : Ex} {env2 : Env} {H2 : Heap} (hm : EvP P n (drop4 l (a + k)) env1 H1 ex env2 H2) : EvP P n (drop4 l a) env H ex env2 H2 := by
  have := h.app hm
  rw [take4_eq, drop4_eq, drop4_eq, ← List.drop_drop, List.take_append_drop] at this
  rw [drop4_eq]; exact this
theorem at_start : At 0 [] ⟨fun _ => none, 0⟩ := ⟨rfl, fun _ _ => rfl, fun b x h => by cases h⟩
theorem evf_of {P : Program} {f : FuncId} {fn : Func} {c : Code} (hf : P.funcs[f]? = some fn) (hn : (fn.name == "runtime.NumGoroutine") = false) (hb : fn.body = some c) {l : List Code} (hl : flat c = l) {ex : Ex} {env1 : Env} {H1 : Heap}
    (h : EvP P fn.ntmps l (mkE []).env ⟨fun _ => none, 0⟩ ex env1 H1) (hx : ex = .normal ∨ ex = .ret) {r : AV} (hr : evResults P fn.results.toList env1 H1 = some r) : EvF P f [] ⟨fun _ => none, 0⟩ r H1 := by
  subst hl
  have he : (mkE []).env = Env.ofArgs [] := by funext t; rfl
  rw [he] at h
  exact .mk f fn c [] _ ex env1 H1 r hf hn hb (Nat.zero_le _) h.code hx hr
end Go.Ev
