import Derived.Test.YtjjmdbhgmecpjaaGreatDoorEvT
set_option linter.unusedVariables false
set_option linter.unusedSimpArgs false
namespace Go.Ev

/-! ### What an operation asks of the heap -/

/-- 0: nothing; 1: it reads; 2: it makes a block; 3: all else. -/
def opKind (P : Program) : Op → Nat
  | .move _ | .assign _ | .pick .. | .unOp .. | .makeInterface .. | .makeFunc .. | .fieldAddr .. | .field .. | .index .. | .extract .. | .nilCheck _ | .build .. | .binOp .. => 0
  | .load .. | .indexAddr .. | .slice .. | .lookup .. => 1
  | .convert s d _ => if isTextT P s d = true then 2 else 1
  | .alloc _ | .box .. | .buildSlice .. | .makeSlice .. => 2
  | .call { callee := .builtin .len, .. } => 1
  | .call { callee := .builtin .max, .. } => 0
  | .call { callee := .builtin .min, .. } => 0
  | _ => 3

section
variable {P : Program} {ρ : Operand → AV} {o : Oper} {H : Heap} {r : AV} {H' : Heap}

theorem evBuiltin_pure {b : Builtin} {ts : Array TypeId} {as : List AV} (hb : b = .max ∨ b = .min) (h : evBuiltin P H b ts as = some (r, H')) : H' = H ∧ ∀ G, evBuiltin P G b ts as = some (r, G) := by
  rcases hb with rfl | rfl
  all_goals
    match as, h with
    | [.int k x, .int k' y], h =>
      simp only [evBuiltin] at h ⊢
      split at h
      · rename_i hk; cases h; exact ⟨rfl, fun G => by simp [hk]⟩
      · cases h

theorem kind0 (hk : opKind P o.op = 0) (h : evOp P ρ o H = some (r, H')) : H' = H ∧ ∀ G, evOp P ρ o G = some (r, G) := by
  obtain ⟨dst, op, type, pos, after, guard⟩ := o
  cases op <;> first | (simp [opKind] at hk; done) | (simp only [opKind] at hk; split at hk <;> cases hk; done) | skip
  case call c =>
    obtain ⟨callee, args, ts⟩ := c
    cases callee with
    | value f => simp [opKind] at hk
    | invoke x m => simp [opKind] at hk
    | builtin b =>
      simp only [evOp] at h ⊢
      refine evBuiltin_pure ?_ h
      cases b <;> simp [opKind] at hk ⊢
  case pick c a b =>
    simp only [evOp] at h ⊢
    split at h
    · rename_i t ht; cases h; exact ⟨rfl, fun G => by simp [ht]⟩
    · cases h
  case makeInterface t x =>
    simp only [evOp] at h ⊢
    split at h
    · rename_i d hd
      split at h
      · cases h
      · rename_i hi; cases h; exact ⟨rfl, fun G => by simp [hd, hi]⟩
    · cases h
  case fieldAddr s x f =>
    simp only [evOp] at h ⊢
    split at h
    · rename_i fd hfd
      split at h
      · rename_i n b i o g hn hx
        split at h
        · cases h
        · rename_i h0; cases h; exact ⟨rfl, fun G => by simp [hfd, hn, hx, h0]⟩
      · rename_i n cs o hn hx
        split at h
        · cases h
        · rename_i h0; cases h; exact ⟨rfl, fun G => by simp [hfd, hn, hx, h0]⟩
      · cases h
    · cases h
  case field s x f =>
    simp only [evOp] at h ⊢
    split at h
    · rename_i fd cs hfd hx
      obtain ⟨a, ha, e⟩ := map_some_eq h
      cases e
      exact ⟨rfl, fun G => by simp [hfd, hx, ha]⟩
    · cases h
  case extract t i =>
    simp only [evOp] at h ⊢
    split at h
    · rename_i vs hx
      obtain ⟨a, ha, e⟩ := map_some_eq h
      cases e
      exact ⟨rfl, fun G => by simp [hx, ha]⟩
    · cases h
  case nilCheck x =>
    simp only [evOp] at h ⊢
    split at h
    · rename_i hx; cases h; exact ⟨rfl, fun G => by simp [hx]⟩
    · rename_i hx; cases h; exact ⟨rfl, fun G => by simp [hx]⟩
    · cases h
  all_goals
    simp only [evOp] at h ⊢
    first
      | (cases h; exact ⟨rfl, fun G => rfl⟩)
      | (obtain ⟨a, ha, e⟩ := map_some_eq h; cases e; exact ⟨rfl, fun G => by simp [ha]⟩)

theorem load_up {a : AV} {n : Nat} {cs : List AV} (h : H.load a n = some cs) {G : Heap} (hG : ∀ b x, H.blk b = some x → G.blk b = some x) : G.load a n = some cs := by
  unfold Heap.load at h ⊢
  split at h
  · exact h
  · split at h
    · rename_i hb; rw [hG _ _ hb]; exact h
    · cases h
  · cases h

theorem eszOf_up {b g s : Nat} (h : H.eszOf b g = some s) {G : Heap} (hG : ∀ b x, H.blk b = some x → G.blk b = some x) : G.eszOf b g = some s := by
  unfold Heap.eszOf at h ⊢
  split at h
  · rename_i hb; rw [hG _ _ hb]; exact h
  · cases h

theorem evIndexAddr_up {t : TypeId} {a i r : AV} (h : evIndexAddr P H t a i = some r) {G : Heap} (hG : ∀ b x, H.blk b = some x → G.blk b = some x) : evIndexAddr P G t a i = some r := by
  unfold evIndexAddr at h ⊢
  split at h
  · split at h
    · rename_i e b off len cap ex g ht
      split at h
      · rename_i hb
        obtain ⟨hb1, hb2, hb3⟩ := hb
        obtain ⟨s, hs, e'⟩ := map_some_eq h
        have := eszOf_up (hb3.symm.trans hs) hG
        rw [if_pos ⟨hb1, hb2, by rw [hs, this]⟩]
        exact h
      · cases h
    · rename_i e sz es ht
      exact h
    · cases h
  · cases h

theorem evSlice_up {t : TypeId} {a r : AV} {l hh m : Option Int} (h : evSlice P H t a l hh m = some r) {G : Heap} (hG : ∀ b x, H.blk b = some x → G.blk b = some x) : evSlice P G t a l hh m = some r := by
  have key : ∀ e b g, (decide ((szOf P e).isSome = true ∧ szOf P e = H.eszOf b g)) = true → (decide ((szOf P e).isSome = true ∧ szOf P e = G.eszOf b g)) = true := fun e b g hd => by
    simp only [decide_eq_true_eq] at hd ⊢
    obtain ⟨s, hs⟩ := Option.isSome_iff_exists.1 hd.1
    exact ⟨hd.1, by rw [hs, eszOf_up (hd.2.symm.trans hs) hG]⟩
  simp only [evSlice] at h ⊢
  split at h
  all_goals (try exact h)
  · rename_i e b off len cap ex g ht
    split at h
    · rename_i hb
      simp only [Bool.and_eq_true] at hb
      rw [if_pos (by simp only [Bool.and_eq_true]; exact ⟨hb.1, key _ _ _ hb.2⟩)]
      exact h
    · cases h
  · rename_i e b off len cap ex g m ht
    split at h
    · split at h
      · rename_i hb
        simp only [Bool.and_eq_true] at hb
        rw [if_pos (by simp only [Bool.and_eq_true]; exact ⟨hb.1, key _ _ _ hb.2⟩)]
        exact h
      · cases h
    · cases h

theorem evLookup_up {t : TypeId} {m k r : AV} {ok : Bool} (h : evLookup P H t m k ok = some r) {G : Heap} (hG : ∀ b x, H.blk b = some x → G.blk b = some x) : evLookup P G t m k ok = some r := by
  unfold evLookup at h ⊢
  split at h
  · split at h
    · rename_i hs
      rw [if_pos hs]
      split at h
      · exact h
      · split at h
        · rename_i hb; rw [hG _ _ hb]; exact h
        · cases h
      · cases h
    · cases h
  · cases h

theorem evLookupW_up {t : TypeId} {m k r : AV} {ok : Bool} (h : evLookupW P H t m k ok = some r) {G : Heap} (hG : ∀ b x, H.blk b = some x → G.blk b = some x) : evLookupW P G t m k ok = some r := by
  unfold evLookupW at h ⊢
  split at h
  · split at h
    · rename_i hs
      rw [if_pos hs]
      split at h
      · exact h
      · split at h
        · rename_i hb; rw [hG _ _ hb]; exact h
        · cases h
      · cases h
    · cases h
  · cases h
theorem evLook_up {t : TypeId} {m k r : AV} {ok : Bool} (h : evLook P H t m k ok = some r) {G : Heap} (hG : ∀ b x, H.blk b = some x → G.blk b = some x) : evLook P G t m k ok = some r := by
  unfold evLook at h ⊢
  split at h
  · exact evLookupW_up h hG
  · exact evLookupW_up h hG
  · exact evLookup_up h hG

theorem elems_up' {esz n : Nat} {a : AV} {new : List (List AV)} (h : H.elems esz n a = some new) {G : Heap} (hG : ∀ b x, H.blk b = some x → G.blk b = some x) : G.elems esz n a = some new := by
  unfold Heap.elems at h ⊢
  split at h <;> first | (cases h; done) | exact h | skip
  · split at h
    · rename_i hb; rw [hG _ _ hb]; exact h
    · cases h

theorem evBytes_up {s d : TypeId} {x r : AV} (h : evBytes P H s d x = some r) {G : Heap} (hG : ∀ b x, H.blk b = some x → G.blk b = some x) : evBytes P G s d x = some r := by
  unfold evBytes at h ⊢
  split at h
  · split at h
    · rename_i b off len cap ex g he
      cases hel : H.elems 1 len (.slice b off len cap ex g) with
      | none => simp [hel] at h
      | some cells => rw [elems_up' hel hG]; rw [hel] at h; exact h
    · cases h
  · cases h

theorem kind1 (hk : opKind P o.op = 1) (h : evOp P ρ o H = some (r, H')) : H' = H ∧ ∀ G : Heap, (∀ b x, H.blk b = some x → G.blk b = some x) → evOp P ρ o G = some (r, G) := by
  obtain ⟨dst, op, type, pos, after, guard⟩ := o
  cases op <;> simp only [evOp] at h ⊢ <;> first | (simp [opKind] at hk; done) | skip
  case load t a =>
    split at h
    · rename_i n h1 h2
      obtain ⟨cs, hc, e⟩ := map_some_eq h
      cases e
      exact ⟨rfl, fun G hG => by simp [h1, h2, load_up hc hG]⟩
    · rename_i h1
      split at h
      · rename_i v hv
        cases h
        exact ⟨rfl, fun G hG => by simp [h1, load_up hv hG]⟩
      · cases h
    · cases h
  case indexAddr t x i =>
    obtain ⟨a, ha, e⟩ := map_some_eq h
    cases e
    exact ⟨rfl, fun G hG => by simp [evIndexAddr_up ha hG]⟩
  case slice t x lo hi mx =>
    split at h
    · rename_i l hh m h1 h2 h3
      obtain ⟨a, ha, e⟩ := map_some_eq h
      cases e
      exact ⟨rfl, fun G hG => by simp [h1, h2, h3, evSlice_up ha hG]⟩
    · cases h
  case convert s d x =>
    simp only [opKind] at hk
    by_cases ht : isTextT P s d = true
    · rw [if_pos ht] at hk; cases hk
    · rw [if_neg ht] at h
      split at h
      · rename_i a ha
        cases h
        exact ⟨rfl, fun G hG => by simp [ht, ha]⟩
      · rename_i hn
        obtain ⟨a, ha, e⟩ := map_some_eq h
        cases e
        exact ⟨rfl, fun G hG => by simp [ht, hn, evBytes_up ha hG]⟩
  case lookup t x k ok =>
    obtain ⟨a, ha, e⟩ := map_some_eq h
    cases e
    exact ⟨rfl, fun G hG => by simp [evLook_up ha hG]⟩
  case call c =>
    obtain ⟨callee, args, ts⟩ := c
    cases callee with
    | value f => simp [opKind] at hk
    | invoke x m => simp [opKind] at hk
    | builtin b =>
      cases b <;> first | (simp [opKind] at hk; done) | skip
      simp only at h ⊢
      generalize args.toList.map ρ = as at *
      match as, h with
      | [x], h =>
        simp only [evBuiltin] at h ⊢
        split at h <;> first | (cases h; done) | (cases h; exact ⟨rfl, fun G hG => by simp_all⟩) | skip
        rename_i b hd
        split at h
        · rename_i es cl hb
          cases h
          refine ⟨rfl, fun G hG => ?_⟩
          have := hG _ _ hb
          simp [hd, this]
        · cases h
      | [], h => simp [evBuiltin] at h
      | _ :: _ :: _, h => simp [evBuiltin] at h

theorem kind2 (hk : opKind P o.op = 2) (h : evOp P ρ o H = some (r, H')) : ∃ x, H' = H.push x ∧ ∀ G : Heap, G.next = H.next → evOp P ρ o G = some (r, G.push x) := by
  obtain ⟨dst, op, type, pos, after, guard⟩ := o
  cases op <;> simp only [evOp] at h ⊢ <;> first | (simp [opKind] at hk; done) | skip
  case alloc t =>
    split at h
    · rename_i z hz
      split at h
      · cases h
      · rename_i hu
        cases h
        exact ⟨_, rfl, fun G hG => by simp [hz, hu, hG]⟩
    · cases h
  case box t x =>
    split at h
    · cases h
    · rename_i hu
      cases h
      exact ⟨_, rfl, fun G hG => by simp [hu, hG]⟩
  case buildSlice t len parts =>
    unfold evBuildSlice at h ⊢
    cases he : elemOfSlice P t with
    | none => simp [he] at h
    | some e =>
      simp only [he, Option.bind_some] at h ⊢
      split at h
      · rename_i s z hs hz
        split at h
        · rename_i hc
          cases hf : fillE s (List.replicate len z.cells) (parts.toList.map fun p => (p.1, ρ p.2)) with
          | none => simp [hf] at h
          | some els =>
            simp only [hf, Option.map_some, Option.some.injEq, Prod.mk.injEq] at h
            obtain ⟨rfl, rfl⟩ := h
            exact ⟨_, rfl, fun G hG => by simp [hs, hz, hc, hf, hG]⟩
        · cases h
      · cases h
  case convert s d x =>
    simp only [opKind] at hk
    by_cases ht : isTextT P s d = true
    · rw [if_pos ht] at h
      unfold evText at h
      split at h
      · rename_i e l hd hx
        split at h
        · rename_i he
          cases h
          exact ⟨_, rfl, fun G hG => by simp [ht, evText, hd, hx, he, hG]⟩
        · cases h
      · cases h
    · rw [if_neg ht] at hk; cases hk
  case makeSlice t l c =>
    unfold evMakeSlice at h ⊢
    cases he : elemOfSlice P t with
    | none => simp [he] at h
    | some e =>
      simp only [he, Option.bind_some] at h ⊢
      split at h
      · rename_i it z k l' k' c' hi hz hl hc
        split at h
        · rename_i hcc
          cases h
          exact ⟨_, rfl, fun G hG => by rw [if_pos hcc, hG]⟩
        · cases h
      · cases h
  case call c =>
    obtain ⟨callee, args, ts⟩ := c
    cases callee with
    | value f => simp [opKind] at hk
    | invoke x m => simp [opKind] at hk
    | builtin b => cases b <;> simp [opKind] at hk

/-! ### What an operation does to the heap, in any heap that holds more -/

def Up (H G : Heap) : Prop := ∀ b x, H.blk b = some x → G.blk b = some x

def Local (F : Heap → Option (AV × Heap)) (H : Heap) (r : AV) (H' : Heap) : Prop :=
  (H' = H ∧ ∀ G, Up H G → F G = some (r, G)) ∨
  (∃ x, H' = H.push x ∧ ∀ G : Heap, Up H G → G.next = H.next → F G = some (r, G.push x)) ∨
  (∃ b x y, H.blk b = some y ∧ H' = H.set b x ∧ ∀ G : Heap, Up H G → F G = some (r, G.set b x))

theorem store_local {a : AV} {vs : List AV} (h : H.store a vs = some H') : ∃ b x y, H.blk b = some y ∧ H' = H.set b x ∧ ∀ G : Heap, Up H G → G.store a vs = some (G.set b x) := by
  unfold Heap.store at h
  split at h
  · rename_i b i o g
    split at h
    · rename_i ty esz els gen wgen hb
      split at h
      · rename_i hc
        split at h
        · rename_i cs hi
          cases h
          exact ⟨b, _, _, hb, rfl, fun G hG => by simp only [Heap.store, hG _ _ hb, hi]; rw [if_pos hc]⟩
        · cases h
      · cases h
    · cases h
  · cases h

theorem elems_up {esz n : Nat} {a : AV} {new : List (List AV)} (h : H.elems esz n a = some new) {G : Heap} (hG : Up H G) : G.elems esz n a = some new := by
  unfold Heap.elems at h ⊢
  split at h <;> first | (cases h; done) | exact h | skip
  · split at h
    · rename_i hb; rw [hG _ _ hb]; exact h
    · cases h

theorem append_local {e : TypeId} {esz bytes : Nat} {s : AV} {new : List (List AV)} (h : H.append e esz bytes s new = some (r, H')) : Local (fun G => G.append e esz bytes s new) H r H' := by
  unfold Heap.append at h
  split at h
  case isFalse => cases h
  rename_i hcell
  split at h
  · split at h
    · rename_i h0; cases h; exact .inl ⟨rfl, fun G hG => by simp only [Heap.append]; rw [if_pos hcell, if_pos h0]⟩
    · rename_i h0
      split at h
      · rename_i hc; cases h; exact .inr (.inl ⟨_, rfl, fun G hG hn => by simp only [Heap.append]; rw [if_pos hcell, if_neg h0, if_pos hc, hn]⟩)
      · cases h
  · split at h
    · rename_i h0; cases h; exact .inl ⟨rfl, fun G hG => by simp only [Heap.append]; rw [if_pos hcell, if_pos h0]⟩
    · rename_i h0
      split at h
      · rename_i hc; cases h; exact .inr (.inl ⟨_, rfl, fun G hG hn => by simp only [Heap.append]; rw [if_pos hcell, if_neg h0, if_pos hc, hn]⟩)
      · cases h
  · split at h
    · rename_i h0; cases h; exact .inl ⟨rfl, fun G hG => by simp only [Heap.append]; rw [if_pos hcell, if_pos h0]⟩
    · cases h
  · split at h
    · rename_i h0; cases h; exact .inl ⟨rfl, fun G hG => by simp only [Heap.append]; rw [if_pos hcell, if_pos h0]⟩
    · rename_i h0
      split at h
      · rename_i ty sz els gen wgen hb
        split at h
        · rename_i hc
          split at h
          · rename_i hfit
            split at h
            · rename_i hg
              cases h
              exact .inr (.inr ⟨_, _, _, hb, rfl, fun G hG => by simp only [Heap.append, hG _ _ hb]; rw [if_pos hcell, if_neg h0, if_pos hc, if_pos hfit, if_pos hg]⟩)
            · cases h
          · rename_i hfit
            split at h
            · rename_i hex
              cases h
              exact .inr (.inl ⟨_, rfl, fun G hG hn => by simp only [Heap.append, hG _ _ hb]; rw [if_pos hcell, if_neg h0, if_pos hc, if_neg hfit, if_pos hex, hn]⟩)
            · rename_i hex
              split at h
              · rename_i hg
                cases h
                exact .inr (.inr ⟨_, _, _, hb, rfl, fun G hG => by simp only [Heap.append, hG _ _ hb]; rw [if_pos hcell, if_neg h0, if_pos hc, if_neg hfit, if_neg hex, if_pos hg]⟩)
              · cases h
        · cases h
      · cases h
  · cases h

theorem mapUpdate_local {t : TypeId} {m k x : AV} (h : evMapUpdate P H t m k x = some H') : ∃ b x' y, H.blk b = some y ∧ H' = H.set b x' ∧ ∀ G : Heap, Up H G → evMapUpdate P G t m k x = some (G.set b x') := by
  unfold evMapUpdate at h
  split at h
  · rename_i kt et l b ht
    split at h
    · rename_i hs
      split at h
      · rename_i es cl hb
        split at h
        · rename_i i v n hf
          cases h
          exact ⟨b, _, _, hb, rfl, fun G hG => by simp only [evMapUpdate, ht, hG _ _ hb, hf]; rw [if_pos hs]⟩
        · rename_i hf
          cases h
          exact ⟨b, _, _, hb, rfl, fun G hG => by simp only [evMapUpdate, ht, hG _ _ hb, hf]; rw [if_pos hs]⟩
        · cases h
      · cases h
    · cases h
  · cases h

theorem mapUpdateW_local {t : TypeId} {m k x : AV} (h : evMapUpdateW P H t m k x = some H') : ∃ b x' y, H.blk b = some y ∧ H' = H.set b x' ∧ ∀ G : Heap, Up H G → evMapUpdateW P G t m k x = some (G.set b x') := by
  unfold evMapUpdateW at h
  split at h
  · rename_i kt et b ht
    split at h
    · rename_i hs
      split at h
      · rename_i es cl hb
        split at h
        · rename_i hall
          split at h
          · rename_i i v n hf
            cases h
            exact ⟨b, _, _, hb, rfl, fun G hG => by simp only [evMapUpdateW, ht, hG _ _ hb, hf]; rw [if_pos hs, if_pos hall]⟩
          · rename_i hf
            cases h
            exact ⟨b, _, _, hb, rfl, fun G hG => by simp only [evMapUpdateW, ht, hG _ _ hb, hf]; rw [if_pos hs, if_pos hall]⟩
        · cases h
      · cases h
    · cases h
  · cases h
theorem mapUpd_local {t : TypeId} {m k x : AV} (h : evMapUpd P H t m k x = some H') : ∃ b x' y, H.blk b = some y ∧ H' = H.set b x' ∧ ∀ G : Heap, Up H G → evMapUpd P G t m k x = some (G.set b x') := by
  unfold evMapUpd at h
  split at h
  · exact mapUpdateW_local h
  · exact mapUpdateW_local h
  · rename_i hne hni
    obtain ⟨b, x', y, q1, q2, q3⟩ := mapUpdate_local h
    exact ⟨b, x', y, q1, q2, fun G hG => by
      rw [← q3 G hG]
      unfold evMapUpd
      split
      · rename_i cs; exact absurd rfl (hne cs)
      · rename_i k n; exact absurd rfl (hni k n)
      · rfl⟩

theorem delete_local {ts : Array TypeId} {m k r : AV} (h : evDelete P H ts m k = some (r, H')) : Local (fun G => evDelete P G ts m k) H r H' := by
  unfold evDelete at h
  split at h
  · rename_i kt et l b ht
    split at h
    · rename_i hs
      split at h
      · rename_i es cl hb
        split at h
        · rename_i i v n hf
          cases h
          exact .inr (.inr ⟨b, _, _, hb, rfl, fun G hG => by simp only [evDelete, ht, hG _ _ hb, hf]; rw [if_pos hs]⟩)
        · rename_i hf
          cases h
          exact .inr (.inr ⟨b, _, _, hb, rfl, fun G hG => by simp only [evDelete, ht, hG _ _ hb, hf]; rw [if_pos hs]⟩)
        · cases h
      · cases h
    · cases h
  · cases h

theorem clear_local {ts : Array TypeId} {x r : AV} (h : evClear P H ts x = some (r, H')) : Local (fun G => evClear P G ts x) H r H' := by
  unfold evClear at h
  split at h
  · rename_i b ht
    split at h
    · rename_i es cl hb
      cases h
      exact .inr (.inr ⟨b, _, _, hb, rfl, fun G hG => by simp only [evClear, ht, hG _ _ hb]⟩)
    · cases h
  · rename_i ht
    cases h
    exact .inl ⟨rfl, fun G hG => by simp only [evClear, ht]⟩
  · rename_i ht
    cases h
    exact .inl ⟨rfl, fun G hG => by simp only [evClear, ht]⟩
  · rename_i e b off len cap ex g ht
    split at h
    · rename_i h0
      cases h
      exact .inl ⟨rfl, fun G hG => by simp only [evClear, ht]; rw [if_pos h0]⟩
    · rename_i h0
      split at h
      · rename_i s z ty sz els gen wgen hs hz hb
        split at h
        · rename_i hc
          cases h
          exact .inr (.inr ⟨b, _, _, hb, rfl, fun G hG => by simp only [evClear, ht, hs, hz, hG _ _ hb]; rw [if_neg h0, if_pos hc]⟩)
        · cases h
      · cases h
  · cases h

theorem op_local (h : evOp P ρ o H = some (r, H')) : Local (fun G => evOp P ρ o G) H r H' := by
  by_cases h0 : opKind P o.op = 0
  · obtain ⟨e, hG⟩ := kind0 h0 h; exact .inl ⟨e, fun G _ => hG G⟩
  by_cases h1 : opKind P o.op = 1
  · obtain ⟨e, hG⟩ := kind1 h1 h; exact .inl ⟨e, hG⟩
  by_cases h2 : opKind P o.op = 2
  · obtain ⟨x, e, hG⟩ := kind2 h2 h; exact .inr (.inl ⟨x, e, fun G _ hn => hG G hn⟩)
  obtain ⟨dst, op, type, pos, after, guard⟩ := o
  cases op <;> first | (simp [opKind] at h0; done) | (simp [opKind] at h1; done) | (simp [opKind] at h2; done) | skip
  case store t a x =>
    simp only [evOp] at h ⊢
    split at h
    · rename_i hc
      obtain ⟨H2, hst, e⟩ := map_some_eq h
      cases e
      obtain ⟨b, x', y, q1, q2, q3⟩ := store_local hst
      exact .inr (.inr ⟨b, x', y, q1, q2, fun G hG => by dsimp only; rw [if_pos hc, q3 G hG]; rfl⟩)
    · cases h
  case call c =>
    obtain ⟨callee, args, ts⟩ := c
    cases callee with
    | value f => simp [evOp] at h
    | invoke x m => simp [evOp] at h
    | builtin b =>
      simp only [evOp] at h ⊢
      generalize args.toList.map ρ = as at *
      cases b <;> first | (simp [opKind] at h0; done) | (simp [opKind] at h1; done) | skip
      case append =>
        match as, h with
        | [s, x], h =>
          simp only [evBuiltin] at h
          split at h
          · rename_i t u ht
            split at h
            · rename_i e d he hd
              split at h
              · cases h
              · rename_i i hi hnd
                split at h
                · rename_i z n hz hn
                  split at h
                  · rename_i hzs
                    cases hel : H.elems i.size n x with
                    | none => simp [hel] at h
                    | some new =>
                      simp only [hel, Option.bind_some] at h
                      have key : ∀ G, Up H G → evBuiltin P G .append ts [s, x] = G.append e i.size i.bytes s new := fun G hG => by
                        simp only [evBuiltin, ht, he, hd, hi, hz, hn]
                        rw [if_pos hzs, elems_up hel hG]
                        rfl
                      rcases append_local h with ⟨q1, q2⟩ | ⟨x', q1, q2⟩ | ⟨b, x', y, q0, q1, q2⟩
                      · exact .inl ⟨q1, fun G hG => (key G hG).trans (q2 G hG)⟩
                      · exact .inr (.inl ⟨x', q1, fun G hG hn => (key G hG).trans (q2 G hG hn)⟩)
                      · exact .inr (.inr ⟨b, x', y, q0, q1, fun G hG => (key G hG).trans (q2 G hG)⟩)
                  · cases h
                · cases h
              · cases h
            · cases h
          · cases h
        | [], h => simp [evBuiltin] at h
        | [_], h => simp [evBuiltin] at h
        | _ :: _ :: _ :: _, h => simp [evBuiltin] at h
      case delete =>
        match as, h with
        | [m, k], h =>
          have h' : evDelete P H ts m k = some (r, H') := h
          exact delete_local h'
        | [], h => simp [evBuiltin] at h
        | [_], h => simp [evBuiltin] at h
        | _ :: _ :: _ :: _, h => simp [evBuiltin] at h
      case clear =>
        match as, h with
        | [x], h =>
          have h' : evClear P H ts x = some (r, H') := h
          exact clear_local h'
        | [], h => simp [evBuiltin] at h
        | _ :: _ :: _, h => simp [evBuiltin] at h
      all_goals (simp [evBuiltin] at h)
  case makeMap t r' =>
    cases r' with
    | some x => simp [evOp] at h
    | none =>
      simp only [evOp] at h ⊢
      cases h
      exact .inr (.inl ⟨_, rfl, fun G hG hn => by dsimp only; rw [hn]⟩)
  case convert s d x =>
    exfalso
    by_cases ht : isTextT P s d = true
    · exact h2 (by simp [opKind, ht])
    · exact h1 (by simp [opKind, ht])
  case mapUpdate t m k x =>
    simp only [evOp] at h ⊢
    obtain ⟨H2, ha, e⟩ := map_some_eq h
    cases e
    obtain ⟨b, x', y, q1, q2, q3⟩ := mapUpd_local ha
    exact .inr (.inr ⟨b, x', y, q1, q2, fun G hG => by dsimp only; rw [q3 G hG]; rfl⟩)
  all_goals (simp [evOp] at h)

end
end Go.Ev
