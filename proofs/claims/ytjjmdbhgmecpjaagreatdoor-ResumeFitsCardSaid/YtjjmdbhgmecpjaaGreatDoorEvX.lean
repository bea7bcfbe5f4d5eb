import Derived.Test.YtjjmdbhgmecpjaaGreatDoorEvW
set_option linter.unusedVariables false
set_option linter.unusedSimpArgs false
namespace Go.Ev
section
variable {P : Program}

def Dom (H G : Heap) : Prop := ∀ b, H.blk b ≠ none → G.blk b ≠ none
theorem Dom.refl (H : Heap) : Dom H H := fun _ h => h
theorem Dom.trans {H G K : Heap} (h : Dom H G) (k : Dom G K) : Dom H K := fun b hb => k b (h b hb)

theorem local_dom {F : Heap → Option (AV × Heap)} {H : Heap} {r : AV} {H' : Heap} (h : Local F H r H') : Dom H H' := by
  rcases h with ⟨rfl, _⟩ | ⟨x, rfl, _⟩ | ⟨b, x, y, _, rfl, _⟩
  · exact Dom.refl _
  · intro b hb; simp only [Heap.push]; split
    · simp
    · exact hb
  · intro c hc; exact Heap.set_ne hc

mutual
theorem EvF.dom : ∀ {f : FuncId} {args : List AV} {H : Heap} {r : AV} {H' : Heap}, EvF P f args H r H' → Dom H H'
  | _, _, _, _, _, .mk _ _ _ _ _ _ _ _ _ _ _ _ _ h _ _ => EvC.dom h
theorem EvC.dom : ∀ {n : Nat} {c : Code} {env : Env} {H : Heap} {ex : Ex} {env' : Env} {H' : Heap}, EvC P n c env H ex env' H' → Dom H H'
  | _, _, _, _, _, _, _, .skip _ _ _ => Dom.refl _
  | _, _, _, _, _, _, _, .label _ _ _ _ => Dom.refl _
  | _, _, _, _, _, _, _, .region _ _ _ _ _ _ _ h => EvS.dom h
  | _, _, _, _, _, _, _, .draw _ _ _ _ _ _ _ h => EvS.dom (h 0)
  | _, _, _, _, _, _, _, .seq _ _ _ _ _ _ _ _ _ _ h h' => (EvC.dom h).trans (EvC.dom h')
  | _, _, _, _, _, _, _, .seqOut _ _ _ _ _ _ _ _ h _ => EvC.dom h
  | _, _, _, _, _, _, _, .cond _ _ _ _ _ _ _ _ _ _ _ h => EvC.dom h
  | _, _, _, _, _, _, _, .block _ _ _ _ _ _ _ _ h _ => EvC.dom h
  | _, _, _, _, _, _, _, .blockOut _ _ _ _ _ _ _ _ h _ => EvC.dom h
  | _, _, _, _, _, _, _, .loop _ _ _ _ _ _ _ h => EvL.dom h
  | _, _, _, _, _, _, _, .exit _ _ _ _ => Dom.refl _
  | _, _, _, _, _, _, _, .ret _ _ _ => Dom.refl _
  | _, _, _, _, _, _, _, .scope _ _ _ _ _ _ _ h => EvC.dom h
theorem EvL.dom : ∀ {n : Nat} {c : Code} {env : Env} {H : Heap} {ex : Ex} {env' : Env} {H' : Heap}, EvL P n c env H ex env' H' → Dom H H'
  | _, _, _, _, _, _, _, .again _ _ _ _ _ _ _ _ _ h h' => (EvC.dom h).trans (EvL.dom h')
  | _, _, _, _, _, _, _, .out _ _ _ _ _ _ _ h _ => EvC.dom h
theorem EvS.dom : ∀ {n : Nat} {ops : Array Oper} {l : List Nat} {env : Env} {H : Heap} {env' : Env} {H' : Heap}, EvS P n ops l env H env' H' → Dom H H'
  | _, _, _, _, _, _, _, .nil _ _ _ _ => Dom.refl _
  | _, _, _, _, _, _, _, .skip _ _ _ _ _ _ _ _ _ _ _ _ h => EvS.dom h
  | _, _, _, _, _, _, _, .op _ _ _ _ _ _ _ _ _ _ _ _ _ _ _ he h => (local_dom (op_local he)).trans (EvS.dom h)
  | _, _, _, _, _, _, _, .hint _ _ _ _ _ _ _ _ h => fun b hb => EvS.dom h b hb
  | _, _, _, _, _, _, _, .call _ _ _ _ _ _ _ _ _ _ _ _ _ _ _ _ _ _ _ _ _ _ hc h => (EvF.dom hc).trans (EvS.dom h)
end

theorem none_of_dom {H G : Heap} (h : Dom H G) {b : Nat} (hb : G.blk b = none) : H.blk b = none := by
  cases hx : H.blk b with
  | none => rfl
  | some x => exact absurd hb (h b (by rw [hx]; simp))

theorem up_set {H : Heap} {b : Nat} {x : Blk} (hb : H.blk b = none) : Up H (H.set b x) := fun c y hc => by
  rw [Heap.set_other _ _ _ (fun e => by rw [e, hb] at hc; cases hc)]; exact hc

theorem Heap.ext' {H G : Heap} (h1 : ∀ i, H.blk i = G.blk i) (h2 : H.next = G.next) : H = G := by
  cases H; cases G
  simp only [Heap.mk.injEq]
  exact ⟨funext h1, h2⟩

theorem set_push {H : Heap} {b : Nat} {x y : Blk} (hb : b ≠ H.next) : (H.set b x).push y = (H.push y).set b x := by
  refine Heap.ext' (fun i => ?_) rfl
  show (if i = H.next then some y else if i = b then some x else H.blk i) = (if i = b then some x else if i = H.next then some y else H.blk i)
  by_cases h1 : i = H.next
  · rw [if_pos h1, if_neg (by omega), if_pos h1]
  · rw [if_neg h1, if_neg h1]

theorem set_set {H : Heap} {b c : Nat} {x y : Blk} (hb : b ≠ c) : (H.set b x).set c y = (H.set c y).set b x := by
  refine Heap.ext' (fun i => ?_) rfl
  show (if i = c then some y else if i = b then some x else H.blk i) = (if i = b then some x else if i = c then some y else H.blk i)
  by_cases h1 : i = c
  · rw [if_pos h1, if_neg (by omega), if_pos h1]
  · rw [if_neg h1, if_neg h1]

/-- One operation, with one block more beside. -/
theorem op_frame {ρ : Operand → AV} {o : Oper} {H : Heap} {r : AV} {H1 : Heap} (h : evOp P ρ o H = some (r, H1)) (hfree : H.blk H.next = none ∨ H1.next = H.next) {b : Nat} (x : Blk) (hb : H1.blk b = none) :
    evOp P ρ o (H.set b x) = some (r, H1.set b x) ∧ ((H.set b x).blk (H.set b x).next = none ∨ (H1.set b x).next = (H.set b x).next) := by
  have hl := op_local h
  have hb0 := none_of_dom (local_dom hl) hb
  have hup := up_set (x := x) hb0
  rcases hl with ⟨rfl, hG⟩ | ⟨y, rfl, hG⟩ | ⟨c, y, z, hc, rfl, hG⟩
  · exact ⟨hG _ hup, .inr rfl⟩
  · have hne : b ≠ H.next := fun e => by simp [Heap.push, e] at hb
    refine ⟨by have := hG _ hup rfl; rw [set_push hne] at this; exact this, .inl ?_⟩
    have := hfree.resolve_right (by simp [Heap.push])
    show (H.set b x).blk H.next = none
    rw [Heap.set_other _ _ _ (Ne.symm hne)]; exact this
  · have hne : b ≠ c := fun e => by rw [e, Heap.set_same] at hb; cases hb
    exact ⟨by have := hG _ hup; rw [set_set hne] at this; exact this, .inr rfl⟩

theorem result_frame {env : Env} {H : Heap} {b : Nat} {x : Blk} (hb : H.blk b = none) {rs : List ResultVar} {r : AV} (h : evResults P rs env H = some r) : evResults P rs env (H.set b x) = some r := by
  have hup := up_set (x := x) hb
  have h1 : ∀ rv r, evResult P env H rv = some r → evResult P env (H.set b x) rv = some r := by
    intro rv r h
    cases rv with
    | tmp t => exact h
    | cell a t =>
      simp only [evResult] at h ⊢
      split at h
      · rename_i n h1 h2
        obtain ⟨cs, hc, e⟩ := map_some_eq h
        simp [h1, h2, load_up hc hup, e]
      · rename_i h1
        split at h
        · rename_i v hv
          simp [h1, load_up hv hup]
          cases h; rfl
        · cases h
      · cases h
  have h2 : ∀ rs vs, evResultsL P env H rs = some vs → evResultsL P env (H.set b x) rs = some vs := by
    intro rs
    induction rs with
    | nil => intro vs h; exact h
    | cons rv rs ih =>
      intro vs h
      simp only [evResultsL] at h ⊢
      split at h
      · rename_i v us e1 e2
        rw [h1 _ _ e1, ih _ e2]; exact h
      · cases h
  unfold evResults at h ⊢
  cases hx : evResultsL P env H rs with
  | none => simp [hx] at h
  | some vs => rw [hx] at h; rw [h2 _ _ hx]; exact h

mutual
/-- A run does not look at a block that it does not know. -/
theorem EvF.frame : ∀ {f : FuncId} {args : List AV} {H : Heap} {r : AV} {H' : Heap}, EvF P f args H r H' → ∀ {b : Nat} (x : Blk), H'.blk b = none → EvF P f args (H.set b x) r (H'.set b x)
  | _, _, _, _, _, .mk f fn c args H ex env H' r hf hn hb ha h he hr, b, x, hx => .mk f fn c args _ ex env _ r hf hn hb ha (EvC.frame h x hx) he (result_frame hx hr)
theorem EvC.frame : ∀ {n : Nat} {c : Code} {env : Env} {H : Heap} {ex : Ex} {env' : Env} {H' : Heap}, EvC P n c env H ex env' H' → ∀ {b : Nat} (x : Blk), H'.blk b = none → EvC P n c env (H.set b x) ex env' (H'.set b x)
  | _, _, _, _, _, _, _, .skip _ _ _, b, x, hx => .skip _ _ _
  | _, _, _, _, _, _, _, .label _ _ _ _, b, x, hx => .label _ _ _ _
  | _, _, _, _, _, _, _, .region _ _ _ _ _ _ _ h, b, x, hx => .region _ _ _ _ _ _ _ (EvS.frame h x hx)
  | _, _, _, _, _, _, _, .draw _ _ _ _ _ _ _ h, b, x, hx => .draw _ _ _ _ _ _ _ (fun t => EvS.frame (h t) x hx)
  | _, _, _, _, _, _, _, .seq _ _ _ _ _ _ _ _ _ _ h h', b, x, hx => .seq _ _ _ _ _ _ _ _ _ _ (EvC.frame h x (none_of_dom (EvC.dom h') hx)) (EvC.frame h' x hx)
  | _, _, _, _, _, _, _, .seqOut _ _ _ _ _ _ _ _ h hn, b, x, hx => .seqOut _ _ _ _ _ _ _ _ (EvC.frame h x hx) hn
  | _, _, _, _, _, _, _, .cond _ _ _ _ _ _ _ _ _ _ hc h, b, x, hx => .cond _ _ _ _ _ _ _ _ _ _ hc (EvC.frame h x hx)
  | _, _, _, _, _, _, _, .block _ _ _ _ _ _ _ _ h hn, b, x, hx => .block _ _ _ _ _ _ _ _ (EvC.frame h x hx) hn
  | _, _, _, _, _, _, _, .blockOut _ _ _ _ _ _ _ _ h hn, b, x, hx => .blockOut _ _ _ _ _ _ _ _ (EvC.frame h x hx) hn
  | _, _, _, _, _, _, _, .loop _ _ _ _ _ _ _ h, b, x, hx => .loop _ _ _ _ _ _ _ (EvL.frame h x hx)
  | _, _, _, _, _, _, _, .exit _ _ _ _, b, x, hx => .exit _ _ _ _
  | _, _, _, _, _, _, _, .ret _ _ _, b, x, hx => .ret _ _ _
  | _, _, _, _, _, _, _, .scope _ _ _ _ _ _ _ h, b, x, hx => .scope _ _ _ _ _ _ _ (EvC.frame h x hx)
theorem EvL.frame : ∀ {n : Nat} {c : Code} {env : Env} {H : Heap} {ex : Ex} {env' : Env} {H' : Heap}, EvL P n c env H ex env' H' → ∀ {b : Nat} (x : Blk), H'.blk b = none → EvL P n c env (H.set b x) ex env' (H'.set b x)
  | _, _, _, _, _, _, _, .again _ _ _ _ _ _ _ _ _ h h', b, x, hx => .again _ _ _ _ _ _ _ _ _ (EvC.frame h x (none_of_dom (EvL.dom h') hx)) (EvL.frame h' x hx)
  | _, _, _, _, _, _, _, .out _ _ _ _ _ _ _ h hn, b, x, hx => .out _ _ _ _ _ _ _ (EvC.frame h x hx) hn
theorem EvS.frame : ∀ {n : Nat} {ops : Array Oper} {l : List Nat} {env : Env} {H : Heap} {env' : Env} {H' : Heap}, EvS P n ops l env H env' H' → ∀ {b : Nat} (x : Blk), H'.blk b = none → EvS P n ops l env (H.set b x) env' (H'.set b x)
  | _, _, _, _, _, _, _, .nil _ _ _ _, b, x, hx => .nil _ _ _ _
  | _, _, _, _, _, _, _, .skip _ _ _ _ _ _ _ _ _ ho hw hd h, b, x, hx => .skip _ _ _ _ _ _ _ _ _ ho hw hd (EvS.frame h x hx)
  | _, _, _, _, _, _, _, .op _ _ _ _ _ _ _ _ _ _ _ ho hw hd hfree he h, b, x, hx =>
      have hb1 := none_of_dom (EvS.dom h) hx
      .op _ _ _ _ _ _ _ _ _ _ _ ho hw hd (op_frame he hfree x hb1).2 (op_frame he hfree x hb1).1 (EvS.frame h x hx)
  | _, _, _, _, _, _, _, .hint n ops l m env H env' H' h, b, x, hx => .hint n ops l m env _ env' _ (EvS.frame h x hx)
  | _, _, _, _, _, _, _, .call _ _ _ _ _ _ _ _ _ _ _ _ _ _ _ _ _ ho hw hd hop hf hc h, b, x, hx =>
      .call _ _ _ _ _ _ _ _ _ _ _ _ _ _ _ _ _ ho hw hd hop hf (EvF.frame hc x (none_of_dom (EvS.dom h) hx)) (EvS.frame h x hx)
end

end
end Go.Ev
