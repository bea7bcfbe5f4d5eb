import Derived.Test.YtjjmdbhgmecpjaaGreatDoorEvS
import Derived.Scope
set_option linter.unusedVariables false
set_option linter.unusedSimpArgs false
namespace Go.Ev
open Go.RowKit
section
variable {P : Program} {C : Mem} {w0 : World}

theorem run_callFunc {g : FuncId} {fn : Func} {c : Code} (hf : P.funcs[g]? = some fn) (hn : (fn.name == "runtime.NumGoroutine") = false) (hb : fn.body = some c) (args : Array Value) (w : World) :
    (callFunc g args).run P w = .ok (.enter g args) w := by
  simp [callFunc, program, Sem.run, hf, hb]
  simpa using hn

/-- What a call comes to. -/
def FPost (C : Mem) (w0 : World) (E : Emb) (H' : Heap) (r : AV) (e : Ending) (w' : World) : Prop :=
  ∃ E' v, e = .returned v ∧ E.le E' ∧ WRel C w0 E' H' w' ∧ Rep C E' r v

mutual
theorem EvF.sound (hm : P.follows .mixedOrders = true) : ∀ {f : FuncId} {args : List AV} {H : Heap} {r : AV} {H' : Heap}, EvF P f args H r H' →
    (∃ fn c, P.funcs[f]? = some fn ∧ (fn.name == "runtime.NumGoroutine") = false ∧ fn.body = some c) ∧
    ∀ {E : Emb} {w : World} {vs : List Value}, WRel C w0 E H w → RepL C E args vs → Calls P f vs.toArray w (FPost C w0 E H' r)
  | _, _, _, _, _, .mk f fn c args H ex env H' r hf hn hb ha h he hr => by
    refine ⟨⟨fn, c, hf, hn, hb⟩, fun {E w vs} hw hv => calls_of_wp hf hb (EvC.sound hm h hw (ERel.enter hv ha) (fun E' a' w' hE hw' her hd => ?_))⟩
    obtain ⟨v, h1, h2⟩ := results_ok (P := P) hw' her hr
    clear h
    rcases he with e | e
    · rw [e]; exact ⟨hd, v, h1, E', v, rfl, hE, hw', h2⟩
    · rw [e]; exact ⟨hd, v, h1, E', v, rfl, hE, hw', h2⟩
theorem EvC.sound (hm : P.follows .mixedOrders = true) : ∀ {n : Nat} {c : Code} {env : Env} {H : Heap} {ex : Ex} {env' : Env} {H' : Heap}, EvC P n c env H ex env' H' → ∀ {E : Emb} {w : World} {a : Act} {Q : Exit → Act → World → Prop}, WRel C w0 E H w → ERel C E n env a →
    (∀ E' a' w', E.le E' → WRel C w0 E' H' w' → ERel C E' n env' a' → a'.defers = a.defers → Q ex.out a' w') → c.wp P Q a w
  | _, _, _, _, _, _, _, .skip n env H, E, w, a, Q, hw, he, hQ => wp_skip (hQ E a w (Emb.le_refl _) hw he rfl)
  | _, _, _, _, _, _, _, .label n l env H, E, w, a, Q, hw, he, hQ => wp_label (hQ E a w (Emb.le_refl _) hw he rfl)
  | _, _, _, _, _, _, _, .region n id ops env H env' H' h, E, w, a, Q, hw, he, hQ => wp_region (EvS.sound hm h hw he hQ)
  | _, _, _, _, _, _, _, .draw n id ops env H env' H' h, E, w, a, Q, hw, he, hQ => wp_region_draw fun t => by
      simp only [Region.schedule, hm, Bool.true_or, if_true]
      exact EvS.sound hm (h t) (hw.chg (Chg.drew w (fun _ _ => False)) (fun _ _ hf => hf)) he hQ
  | _, _, _, _, _, _, _, .seq n x y env H env1 H1 ex env2 H2 h h', E, w, a, Q, hw, he, hQ => wp_seq (EvC.sound hm h hw he (fun E1 a1 w1 hE hw1 he1 hd => by
      show y.wp P Q a1 w1
      exact EvC.sound hm h' hw1 he1 (fun E2 a2 w2 hE2 hw2 he2 hd2 => hQ E2 a2 w2 (Emb.le_trans hE hE2) hw2 he2 (hd2.trans hd))))
  | _, _, _, _, _, _, _, .seqOut n x y env H ex env1 H1 h hx, E, w, a, Q, hw, he, hQ => wp_seq (EvC.sound hm h hw he (fun E1 a1 w1 hE hw1 he1 hd => by
      have := hQ E1 a1 w1 hE hw1 he1 hd
      clear h
      cases ex with
      | normal => exact absurd rfl hx
      | exit id => exact this
      | ret => exact this))
  | _, _, _, _, _, _, _, .cond n c x y t env H ex env1 H1 hc h, E, w, a, Q, hw, he, hQ => by
      have hx := he.eval c
      rw [hc] at hx
      exact wp_cond (rep_bool hx) (EvC.sound hm h hw he hQ)
  | _, _, _, _, _, _, _, .block n id c env H ex env1 H1 h hx, E, w, a, Q, hw, he, hQ => wp_block (EvC.sound hm h hw he (fun E1 a1 w1 hE hw1 he1 hd => by
      clear h
      rcases hx with e | e
      · rw [e]; exact hQ E1 a1 w1 hE hw1 he1 hd
      · rw [e]; simp only [Ex.out, Exit.inBlock, if_true]; exact hQ E1 a1 w1 hE hw1 he1 hd))
  | _, _, _, _, _, _, _, .blockOut n id c env H ex env1 H1 h hx, E, w, a, Q, hw, he, hQ => wp_block (EvC.sound hm h hw he (fun E1 a1 w1 hE hw1 he1 hd => by
      have := hQ E1 a1 w1 hE hw1 he1 hd
      clear h
      cases ex with
      | normal => exact absurd rfl hx.1
      | exit id' =>
        have hne : id' ≠ id := fun e => hx.2 (by rw [e])
        simp only [Ex.out, Exit.inBlock, if_neg hne]; exact this
      | ret => exact this))
  | _, _, _, _, _, _, _, .loop n c env H ex env' H' h, E, w, a, Q, hw, he, hQ => by
      intro b k cs
      obtain ⟨e, a', w', q, r⟩ := EvL.sound hm h hw he hQ b k cs
      exact ⟨e, a', w', q, .of_steps (.one step_loop) r⟩
  | _, _, _, _, _, _, _, .exit n id env H, E, w, a, Q, hw, he, hQ => wp_exit (hQ E a w (Emb.le_refl _) hw he rfl)
  | _, _, _, _, _, _, _, .ret n env H, E, w, a, Q, hw, he, hQ => wp_ret (hQ E a w (Emb.le_refl _) hw he rfl)
  | _, _, _, _, _, _, _, .scope n c env H ex env1 H1 h, E, w, a, Q, hw, he, hQ => wp_scope_straight (EvC.sound hm h hw he (fun E1 a1 w1 hE hw1 he1 hd => by
      have := hQ E1 a1 w1 hE hw1 he1 hd
      clear h
      cases ex <;> exact this))
theorem EvL.sound (hm : P.follows .mixedOrders = true) : ∀ {n : Nat} {c : Code} {env : Env} {H : Heap} {ex : Ex} {env' : Env} {H' : Heap}, EvL P n c env H ex env' H' → ∀ {E : Emb} {w : World} {a : Act} {Q : Exit → Act → World → Prop}, WRel C w0 E H w → ERel C E n env a →
    (∀ E' a' w', E.le E' → WRel C w0 E' H' w' → ERel C E' n env' a' → a'.defers = a.defers → Q ex.out a' w') →
    ∀ (b : Frame) (k : List Item) (cs : List Frame), ∃ e a' w', Q e a' w' ∧ Arrives P (lone (b.at a (.code c :: .inLoop c :: k)) cs w) b k cs e a' w'
  | _, _, _, _, _, _, _, .again n c env H env1 H1 ex env2 H2 h h', E, w, a, Q, hw, he, hQ => by
      intro b k cs
      obtain ⟨e1, a1, w1, q1, r1⟩ := EvC.sound (Q := fun e a' w' => e = .normal ∧ ∃ E1, E.le E1 ∧ WRel C w0 E1 H1 w' ∧ ERel C E1 n env1 a' ∧ a'.defers = a.defers) hm h hw he
        (fun E1 a1 w1 hE hw1 he1 hd => ⟨rfl, E1, hE, hw1, he1, hd⟩) b (.inLoop c :: k) cs
      obtain ⟨e, E1, hE, hw1, he1, hd⟩ := q1
      rw [e] at r1
      obtain ⟨e2, a2, w2, q2, r2⟩ := EvL.sound hm h' hw1 he1 (fun E2 a2 w2 hE2 hw2 he2 hd2 => hQ E2 a2 w2 (Emb.le_trans hE hE2) hw2 he2 (hd2.trans hd)) b k cs
      exact ⟨e2, a2, w2, q2, .of_steps (Steps.trans r1 (.one step_inLoop)) r2⟩
  | _, _, _, _, _, _, _, .out n c env H ex env1 H1 h hx, E, w, a, Q, hw, he, hQ => by
      intro b k cs
      obtain ⟨e1, a1, w1, q1, r1⟩ := EvC.sound (Q := fun e a' w' => e = ex.out ∧ Q e a' w') hm h hw he (fun E1 a1 w1 hE hw1 he1 hd => ⟨rfl, hQ E1 a1 w1 hE hw1 he1 hd⟩) b (.inLoop c :: k) cs
      obtain ⟨e, q1⟩ := q1
      exact ⟨_, a1, w1, q1, .pass (x := .inLoop c) rfl (fun _ _ => .inl (by rw [e]; clear h; cases ex <;> simp_all [Ex.out])) r1⟩
theorem EvS.sound (hm : P.follows .mixedOrders = true) : ∀ {n : Nat} {ops : Array Oper} {l : List Nat} {env : Env} {H : Heap} {env' : Env} {H' : Heap}, EvS P n ops l env H env' H' → ∀ {E : Emb} {w : World} {a : Act} {Q : Exit → Act → World → Prop}, WRel C w0 E H w → ERel C E n env a →
    (∀ E' a' w', E.le E' → WRel C w0 E' H' w' → ERel C E' n env' a' → a'.defers = a.defers → Q .normal a' w') → wpOps P ops Q l a w
  | _, _, _, _, _, _, _, .nil n ops env H, E, w, a, Q, hw, he, hQ => hQ E a w (Emb.le_refl _) hw he rfl
  | _, _, _, _, _, _, _, .skip n ops i l o env H env' H' ho hwt hd h, E, w, a, Q, hw, he, hQ => by
      simp only [wpOps, ho, he.wanted hwt, Bool.false_eq_true, if_false]
      exact EvS.sound hm h hw (he.put hd (.tuple [] [] .nil)) (fun E' a' w' hE hw' he' hd' => hQ E' a' w' hE hw' he' (by rw [hd']; cases o.dst <;> rfl))
  | _, _, _, _, _, _, _, .op n ops i l o env H r H1 env' H' ho hwt hd hfree hev h, E, w, a, Q, hw, he, hQ => by
      simp only [wpOps, ho, he.wanted hwt, if_true]
      left
      obtain ⟨nx, E1, w1, hrun, hE1, hw1, hres⟩ := op_sound (P := P) hw (fun x => he.eval x) hfree hev
      unfold Oper.wp
      rw [hrun]
      rcases hres with ⟨v, e, hr⟩ | ⟨e, hr⟩
      · rw [e]
        show wpOps P ops Q l (a.put o.dst v) w1
        exact EvS.sound hm h hw1 ((he.mono hE1).put hd hr) (fun E' a' w' hE hw' he' hd' => hQ E' a' w' (Emb.le_trans hE1 hE) hw' he' (by rw [hd']; cases o.dst <;> rfl))
      · rw [e]
        show wpOps P ops Q l (a.put o.dst undef) w1
        exact EvS.sound hm h hw1 ((he.mono hE1).put hd (hr ▸ .undef _)) (fun E' a' w' hE hw' he' hd' => hQ E' a' w' (Emb.le_trans hE1 hE) hw' he' (by rw [hd']; cases o.dst <;> rfl))
  | _, _, _, _, _, _, _, .hint n ops l m env H env' H' h, E, w, a, Q, hw, he, hQ =>
      EvS.sound hm h ⟨hw.below, hw.mem, hw.dom, hw.mdom, hw.row, hw.map, hw.sep, hw.msep, hw.memsep⟩ he hQ
  | _, _, _, _, _, _, _, .call n ops i l o f args ts g first cap env H r H1 env' H' ho hwt hd hop hf hc h, E, w, a, Q, hw, he, hQ => by
      simp only [wpOps, ho, he.wanted hwt, if_true]
      left
      obtain ⟨⟨fn, c, hg, hn, hb⟩, hcall⟩ := EvF.sound hm hc
      have hx := he.eval f
      rw [hf] at hx
      obtain ⟨vs, us, hev, hvs, hus⟩ : ∃ vs us, a.eval f = .func (.func g) vs.toArray us.toArray ∧ RepL C E first vs ∧ RepL C E cap us := by
        generalize a.eval f = u at hx
        cases hx; exact ⟨_, _, rfl, by assumption, by assumption⟩
      have hargs : RepL C E (first ++ args.toList.map env.at ++ cap) (vs ++ args.toList.map a.eval ++ us) := repL_append (repL_append hvs (repL_map (fun x => he.eval x) args.toList)) hus
      have hrun : (execOp a.eval o).run P w = .ok (.enter g (vs ++ args.toList.map a.eval ++ us).toArray) w := by
        have e1 : (vs ++ args.toList.map a.eval ++ us).toArray = vs.toArray ++ args.map a.eval ++ us.toArray := by apply Array.ext'; simp
        rw [e1]
        simp only [execOp, hop, resolve, hev, Deferred.ofValue, Sem.run_bind, Sem.run_pure, Result.andThen_ok, invoke]
        exact run_callFunc hg hn hb _ w
      unfold Oper.wp
      rw [hrun]
      show Calls P g _ w _
      refine (hcall hw hargs).mono fun e w1 hpost => ?_
      obtain ⟨E1, v, rfl, hE1, hw1, hr⟩ := hpost
      exact EvS.sound hm h hw1 ((he.mono hE1).put hd hr) (fun E' a' w' hE hw' he' hd' => hQ E' a' w' (Emb.le_trans hE1 hE) hw' he' (by rw [hd']; cases o.dst <;> rfl))
end

end
end Go.Ev
