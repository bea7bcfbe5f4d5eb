import Derived.Test.YtjjmdbhgmecpjaaGreatDoorEvP
set_option linter.unusedVariables false
set_option linter.unusedSimpArgs false
namespace Go.Ev
section
variable {P : Program} {C : Mem} {w0 : World} {E : Emb} {H : Heap} {w : World}

/-- What is to be shown of one operation. -/
def OpOk (P : Program) (C : Mem) (w0 : World) (E : Emb) (w : World) (s : Sem Next) (r : AV) (H' : Heap) : Prop :=
  ∃ nx E' w', s.run P w = .ok nx w' ∧ E.le E' ∧ WRel C w0 E' H' w' ∧ ((∃ v, nx = .value v ∧ Rep C E' r v) ∨ (nx = .skip ∧ r = .undef))

theorem OpOk.pure_val (hw : WRel C w0 E H w) {s : Sem Value} {r : AV} {z : Value} (h : s.run P w = .ok z w) (hr : Rep C E r z) : OpOk P C w0 E w (do pure (.value (← s))) r H :=
  ⟨.value z, E, w, by simp [h], Emb.le_refl _, hw, .inl ⟨z, rfl, hr⟩⟩

theorem OpOk.val {s : Sem Value} {r : AV} {H' : Heap} (h : ∃ z E' w', s.run P w = .ok z w' ∧ E.le E' ∧ WRel C w0 E' H' w' ∧ Rep C E' r z) : OpOk P C w0 E w (do pure (.value (← s))) r H' := by
  obtain ⟨z, E', w', h1, h2, h3, h4⟩ := h
  exact ⟨.value z, E', w', by simp [h1], h2, h3, .inl ⟨z, rfl, h4⟩⟩

theorem repL_map {ρ : Operand → AV} {ev : Operand → Value} (hρ : ∀ x, Rep C E (ρ x) (ev x)) : ∀ l : List Operand, RepL C E (l.map ρ) (l.map ev)
  | [] => .nil
  | x :: l => .cons _ _ _ _ (hρ x) (repL_map hρ l)

theorem RepK.length {as : List (AV × AV × Nat)} {es : List MapEntry} (h : RepK C E as es) : es.length = as.length := by
  induction h with
  | nil => rfl
  | cons _ _ _ _ _ _ _ _ _ _ ih => simp [ih]

theorem len_builtin (hw : WRel C w0 E H w) {ts : Array TypeId} {ty : TypeId} {a r : AV} {u : Value} {H' : Heap} (h : evBuiltin P H .len ts [a] = some (r, H')) (hu : Rep C E a u) :
    H' = H ∧ ∃ z, (Builtin.len_ ts ty #[u]).run P w = .ok z w ∧ Rep C E r z := by
  simp only [evBuiltin] at h
  cases ht : ts[0]? with
  | none => simp [ht] at h
  | some t =>
    simp only [ht, Option.bind_some] at h
    split at h
    · rename_i s hs
      obtain ⟨s', rfl, rfl⟩ := rep_str hu
      cases h
      exact ⟨rfl, .int .i64 s'.size, by simp [Builtin.len_, ht, run_underlying hs, goInt], by rw [strOf_length]; exact .int _ _⟩
    · rename_i e hs
      cases hu; cases h
      exact ⟨rfl, _, by simp [Builtin.len_, ht, run_underlying hs, goInt], .int _ _⟩
    · rename_i e hs
      cases hu; cases h
      exact ⟨rfl, _, by simp [Builtin.len_, ht, run_underlying hs, goInt], .int _ _⟩
    · rename_i e b off n cap ex g hs
      cases hu; cases h
      exact ⟨rfl, _, by simp [Builtin.len_, ht, run_underlying hs, goInt], .int _ _⟩
    · rename_i e sz es hs
      cases h
      cases hu with
      | lst _ _ blk co len rc ad hE h1 h2 h6 =>
        subst h1
        exact ⟨rfl, _, by simp [Builtin.len_, ht, run_underlying hs, goInt], .int _ _⟩
    · rename_i k e hs
      cases hu; cases h
      exact ⟨rfl, _, by simp [Builtin.len_, ht, run_underlying hs, goInt], .int _ _⟩
    · rename_i k e b hs
      split at h
      · rename_i es cl hb
        cases h
        obtain ⟨m, es', h1, h2, h3, h4⟩ := hw.map _ _ _ hb
        cases hu with
        | map _ m' hm =>
          rw [h1] at hm; cases hm
          have hl := h4.length
          refine ⟨rfl, .int .i64 es'.size, ?_, ?_⟩
          · simp [Builtin.len_, ht, run_underlying hs, goInt, getObj, Sem.run, h3]
          · have : es'.size = es.length := by simpa using hl
            rw [this]; exact .int _ _
      · cases h
    · cases h

theorem append_builtin (hw : WRel C w0 E H w) {ts : Array TypeId} {ty : TypeId} {s x r : AV} {sv xv : Value} {H' : Heap} (hfree : H.blk H.next = none ∨ H'.next = H.next) (h : evBuiltin P H .append ts [s, x] = some (r, H')) (hs : Rep C E s sv) (hx : Rep C E x xv) :
    ∃ y E' w', (Builtin.append_ ts ty #[sv, xv]).run P w = .ok y w' ∧ E.le E' ∧ WRel C w0 E' H' w' ∧ Rep C E' r y := by
  simp only [evBuiltin] at h
  split at h
  · rename_i t u ht
    have hts' : ts = #[t, u] := by apply Array.ext'; simpa using ht
    subst hts'
    split at h
    · rename_i e d he hd
      have hte := elemOfSlice_eq he
      split at h
      · cases h
      · rename_i i hi hnd
        split at h
        · rename_i z n hz hn
          split at h
          · rename_i hzs
            cases hel : H.elems i.size n x with
            | none => simp [hel] at h
            | some new =>
              simp only [hel, Option.bind_some] at h
              exact append_ok (P := P) hw hte hd (fun k hk => by subst hk; exact hnd _ rfl) hi hz hzs.1 hfree hn hel h hs hx
          · cases h
        · cases h
      · cases h
    · cases h
  · cases h

theorem builtin_ok (hw : WRel C w0 E H w) {b : Builtin} {ts : Array TypeId} {ty : TypeId} {consts : Array Bool} {as : List AV} {vs : List Value} {r : AV} {H' : Heap} (hr : RepL C E as vs) (hfree : H.blk H.next = none ∨ H'.next = H.next) (h : evBuiltin P H b ts as = some (r, H')) :
    OpOk P C w0 E w (builtin b ts ty consts vs.toArray) r H' := by
  unfold evBuiltin at h
  split at h
  · cases hr with
    | cons _ u _ _ h1 h2 =>
      cases h2
      obtain ⟨rfl, z, hz, hrep⟩ := len_builtin (P := P) (ty := ty) hw h h1
      exact OpOk.pure_val hw hz hrep
  · cases hr with
    | cons _ u _ _ h1 h2 =>
      cases h2 with
      | cons _ v _ _ h3 h4 =>
        cases h4
        exact OpOk.val (append_builtin (P := P) (ty := ty) hw hfree h h1 h3)
  · cases hr with
    | cons _ u _ _ h1 h2 =>
      cases h2 with
      | cons _ v _ _ h3 h4 =>
        cases h4
        obtain rfl := rep_int h1
        obtain rfl := rep_int h3
        split at h
        · rename_i hk
          subst hk
          cases h
          exact OpOk.pure_val hw (by simp [Builtin.max_, Builtin.max2]) (.int _ _)
        · cases h
  · cases hr with
    | cons _ u _ _ h1 h2 =>
      cases h2 with
      | cons _ v _ _ h3 h4 =>
        cases h4
        obtain rfl := rep_int h1
        obtain rfl := rep_int h3
        split at h
        · rename_i hk
          subst hk
          cases h
          exact OpOk.pure_val hw (by simp [Builtin.min_, Builtin.min2]) (.int _ _)
        · cases h
  · cases hr with
    | cons _ u _ _ h1 h2 =>
      cases h2 with
      | cons _ v _ _ h3 h4 =>
        cases h4
        exact OpOk.val (delete_ok (P := P) (ty := ty) hw h1 h3 h)
  · cases hr with
    | cons _ u _ _ h1 h2 =>
      cases h2
      exact OpOk.val (clear_ok (P := P) (ty := ty) hw h1 h)
  · cases h

theorem rep_ptr {b i o g : Nat} {v : Value} (h : Rep C E (.ptr b i o g) v) : ∃ L off, v = .pointer (some ⟨L.blk, off, none⟩) ∧ E.loc b g = some L ∧ L.lo ≤ i ∧ i < L.ext ∧ off = L.co + (i - L.lo) * L.esz + o := by
  cases h; exact ⟨_, _, rfl, by assumption, by assumption, by assumption, by assumption⟩
theorem rep_iptr {cs : List AV} {o : Nat} {v : Value} (h : Rep C E (.iptr cs o) v) : ∃ blk co off, v = .pointer (some ⟨blk, off, none⟩) ∧ RepM C E blk co cs ∧ off = co + o := by
  cases h; exact ⟨_, _, _, rfl, by assumption, by assumption⟩

theorem buildSlice_next {t : TypeId} {len : Nat} {parts : List (Nat × AV)} {r : AV} {H' : Heap} (h : evBuildSlice P H t len parts = some (r, H')) : H'.next = H.next + 1 := by
  unfold evBuildSlice at h
  cases he : elemOfSlice P t with
  | none => simp [he] at h
  | some e =>
    simp only [he, Option.bind_some] at h
    split at h
    · split at h
      · rename_i s z _ _ _
        cases hf : fillE s (List.replicate len z.cells) parts with
        | none => simp [hf] at h
        | some els => simp only [hf, Option.map_some, Option.some.injEq, Prod.mk.injEq] at h; rw [← h.2]; rfl
      · cases h
    · cases h

theorem makeSlice_next {t : TypeId} {l c r : AV} {H' : Heap} (h : evMakeSlice P H t l c = some (r, H')) : H'.next = H.next + 1 := by
  unfold evMakeSlice at h
  cases he : elemOfSlice P t with
  | none => simp [he] at h
  | some e =>
    simp only [he, Option.bind_some] at h
    split at h
    · split at h
      · cases h; rfl
      · cases h
    · cases h

theorem buildSlice_ok' (hw : WRel C w0 E H w) {t : TypeId} {len : Nat} {parts : List (Nat × AV)} {r : AV} {H' : Heap} (hfree : H.blk H.next = none ∨ H'.next = H.next) {pv : Array (Nat × Value)} (hp : RepP C E parts pv.toList) (h : evBuildSlice P H t len parts = some (r, H')) :
    ∃ z E' w', (Instr.buildSlice t len pv).run P w = .ok z w' ∧ E.le E' ∧ WRel C w0 E' H' w' ∧ Rep C E' r z :=
  buildSlice_ok hw (hfree.resolve_right (by rw [buildSlice_next h]; omega)) hp h

theorem makeSlice_ok' (hw : WRel C w0 E H w) {t : TypeId} {l c r : AV} {H' : Heap} (hfree : H.blk H.next = none ∨ H'.next = H.next) {lv cv : Value} (hl : Rep C E l lv) (hc : Rep C E c cv) (h : evMakeSlice P H t l c = some (r, H')) :
    ∃ z E' w', (Instr.makeSlice t lv cv).run P w = .ok z w' ∧ E.le E' ∧ WRel C w0 E' H' w' ∧ Rep C E' r z :=
  makeSlice_ok hw (hfree.resolve_right (by rw [makeSlice_next h]; omega)) hl hc h

theorem map_some_eq {α β : Type} {o : Option α} {f : α → β} {r : β} (h : o.map f = some r) : ∃ a, o = some a ∧ f a = r := by
  cases o with
  | none => cases h
  | some a => exact ⟨a, rfl, by simpa using h⟩

set_option maxHeartbeats 4000000 in
theorem op_sound (hw : WRel C w0 E H w) {ρ : Operand → AV} {ev : Operand → Value} (hρ : ∀ x, Rep C E (ρ x) (ev x)) {o : Oper} {r : AV} {H' : Heap} (hfree : H.blk H.next = none ∨ H'.next = H.next) (h : evOp P ρ o H = some (r, H')) :
    OpOk P C w0 E w (execOp ev o) r H' := by
  obtain ⟨dst, op, type, pos, after, guard⟩ := o
  cases op <;> simp only [evOp] at h
  case move x => cases h; exact ⟨.value (ev x), E, w, rfl, Emb.le_refl _, hw, .inl ⟨_, rfl, hρ x⟩⟩
  case assign x => cases h; exact ⟨.value (ev x), E, w, rfl, Emb.le_refl _, hw, .inl ⟨_, rfl, hρ x⟩⟩
  case pick c a b =>
    split at h
    · rename_i t ht
      cases h
      have hc := hρ c
      rw [ht] at hc
      have hc' := rep_bool hc
      refine ⟨.value (if t then ev a else ev b), E, w, ?_, Emb.le_refl _, hw, .inl ⟨_, rfl, ?_⟩⟩
      · simp [execOp, hc', asBool]
      · cases t <;> simp [hρ]
    · cases h
  case alloc t =>
    split at h
    · rename_i z hz
      split at h
      · cases h
      · rename_i hun
        cases h
        have hfree : H.blk H.next = none := hfree.resolve_right (by simp [Heap.push])
        obtain ⟨zv, hzr, hrep⟩ := run_zeroValue' (C := C) (E := E) w hz
        obtain ⟨E', ad, w', h1, h2, h3, h4⟩ := newVar_ok (P := P) hw hfree (t := t) (by simpa using hun) hrep
        exact OpOk.val ⟨_, E', w', by simp [Instr.alloc, hzr, h1], h2, h3, h4⟩
    · cases h
  case box t x =>
    split at h
    · cases h
    · rename_i hun
      cases h
      have hfree : H.blk H.next = none := hfree.resolve_right (by simp [Heap.push])
      obtain ⟨E', ad, w', h1, h2, h3, h4⟩ := newVar_ok (P := P) hw hfree (t := t) (by simpa using hun) (hρ x)
      exact OpOk.val ⟨_, E', w', by simp [Instr.box, h1], h2, h3, h4⟩
  case build t parts =>
    obtain ⟨a, ha, e⟩ := map_some_eq h
    cases e
    have hp := repP_map hρ parts.toList
    obtain ⟨z, hz, hrep⟩ := build_ok (P := P) (w := w) (pv := parts.map fun p => (p.1, ev p.2)) (by simpa using hp) ha
    exact OpOk.pure_val hw hz hrep
  case buildSlice t len parts =>
    have hp := repP_map hρ parts.toList
    exact OpOk.val (buildSlice_ok' (P := P) hw hfree (pv := parts.map fun p => (p.1, ev p.2)) (by simpa using hp) h)
  case load t a =>
    split at h
    · rename_i n hag hs
      obtain ⟨cs, hc, e⟩ := map_some_eq h
      cases e
      obtain ⟨z, hz, hrep⟩ := load_agg (P := P) hw hag hs hc (hρ a)
      exact OpOk.pure_val hw hz hrep
    · rename_i hag
      split at h
      · rename_i v hv
        cases h
        obtain ⟨z, hz, hrep⟩ := load_one (P := P) hw hag hv (hρ a)
        exact OpOk.pure_val hw hz hrep
      · cases h
    · cases h
  case store t a x =>
    split at h
    · rename_i hc
      obtain ⟨h1, h2⟩ := hc
      obtain ⟨H2, hst, e⟩ := map_some_eq h
      cases e
      obtain ⟨w', g1, g2⟩ := store_ok (P := P) hw h2 h1 hst (hρ a) (hρ x)
      exact ⟨.skip, E, w', by simp [execOp, g1], Emb.le_refl _, g2, .inr ⟨rfl, rfl⟩⟩
    · cases h
  case binOp op t x y yt =>
    obtain ⟨a, ha, e⟩ := map_some_eq h
    cases e
    obtain ⟨z, g1, g2, g3⟩ := evBin_sound (P := P) w ha (hρ x) (hρ y)
    exact OpOk.pure_val (s := do eqGuard op t x y (ev x) (ev y); binOp op t (ev x) (ev y)) hw (by rw [Sem.run_bind, g1]; exact g2) g3
  case unOp op t x =>
    obtain ⟨a, ha, e⟩ := map_some_eq h
    cases e
    obtain ⟨z, g1, g2⟩ := evUn_sound (P := P) w ha (hρ x)
    exact OpOk.pure_val hw g1 g2
  case convert s d x =>
    split at h
    · rename_i ht
      exact OpOk.val (textOp_ok (P := P) hw hfree ht h (hρ x))
    · split at h
      · rename_i a ha
        cases h
        obtain ⟨z, g1, g2⟩ := evConvert_sound (P := P) w ha (hρ x)
        exact OpOk.pure_val hw g1 g2
      · obtain ⟨a, ha, e⟩ := map_some_eq h
        cases e
        obtain ⟨z, g1, g2⟩ := bytes_ok (P := P) hw (hρ x) ha
        exact OpOk.pure_val hw g1 g2
  case makeMap t r =>
    cases r with
    | some x => cases h
    | none =>
      cases h
      exact OpOk.val (makeMap_ok (P := P) hw (hfree.resolve_right (by simp [Heap.push])))
  case lookup t x k ok =>
    obtain ⟨a, ha, e⟩ := map_some_eq h
    cases e
    obtain ⟨z, g1, g2⟩ := look_ok (P := P) hw (hρ x) (hρ k) ha
    exact OpOk.pure_val hw g1 g2
  case mapUpdate t m k x =>
    obtain ⟨H2, ha, e⟩ := map_some_eq h
    cases e
    obtain ⟨w', g1, g2⟩ := mapUpd_ok (P := P) hw (hρ m) (hρ k) (hρ x) ha
    exact ⟨.skip, E, w', by simp [execOp, g1], Emb.le_refl _, g2, .inr ⟨rfl, rfl⟩⟩
  case makeInterface t x =>
    split at h
    · rename_i d hd
      split at h
      · cases h
      · rename_i hi
        cases h
        refine OpOk.pure_val (z := .iface t (ev x)) hw ?_ (.iface t _ _ (hρ x))
        cases d <;> simp_all [Instr.makeInterface, run_underlying hd, isIfaceD]
    · cases h
  case makeFunc fn first cap =>
    cases h
    refine OpOk.pure_val (z := .func fn (first.map ev) (cap.map ev)) hw (by simp [Instr.makeFunc]) ?_
    have := Rep.func (C := C) (E := E) fn _ _ _ _ (repL_map hρ first.toList) (repL_map hρ cap.toList)
    have he : ∀ l : Array Operand, (l.toList.map ev).toArray = l.map ev := fun l => by apply Array.ext'; simp
    rw [he, he] at this
    exact this
  case makeSlice t l c => exact OpOk.val (makeSlice_ok' (P := P) hw hfree (hρ l) (hρ c) h)
  case slice t x lo hi mx =>
    split at h
    · rename_i l hh m h1 h2 h3
      obtain ⟨a, ha, e⟩ := map_some_eq h
      cases e
      obtain ⟨z, g1, g2⟩ := slice_ok (P := P) hw hρ h1 h2 h3 ha (hρ x)
      exact OpOk.pure_val hw g1 g2
    · cases h
  case fieldAddr s x f =>
    split at h
    · rename_i fd hfd
      have hx := hρ x
      split at h
      · rename_i n b i o g hn hxe
        rw [hxe] at hx
        split at h
        · cases h
        · rename_i h0
          cases h
          obtain ⟨L, off, he, hL, h1, h2, h3⟩ := rep_ptr hx
          exact OpOk.pure_val (z := .pointer (some ⟨L.blk, off + fd.offset, none⟩)) hw (by rw [he]; exact fieldAt_ok (P := P) hfd hn h0 _ _) (.ptr _ _ _ _ L _ hL h1 h2 (by omega))
      · rename_i n cs o hn hxe
        rw [hxe] at hx
        split at h
        · cases h
        · rename_i h0
          cases h
          obtain ⟨blk, co, off, he, hm, h3⟩ := rep_iptr hx
          exact OpOk.pure_val (z := .pointer (some ⟨blk, off + fd.offset, none⟩)) hw (by rw [he]; exact fieldAt_ok (P := P) hfd hn h0 _ _) (.iptr _ _ _ co _ hm (by omega))
      · cases h
    · cases h
  case field s x f =>
    split at h
    · rename_i fd cs hfd hxe
      obtain ⟨a, ha, e⟩ := map_some_eq h
      cases e
      have hx := hρ x
      rw [hxe] at hx
      obtain ⟨vs, he, hvs⟩ := rep_agg hx
      obtain ⟨z, g1, g2⟩ := field_ok (P := P) (w := w) hfd hvs ha
      exact OpOk.pure_val hw (by rw [he]; exact g1) g2
    · cases h
  case indexAddr t x i =>
    obtain ⟨a, ha, e⟩ := map_some_eq h
    cases e
    obtain ⟨z, g1, g2⟩ := evIndexAddr_sound (P := P) w hw ha (hρ x) (hρ i)
    exact OpOk.pure_val hw g1 g2
  case index t x i =>
    obtain ⟨a, ha, e⟩ := map_some_eq h
    cases e
    obtain ⟨z, g1, g2⟩ := evIndex_sound (P := P) w ha (hρ x) (hρ i)
    exact OpOk.pure_val hw g1 g2
  case extract t i =>
    split at h
    · rename_i vs hx
      obtain ⟨a, ha, e⟩ := map_some_eq h
      cases e
      have ht := hρ t
      rw [hx] at ht
      obtain ⟨us, he, hus⟩ := rep_tuple ht
      obtain ⟨z, hz, hrep⟩ := hus.get i _ ha
      exact OpOk.pure_val hw (by simp [he, Instr.extract, hz]) hrep
    · cases h
  case nilCheck x =>
    have hx := hρ x
    split at h
    · rename_i b i o g hxe
      rw [hxe] at hx
      cases h
      obtain ⟨a, ha⟩ : ∃ a, ev x = .pointer (some a) := by generalize ev x = u at hx; cases hx; exact ⟨_, rfl⟩
      exact ⟨.value (ev x), E, w, by simp [execOp, ha], Emb.le_refl _, hw, .inl ⟨_, rfl, hx⟩⟩
    · rename_i cs o hxe
      rw [hxe] at hx
      cases h
      obtain ⟨a, ha⟩ : ∃ a, ev x = .pointer (some a) := by generalize ev x = u at hx; cases hx; exact ⟨_, rfl⟩
      exact ⟨.value (ev x), E, w, by simp [execOp, ha], Emb.le_refl _, hw, .inl ⟨_, rfl, hx⟩⟩
    · cases h
  case call c =>
    obtain ⟨callee, args, argTypes⟩ := c
    cases callee with
    | builtin b =>
      simp only at h
      show OpOk P C w0 E w (builtin b argTypes type _ (args.map ev)) r H'
      exact builtin_ok (P := P) (ty := type) hw (vs := (args.map ev).toList) (by simpa using repL_map hρ args.toList) hfree h
    | value f => cases h
    | invoke r m => cases h
  all_goals cases h
end
end Go.Ev
