import Derived.Test.YtjjmdbhgmecpjaaGreatDoorEvN
import Derived.WideKeyMaps
import Derived.DeepKeys3
set_option linter.unusedVariables false
set_option linter.unusedSimpArgs false
namespace Go.Ev
open Go.MapKept Go.WideShapes

/-! ### Maps whose keys are structs of numbers and truth values -/

theorem valCell_ok {C : Mem} {E : Emb} {a : AV} {v u : Value} (h : Rep C E a v) (ha : valCell a = some u) : v = u := by
  cases h <;> simp [valCell] at ha <;> exact ha
theorem valCells_ok {C : Mem} {E : Emb} {as : List AV} {vs us : List Value} (h : RepL C E as vs) (ha : valCells as = some us) : vs = us := by
  induction as generalizing vs us with
  | nil => cases h; simp [valCells] at ha; exact ha.symm
  | cons a l ih =>
    cases h with
    | cons _ v _ vs' h1 h2 =>
      simp only [valCells] at ha
      split at ha
      · rename_i x xs q1 q2
        cases ha
        rw [valCell_ok h1 q1, ih h2 q2]
      · cases ha
theorem valOf_ok {C : Mem} {E : Emb} {a : AV} {v u : Value} (h : Rep C E a v) (ha : valOf a = some u) : v = u := by
  cases a <;> simp [valOf] at ha
  · subst ha; cases h; rfl
  · obtain ⟨vs, h1, rfl⟩ := ha
    cases h with
    | agg cs ws hw => rw [valCells_ok hw h1]
theorem rep_valCells {C : Mem} {E : Emb} : ∀ {as : List AV} {us : List Value}, valCells as = some us → RepL C E as us
  | [], us, h => by simp [valCells] at h; subst h; exact .nil
  | a :: l, us, h => by
    simp only [valCells] at h
    split at h
    · rename_i x xs q1 q2
      cases h
      refine .cons _ _ _ _ ?_ (rep_valCells q2)
      cases a <;> simp [valCell] at q1 <;> subst q1 <;> constructor
    · cases h

theorem eqCell_iff {a b : AV} {u v : Value} (ha : valCell a = some u) (hb : valCell b = some v) : eqCell a b = true ↔ u = v := by
  cases a <;> simp [valCell] at ha <;> cases b <;> simp [valCell] at hb <;> subst ha <;> subst hb <;> simp [eqCell]
theorem eqCells_iff : ∀ {as bs : List AV} {us vs : List Value}, valCells as = some us → valCells bs = some vs → (eqCells as bs = true ↔ us = vs)
  | [], [], us, vs, h, h' => by simp [valCells] at h h'; subst h; subst h'; simp [eqCells]
  | [], b :: m, us, vs, h, h' => by
    simp only [valCells] at h h'
    split at h' <;> cases h'; cases h; simp [eqCells]
  | a :: l, [], us, vs, h, h' => by
    simp only [valCells] at h h'
    split at h <;> cases h; cases h'; simp [eqCells]
  | a :: l, b :: m, us, vs, h, h' => by
    simp only [valCells] at h h'
    split at h
    · rename_i x xs q1 q2
      cases h
      split at h'
      · rename_i y ys q3 q4
        cases h'
        simp only [eqCells, Bool.and_eq_true, eqCell_iff q1 q3, eqCells_iff q2 q4, List.cons.injEq]
      · cases h'
    · cases h
theorem eqKey_iff {a b : AV} {u v : Value} (ha : valOf a = some u) (hb : valOf b = some v) : eqKey a b = true ↔ u = v := by
  cases a <;> simp [valOf] at ha
  · cases b <;> simp [valOf] at hb
    · subst ha; subst hb; simp [eqKey]
    · obtain ⟨vs, h2, rfl⟩ := hb; subst ha; simp [eqKey]
  · cases b <;> simp [valOf] at hb
    · obtain ⟨us, h1, rfl⟩ := ha; subst hb; simp [eqKey]
    · obtain ⟨us, h1, rfl⟩ := ha
      obtain ⟨vs, h2, rfl⟩ := hb
      simp only [eqKey, eqCells_iff h1 h2]
      constructor
      · rintro rfl; rfl
      · intro h
        have := congrArg (fun v => match v with | Value.agg cs => cs.toList | _ => []) h
        simpa using this

section
variable {P : Program} {C : Mem} {w0 : World} {E : Emb} {H : Heap} {w : World}

theorem keyOk_spec {kt : TypeId} {a : AV} (h : (keyOk P kt a).isSome) : ∃ v, valOf a = some v ∧ keyGood P kt v = true := by
  unfold keyOk at h
  split at h
  · rename_i v hv
    split at h
    · rename_i hk
      exact ⟨v, hv, hk⟩
    · cases h
  · cases h

/-- What a map asks of its keys. -/
structure KLaw (P : Program) (kt : TypeId) : Prop where
  check : ∀ (w : World) (em : Bool) {v : Value}, keyGood P kt v = true → (Instr.checkKey em 10000 kt v).run P w = .ok () w
  find : ∀ (w : World) {x : Value}, keyGood P kt x = true → ∀ es : List MapEntry, (∀ e ∈ es, keyGood P kt e.key = true) →
    ((Instr.findKey kt x es).run P w = .ok none w ∧ ∀ e ∈ es, e.key ≠ x) ∨ ∃ j e, (Instr.findKey kt x es).run P w = .ok (some (j, e.val)) w ∧ es[j]? = some e ∧ e.key = x
  stays : ∀ (w : World) {v : Value}, keyGood P kt v = true → (Instr.keyThatStays v v).run P w = .ok v w

theorem int_law {kt : TypeId} {k : IntKind} (hk : P.underlying kt = some (.int k)) : KLaw P kt := by
  have good : ∀ {v : Value}, keyGood P kt v = true → ∃ n, v = .int k n := fun {v} h => by
    simp only [keyGood, hk] at h
    cases v <;> simp at h
    rename_i k' n
    subst h
    exact ⟨n, rfl⟩
  refine ⟨fun w em v h => ?_, fun w x hx es hes => ?_, fun w v h => ?_⟩
  · obtain ⟨n, rfl⟩ := good h
    exact run_checkKey hk (d := .int k) (k := .int k n) (by simp [IsKey]) em 9999
  · obtain ⟨n, rfl⟩ := good hx
    have hks : ∀ x ∈ es, IsKey (.int k) x.key := fun x hxm => by
      obtain ⟨m, e⟩ := good (hes x hxm)
      rw [e]; simp [IsKey]
    rcases findNow_spec (d := .int k) (k := .int k n) (by simp [IsKey]) es 0 hks with ⟨h1, h2⟩ | ⟨j, e0, h1, h2, h3⟩
    · exact Or.inl ⟨run_findKey hk h1, h2⟩
    · exact Or.inr ⟨j, e0, by simpa using run_findKey hk h1, h2, h3⟩
  · obtain ⟨n, rfl⟩ := good h
    exact run_keyThatStays (d := .int k) (k := .int k n) (by simp [IsKey])

theorem wide_law {kt : TypeId} (h1 : P.keyTypeAt 100 kt = true) (h2 : P.tiled 100 kt = true) (h3 : (match P.underlying kt with | some (.array _ _) | some (.struct _) => true | _ => false) = true) : KLaw P kt := by
  have K := deep_law (m := 100) (by omega) h1 h2 h3
  have good : ∀ {v : Value}, keyGood P kt v = true → ∃ l, keyOf P kt v = some l := fun {v} h => by
    unfold keyGood at h
    split at h
    · rename_i hu; rw [hu] at h3; simp at h3
    · exact Option.isSome_iff_exists.1 h
  exact ⟨fun w em v h => by obtain ⟨l, hl⟩ := good h; exact K.check w em hl, fun w x hx es hes => by obtain ⟨l, hl⟩ := good hx; exact K.find w hl es (fun e he => good (hes e he)), fun w v h => by obtain ⟨l, hl⟩ := good h; exact K.stays w hl⟩

theorem wideK_law {kt : TypeId} (h : wideK P kt = true) : KLaw P kt := by
  unfold wideK at h
  split at h
  · rename_i k hk; exact int_law hk
  · rename_i hk
    simp only [Bool.and_eq_true] at h
    exact wide_law h.1 h.2 (by rw [hk])
  · rename_i hk
    simp only [Bool.and_eq_true] at h
    exact wide_law h.1 h.2 (by rw [hk])
  · cases h

theorem repK_none {key : AV} {kv : Value} (hkv : valOf key = some kv) {es : List (AV × AV × Nat)} {mes : List MapEntry} (h : RepK C E es mes) (hall : ∀ e ∈ es, ∃ v, valOf e.1 = some v) (hn : es.all (fun e => !eqKey e.1 key) = true) :
    ∀ e ∈ mes, e.key ≠ kv := by
  induction h with
  | nil => simp
  | cons k x n e as es hk hx hb h' ih =>
    obtain ⟨v, hv⟩ := hall _ List.mem_cons_self
    have hek := valOf_ok hk hv
    simp only [List.all_cons, Bool.and_eq_true] at hn
    intro e' he'
    rcases List.mem_cons.1 he' with rfl | he'
    · intro q
      have := (eqKey_iff hv hkv).2 (by rw [← hek]; exact q)
      simp [this] at hn
    · exact ih (fun e' he' => hall e' (List.mem_cons_of_mem _ he')) hn.2 e' he'

/-- Where the key lies, if it does. -/
theorem findW_ok {key : AV} {kv : Value} (hkv : valOf key = some kv) {es : List (AV × AV × Nat)} {mes : List MapEntry} (h : RepK C E es mes) (hall : ∀ e ∈ es, ∃ v, valOf e.1 = some v) : ∀ (i : Nat), oneW key es = true →
    (findW key es i = none ∧ ∀ e ∈ mes, e.key ≠ kv) ∨ ∃ j x n e, findW key es i = some (i + j, x, n) ∧ mes[j]? = some e ∧ e.key = kv ∧ Rep C E x e.val ∧ e.born = n ∧ ∀ j' e', mes[j']? = some e' → e'.key = kv → j' = j := by
  induction h with
  | nil => intro i _; exact .inl ⟨rfl, by simp⟩
  | cons k x n e as es hk hx hn h' ih =>
    intro i hone
    obtain ⟨v, hv⟩ := hall _ List.mem_cons_self
    have hek := valOf_ok hk hv
    have hall' : ∀ e ∈ as, ∃ v, valOf e.1 = some v := fun e' he' => hall e' (List.mem_cons_of_mem _ he')
    simp only [findW]
    simp only [oneW] at hone
    by_cases he : eqKey k key = true
    · rw [if_pos he]
      rw [if_pos he] at hone
      have hno := repK_none hkv h' hall' hone
      refine .inr ⟨0, x, n, e, rfl, rfl, by rw [hek]; exact (eqKey_iff hv hkv).1 he, hx, hn, fun j' e' hj hk' => ?_⟩
      cases j' with
      | zero => rfl
      | succ j' => exact absurd hk' (hno e' (List.mem_of_getElem? (by simpa using hj)))
    · rw [if_neg he]
      rw [if_neg he] at hone
      have hne : e.key ≠ kv := fun q => he ((eqKey_iff hv hkv).2 (by rw [← hek]; exact q))
      rcases ih hall' (i + 1) hone with ⟨h1, h2⟩ | ⟨j, y, m, e2, h1, h2, h3, h4, h5, h6⟩
      · exact .inl ⟨h1, fun e' he' => by
          rcases List.mem_cons.1 he' with rfl | he'
          · exact hne
          · exact h2 e' he'⟩
      · refine .inr ⟨j + 1, y, m, e2, by rw [h1, show i + 1 + j = i + (j + 1) by omega], by simpa using h2, h3, h4, h5, fun j' e' hj hk' => ?_⟩
        cases j' with
        | zero => simp at hj; subst hj; exact absurd hk' hne
        | succ j' => rw [h6 j' e' (by simpa using hj) hk']

theorem keys_of {kt : TypeId} {es : List (AV × AV × Nat)} {mes : List MapEntry} (h : RepK C E es mes) (hall : es.all (fun e => (keyOk P kt e.1).isSome) = true) : (∀ e ∈ es, ∃ v, valOf e.1 = some v) ∧ ∀ e ∈ mes, keyGood P kt e.key = true := by
  induction h with
  | nil => exact ⟨by simp, by simp⟩
  | cons k x n e as es hk hx hb h' ih =>
    simp only [List.all_cons, Bool.and_eq_true] at hall
    obtain ⟨v, h1, h2⟩ := keyOk_spec hall.1
    obtain ⟨i1, i2⟩ := ih hall.2
    refine ⟨fun e' he' => ?_, fun e' he' => ?_⟩
    · rcases List.mem_cons.1 he' with rfl | he'
      · exact ⟨v, h1⟩
      · exact i1 e' he'
    · rcases List.mem_cons.1 he' with rfl | he'
      · rw [valOf_ok hk h1]; exact h2
      · exact i2 e' he'

theorem lookupW_ok (hw : WRel C w0 E H w) {t : TypeId} {m k r : AV} {ok : Bool} {mv kv : Value} (hm : Rep C E m mv) (hk : Rep C E k kv) (h : evLookupW P H t m k ok = some r) :
    ∃ z, (Instr.lookup t mv kv ok).run P w = .ok z w ∧ Rep C E r z := by
  unfold evLookupW at h
  split at h
  · rename_i kt et ht
    split at h
    · rename_i hc
      have K := wideK_law hc.1
      obtain ⟨v, hv, hl⟩ := keyOk_spec hc.2
      obtain rfl := valOf_ok hk hv
      have miss : ∀ {z : AV}, zeroOf P et = some z → ∀ (zs : Array MapEntry), (Instr.findKey kt kv zs.toList).run P w = .ok none w → (mv = .map none → zs = #[]) →
          (∀ mm, mv = .map (some mm) → ∃ cl, w.heap[mm]? = some (.map zs cl)) → (mv = .map none ∨ ∃ mm, mv = .map (some mm)) →
          ∃ v, (Instr.lookup t mv kv ok).run P w = .ok v w ∧ Rep C E (if ok = true then .tuple [z, .bool false] else z) v := by
        intro z hz zs hf hnil hmap hcase
        obtain ⟨zv, hzr, hrep⟩ := run_zeroValue' (C := C) (E := E) w hz
        refine ⟨if ok = true then .tuple #[zv, .bool false] else zv, ?_, ?_⟩
        · rcases hcase with rfl | ⟨mm, rfl⟩
          · obtain rfl := hnil rfl
            simp at hf
            simp [Instr.lookup, run_underlying ht, K.check w _ hl, hf, hzr, Result.andThen]
          · obtain ⟨cl, hh⟩ := hmap mm rfl
            simp [Instr.lookup, run_underlying ht, Go.MapKept.run_getObj_map hh, K.check w _ hl, hf, hzr, Result.andThen]
        · cases ok
          · exact hrep
          · exact .tuple _ _ (.cons _ _ _ _ hrep (.cons _ _ _ _ (.bool _) .nil))
      split at h
      · obtain rfl := rep_nilMap hm
        cases hz : zeroOf P et with
        | none => simp [hz] at h
        | some z =>
          simp only [hz, Option.map_some, Option.some.injEq] at h
          subst h
          rcases K.find w hl [] (by simp) with ⟨h1, _⟩ | ⟨j, e, _, h2, _⟩
          · exact miss hz #[] h1 (fun _ => rfl) (fun mm e => by cases e) (.inl rfl)
          · simp at h2
      · rename_i b
        obtain ⟨mm, rfl, hml⟩ := rep_map hm
        split at h
        · rename_i es cl hb
          obtain ⟨mes, q2, q3, q4⟩ := map_same (m' := 0) hw hb hml
          split at h
          · rename_i hall
            obtain ⟨k1, k2⟩ := keys_of q4 hall.1
            have hfd := findW_ok hv q4 k1 0 hall.2
            split at h
            · rename_i i v n hf
              cases h
              rcases hfd with ⟨e, _⟩ | ⟨j, x2, n2, e2, h1, h2, h3, h4, h5, h6⟩
              · rw [hf] at e; cases e
              · rw [hf] at h1; cases h1
                rcases K.find w hl mes.toList k2 with ⟨_, g2⟩ | ⟨j', e', g1, g2, g3⟩
                · exact absurd h3 (g2 e2 (List.mem_of_getElem? h2))
                · obtain rfl := h6 j' e' g2 g3
                  have hee : e' = e2 := by rw [g2] at h2; exact Option.some.inj h2
                  rw [hee] at g1
                  refine ⟨if ok = true then .tuple #[e2.val, .bool true] else e2.val, ?_, ?_⟩
                  · simp [Instr.lookup, run_underlying ht, Go.MapKept.run_getObj_map q3, K.check w _ hl, g1, Result.andThen]
                  · cases ok
                    · exact h4
                    · exact .tuple _ _ (.cons _ _ _ _ h4 (.cons _ _ _ _ (.bool _) .nil))
            · rename_i hf
              rcases hfd with ⟨_, hno⟩ | ⟨j, x2, n2, e2, h1, _⟩
              · cases hz : zeroOf P et with
                | none => simp [hz] at h
                | some z =>
                  simp only [hz, Option.map_some, Option.some.injEq] at h
                  subst h
                  rcases K.find w hl mes.toList k2 with ⟨g1, _⟩ | ⟨j', e', _, g2, g3⟩
                  · exact miss hz mes g1 (fun q => by cases q) (fun mm2 e => by cases e; exact ⟨cl, q3⟩) (.inr ⟨_, rfl⟩)
                  · exact absurd g3 (hno e' (List.mem_of_getElem? g2))
              · rw [hf] at h1; cases h1
          · cases h
        · cases h
      · cases h
    · cases h
  · cases h

theorem mapUpdateW_ok (hw : WRel C w0 E H w) {t : TypeId} {m k x : AV} {mv kv xv : Value} {H' : Heap} (hm : Rep C E m mv) (hk : Rep C E k kv) (hx : Rep C E x xv) (h : evMapUpdateW P H t m k x = some H') :
    ∃ w', (Instr.mapUpdate t mv kv xv).run P w = .ok () w' ∧ WRel C w0 E H' w' := by
  unfold evMapUpdateW at h
  split at h
  · rename_i kt et b ht
    split at h
    · rename_i hc
      have K := wideK_law hc.1
      obtain ⟨v, hv, hl⟩ := keyOk_spec hc.2
      obtain rfl := valOf_ok hk hv
      obtain ⟨mm, rfl, hml⟩ := rep_map hm
      split at h
      · rename_i es cl hb
        obtain ⟨mes, q2, q3, q4⟩ := map_same (m' := 0) hw hb hml
        split at h
        · rename_i hall
          obtain ⟨k1, k2⟩ := keys_of q4 hall.1
          have hfd := findW_ok hv q4 k1 0 hall.2
          split at h
          · rename_i i v n hf
            cases h
            rcases hfd with ⟨e, _⟩ | ⟨j, x2, n2, e2, h1, h2, h3, h4, h5, h6⟩
            · rw [hf] at e; cases e
            · rw [hf] at h1; cases h1
              rcases K.find w hl mes.toList k2 with ⟨_, g2⟩ | ⟨j', e', g1, g2, g3⟩
              · exact absurd h3 (g2 e2 (List.mem_of_getElem? h2))
              · obtain rfl := h6 j' e' g2 g3
                have hee : e' = e2 := by rw [g2] at h2; exact Option.some.inj h2
                rw [hee] at g1
                have hm2 : mes[j']? = some e2 := by simpa using h2
                refine ⟨{ w with heap := w.heap.setIfInBounds mm (.map (mes.modify j' fun e => { e with key := kv, val := xv }) cl) }, ?_, ?_⟩
                · simp [Instr.mapUpdate, run_underlying ht, Go.MapKept.run_getObj_map q3, K.check w _ hl, g1, Result.andThen]
                  simp [hm2, h3, K.stays w hl, Go.MapKept.run_setObj_map _ q3]
                · refine hw.setMap hb hml q2 q3 ?_
                  rw [modify_toList _ (by simpa using h2), Nat.zero_add]
                  exact q4.set (e := { e2 with key := kv, val := xv }) hk hx h5 _
          · rename_i hf
            cases h
            rcases hfd with ⟨_, hno⟩ | ⟨j, x2, n2, e2, h1, _⟩
            · rcases K.find w hl mes.toList k2 with ⟨g1, _⟩ | ⟨j', e', _, g2, g3⟩
              · refine ⟨{ w with heap := w.heap.setIfInBounds mm (.map (mes.push { key := kv, val := xv, born := cl }) (cl + 1)) }, ?_, ?_⟩
                · simp [Instr.mapUpdate, run_underlying ht, Go.MapKept.run_getObj_map q3, K.check w _ hl, g1, Go.MapKept.run_setObj_map _ q3, Result.andThen]
                · refine hw.setMap hb hml q2 q3 ?_
                  rw [Array.toList_push]
                  exact q4.snoc (e := { key := kv, val := xv, born := cl }) hk hx rfl
              · exact absurd g3 (hno e' (List.mem_of_getElem? g2))
            · rw [hf] at h1; cases h1
        · cases h
      · cases h
    · cases h
  · cases h

theorem look_ok (hw : WRel C w0 E H w) {t : TypeId} {m k r : AV} {ok : Bool} {mv kv : Value} (hm : Rep C E m mv) (hk : Rep C E k kv) (h : evLook P H t m k ok = some r) :
    ∃ z, (Instr.lookup t mv kv ok).run P w = .ok z w ∧ Rep C E r z := by
  unfold evLook at h
  split at h
  · exact lookupW_ok hw hm hk h
  · exact lookupW_ok hw hm hk h
  · exact lookup_ok hw hm hk h

theorem mapUpd_ok (hw : WRel C w0 E H w) {t : TypeId} {m k x : AV} {mv kv xv : Value} {H' : Heap} (hm : Rep C E m mv) (hk : Rep C E k kv) (hx : Rep C E x xv) (h : evMapUpd P H t m k x = some H') :
    ∃ w', (Instr.mapUpdate t mv kv xv).run P w = .ok () w' ∧ WRel C w0 E H' w' := by
  unfold evMapUpd at h
  split at h
  · exact mapUpdateW_ok hw hm hk hx h
  · exact mapUpdateW_ok hw hm hk hx h
  · exact mapUpdate_ok hw hm hk hx h
end
end Go.Ev
