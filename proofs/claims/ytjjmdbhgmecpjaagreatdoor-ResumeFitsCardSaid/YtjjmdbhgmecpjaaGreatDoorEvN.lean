import Derived.Test.YtjjmdbhgmecpjaaGreatDoorEvL
import Derived.MapKept
set_option linter.unusedVariables false
set_option linter.unusedSimpArgs false
namespace Go.Ev
open Go.MapKept
section
variable {P : Program} {C : Mem} {w0 : World} {E : Emb} {H : Heap} {w : World}

/-! ### A map's block is written, or made -/

theorem chg_setMap {m : Nat} {mes : Array MapEntry} {cl : Nat} (hh : w.heap[m]? = some (.map mes cl)) (mes' : Array MapEntry) (cl' : Nat) :
    Chg w { w with heap := w.heap.setIfInBounds m (.map mes' cl') } (fun b _ => b = m) := by
  obtain ⟨h1, h2⟩ := heap_set (o' := .map mes' cl') hh
  refine ⟨rfl, rfl, rfl, by simp, fun b o _ hn => ?_, fun b o _ hs => ?_, fun b o _ => ?_, fun k _ hn => h2 k (hn 0)⟩
  · simp only [World.cell?]; rw [h2 b hn]
  · by_cases hb : b = m
    · subst hb
      simp [World.cell?, hh] at hs
    · simp only [World.cell?] at hs ⊢; rw [h2 b hb]; exact hs
  · by_cases hb : b = m
    · subst hb
      simp only [World.frozen?, h1, hh]
    · simp only [World.frozen?]; rw [h2 b hb]

theorem WRel.setMap (h : WRel C w0 E H w) {b m : Nat} {es es' : List (AV × AV × Nat)} {cl cl' : Nat} {mes mes' : Array MapEntry} (hb : H.blk b = some (.map es cl)) (hm : E.mloc b = some m) (hbase : w0.heap.size ≤ m)
    (hh : w.heap[m]? = some (.map mes cl)) (hr : RepK C E es' mes'.toList) : WRel C w0 E (H.set b (.map es' cl')) { w with heap := w.heap.setIfInBounds m (.map mes' cl') } := by
  have hc := chg_setMap hh mes' cl'
  obtain ⟨h1, h2⟩ := heap_set (o' := .map mes' cl') hh
  constructor
  · exact below_chg h.below hc (fun c o e => by rw [e]; exact hbase)
  · intro c o v hv
    obtain ⟨q1, q2⟩ := h.mem c o v hv
    have hne : c ≠ m := fun e => by subst e; rw [map_not_cells hh] at q2; cases q2
    exact ⟨Nat.lt_of_lt_of_le q1 hc.size, by rw [hc.cell c o q1 hne]; exact q2⟩
  · intro c g L hL
    obtain ⟨d1, d2, d3⟩ := h.dom c g L hL
    refine ⟨Heap.set_ne d1, Nat.lt_of_lt_of_le d2 hc.size, fun ty esz els gen wgen hb' => ?_⟩
    by_cases hcb : c = b
    · subst hcb; rw [Heap.set_same] at hb'; cases hb'
    · rw [Heap.set_other _ _ _ hcb] at hb'; exact d3 _ _ _ _ _ hb'
  · exact fun c k hk => ⟨Heap.set_ne (h.mdom c k hk).1, Nat.lt_of_lt_of_le (h.mdom c k hk).2 hc.size⟩
  · intro c ty esz els gen wgen hb'
    by_cases hcb : c = b
    · subst hcb; rw [Heap.set_same] at hb'; cases hb'
    · rw [Heap.set_other _ _ _ hcb] at hb'
      have hrow := h.row _ _ _ _ _ _ hb'
      refine hrow.chg hc (Emb.le_refl _) (fun g L g1 g2 hL o o1 o2 hs => ?_)
      obtain ⟨L', hL', hl⟩ := hrow.loc g g1 g2
      rw [hL] at hL'; cases hL'
      have := (hl.shape o (by have := hl.room; omega)).1
      rw [hs, map_not_cells hh] at this
      cases this
  · intro c es2 cl2 hb'
    by_cases hcb : c = b
    · subst hcb
      rw [Heap.set_same] at hb'; cases hb'
      exact ⟨m, mes', hm, hbase, h1, hr⟩
    · rw [Heap.set_other _ _ _ hcb] at hb'
      obtain ⟨m2, es3, q1, q2, q3, q4⟩ := h.map c es2 cl2 hb'
      have hne : m2 ≠ m := fun e => hcb (h.msep _ _ _ (e ▸ q1) hm)
      exact ⟨m2, es3, q1, q2, by rw [h2 m2 hne]; exact q3, q4⟩
  · exact h.sep
  · exact h.msep
  · exact h.memsep

def Emb.setM (E : Emb) (b m : Nat) : Emb := ⟨E.loc, fun b' => if b' = b then some m else E.mloc b'⟩

theorem WRel.newMap (h : WRel C w0 E H w) (hfree : H.blk H.next = none) :
    E.le (E.setM H.next w.heap.size) ∧ WRel C w0 (E.setM H.next w.heap.size) (H.push (.map [] 0)) (w.alloc (.map #[] 0)) := by
  have hc : Chg w (w.alloc (.map #[] 0)) (fun _ _ => False) := Chg.alloc w _ _
  have hnone : E.mloc H.next = none := by
    cases hx : E.mloc H.next with
    | none => rfl
    | some m => exact absurd hfree (h.mdom _ _ hx).1
  have hle : E.le (E.setM H.next w.heap.size) := ⟨fun _ _ _ q => q, fun b m q => by
    simp only [Emb.setM]
    split
    · rename_i e; subst e; rw [hnone] at q; cases q
    · exact q⟩
  refine ⟨hle, ?_⟩
  have h0 := h.chg hc (fun _ _ hf => hf)
  have hset : ∀ b m, (E.setM H.next w.heap.size).mloc b = some m → (b = H.next ∧ m = w.heap.size) ∨ E.mloc b = some m := fun b m q => by
    simp only [Emb.setM] at q
    split at q
    · rename_i e; cases q; exact .inl ⟨e, rfl⟩
    · exact .inr q
  constructor
  · exact h0.below
  · exact h0.mem
  · intro b g L hL
    obtain ⟨d1, d2, d3⟩ := h0.dom b g L hL
    have hbn : b ≠ H.next := fun e => d1 (e ▸ hfree)
    refine ⟨by simp only [Heap.push]; rw [if_neg hbn]; exact d1, d2, fun ty esz els gen wgen hb => ?_⟩
    simp only [Heap.push] at hb
    rw [if_neg hbn] at hb
    exact d3 _ _ _ _ _ hb
  · intro b m hm
    rcases hset b m hm with ⟨rfl, rfl⟩ | hm
    · exact ⟨by simp [Heap.push], by simp⟩
    · have hbn : b ≠ H.next := fun e => (h0.mdom b m hm).1 (e ▸ hfree)
      exact ⟨by simp only [Heap.push]; rw [if_neg hbn]; exact (h0.mdom b m hm).1, (h0.mdom b m hm).2⟩
  · intro b ty esz els gen wgen hb
    simp only [Heap.push] at hb
    split at hb
    · cases hb
    · exact (h0.row b _ _ _ _ _ hb).chg (Chg.refl _ (fun _ _ => False)) hle (fun _ _ _ _ _ _ _ _ hf => hf)
  · intro b es cl hb
    simp only [Heap.push] at hb
    split at hb
    · rename_i e
      subst e
      cases hb
      exact ⟨w.heap.size, #[], by simp [Emb.setM], h.below.size, (heap_alloc w _).1, .nil⟩
    · obtain ⟨m, es', q1, q2, q3, q4⟩ := h0.map b es cl hb
      exact ⟨m, es', hle.2 _ _ q1, q2, q3, q4.mono (Mem.le_refl _) hle⟩
  · exact h0.sep
  · intro b m b' hx hy
    rcases hset b m hx with ⟨rfl, rfl⟩ | hx' <;> rcases hset b' _ hy with ⟨rfl, e⟩ | hy'
    · rfl
    · have := (h.mdom _ _ hy').2; omega
    · have := (h.mdom _ _ hx').2; omega
    · exact h.msep _ _ _ hx' hy'
  · exact h0.memsep

/-! ### Entries -/

theorem RepK.get {es : List (AV × AV × Nat)} {mes : List MapEntry} (h : RepK C E es mes) : ∀ (i : Nat) k x n, es[i]? = some (k, x, n) → ∃ e, mes[i]? = some e ∧ Rep C E k e.key ∧ Rep C E x e.val ∧ e.born = n := by
  induction h with
  | nil => intro i k x n h; simp at h
  | cons k x n e as es hk hx hn _ ih =>
    intro i k' x' n' h
    cases i with
    | zero => simp at h; obtain ⟨rfl, rfl, rfl⟩ := h; exact ⟨e, rfl, hk, hx, hn⟩
    | succ i => simpa using ih i k' x' n' (by simpa using h)

theorem RepK.set {es : List (AV × AV × Nat)} {mes : List MapEntry} (h : RepK C E es mes) {k x : AV} {n : Nat} {e : MapEntry} (hk : Rep C E k e.key) (hx : Rep C E x e.val) (hn : e.born = n) : ∀ (i : Nat), RepK C E (es.set i (k, x, n)) (mes.set i e) := by
  induction h with
  | nil => intro i; exact .nil
  | cons k' x' n' e' as es hk' hx' hn' h' ih =>
    intro i
    cases i with
    | zero => exact .cons _ _ _ _ _ _ hk hx hn h'
    | succ i => exact .cons _ _ _ _ _ _ hk' hx' hn' (ih i)

theorem RepK.erase {es : List (AV × AV × Nat)} {mes : List MapEntry} (h : RepK C E es mes) : ∀ (i : Nat), RepK C E (es.eraseIdx i) (mes.eraseIdx i) := by
  induction h with
  | nil => intro i; exact .nil
  | cons k' x' n' e' as es hk' hx' hn' h' ih =>
    intro i
    cases i with
    | zero => exact h'
    | succ i => exact .cons _ _ _ _ _ _ hk' hx' hn' (ih i)

theorem RepK.snoc {es : List (AV × AV × Nat)} {mes : List MapEntry} (h : RepK C E es mes) {k x : AV} {n : Nat} {e : MapEntry} (hk : Rep C E k e.key) (hx : Rep C E x e.val) (hn : e.born = n) : RepK C E (es ++ [(k, x, n)]) (mes ++ [e]) := by
  induction h with
  | nil => exact .cons _ _ _ _ _ _ hk hx hn .nil
  | cons k' x' n' e' as es hk' hx' hn' h' ih => exact .cons _ _ _ _ _ _ hk' hx' hn' ih

theorem sameNow_str {l k : List Nat} {s s' : ByteArray} (h : strOf s = l) (h' : strOf s' = k) : Instr.sameNow .string (.string s) (.string s') = some (decide (l = k)) := by
  simp only [Instr.sameNow, Option.some.injEq]
  by_cases e : l = k
  · have : s = s' := strOf_inj (by rw [h, h', e])
    rw [decide_eq_true e]; exact (bytes_beq s s').2 this
  · rw [decide_eq_false e]
    cases hb : (s == s') with
    | false => rfl
    | true => exact absurd (by rw [← h, ← h', (bytes_beq s s').1 hb]) e

theorem findK_ok {l : List Nat} {s : ByteArray} (hs : strOf s = l) {es : List (AV × AV × Nat)} {mes : List MapEntry} (h : RepK C E es mes) : ∀ (i : Nat) (r : Option (Nat × AV × Nat)), findK l es i = some r →
    (r = none ∧ Instr.findNow .string (.string s) mes i = some none) ∨
    ∃ k x n e, r = some (i + k, x, n) ∧ mes[k]? = some e ∧ e.key = .string s ∧ Rep C E x e.val ∧ e.born = n ∧ Instr.findNow .string (.string s) mes i = some (some (i + k, e.val)) := by
  induction h with
  | nil => intro i r h; simp only [findK, Option.some.injEq] at h; exact .inl ⟨h.symm, rfl⟩
  | cons k x n e as es hk hx hn h' ih =>
    intro i r h
    match k, hk, h with
    | .str kk, hk, h =>
      obtain ⟨s', hs1, hs2⟩ := rep_str hk
      simp only [findK] at h
      have hsn := sameNow_str hs hs2
      split at h
      · rename_i heq
        cases h
        refine .inr ⟨0, x, n, e, rfl, rfl, ?_, hx, hn, ?_⟩
        · rw [hs1]; congr 1; exact (strOf_inj (by rw [hs, hs2, heq])).symm
        · simp only [Instr.findNow, hs1, hsn, decide_eq_true heq]; rfl
      · rename_i hne
        rcases ih (i + 1) r h with ⟨h1, h2⟩ | ⟨k2, x2, n2, e2, h1, h2, h3, h4, h5, h6⟩
        · exact .inl ⟨h1, by simp only [Instr.findNow, hs1, hsn, decide_eq_false hne]; exact h2⟩
        · refine .inr ⟨k2 + 1, x2, n2, e2, by rw [h1, show i + 1 + k2 = i + (k2 + 1) by omega], by simpa using h2, h3, h4, h5, ?_⟩
          simp only [Instr.findNow, hs1, hsn, decide_eq_false hne]
          rw [h6, show i + 1 + k2 = i + (k2 + 1) by omega]
    | .undef, _, h | .bool _, _, h | .int _ _, _, h | .nilptr, _, h | .ptr .., _, h | .iptr .., _, h | .nilslice, _, h | .eslice, _, h | .slice .., _, h | .lst .., _, h | .agg _, _, h | .tuple _, _, h | .nilIface, _, h | .iface .., _, h | .nilFunc, _, h
    | .func .., _, h | .nilMap, _, h | .map _, _, h => simp [findK] at h

theorem isStrT_eq {t : TypeId} (h : isStrT P t = true) : P.underlying t = some .string := by
  unfold isStrT at h
  split at h
  · assumption
  · cases h

theorem rep_map {b : Nat} {v : Value} (h : Rep C E (.map b) v) : ∃ m, v = .map (some m) ∧ E.mloc b = some m := by
  cases h; exact ⟨_, rfl, by assumption⟩
theorem rep_nilMap {v : Value} (h : Rep C E .nilMap v) : v = .map none := by cases h; rfl

theorem map_same {b m m' : Nat} {es : List (AV × AV × Nat)} {cl : Nat} (hw : WRel C w0 E H w) (hb : H.blk b = some (.map es cl)) (hm : E.mloc b = some m) :
    ∃ mes, w0.heap.size ≤ m ∧ w.heap[m]? = some (.map mes cl) ∧ RepK C E es mes.toList := by
  obtain ⟨m2, mes, q1, q2, q3, q4⟩ := hw.map b es cl hb
  rw [hm] at q1; cases q1
  exact ⟨mes, q2, q3, q4⟩

theorem lookup_ok (hw : WRel C w0 E H w) {t : TypeId} {m k r : AV} {ok : Bool} {mv kv : Value} (hm : Rep C E m mv) (hk : Rep C E k kv) (h : evLookup P H t m k ok = some r) :
    ∃ z, (Instr.lookup t mv kv ok).run P w = .ok z w ∧ Rep C E r z := by
  unfold evLookup at h
  split at h
  · rename_i kt et l ht
    split at h
    · rename_i hst
      have hkt := isStrT_eq hst
      obtain ⟨s, rfl, hs⟩ := rep_str hk
      have miss : ∀ {z : AV}, zeroOf P et = some z → ∀ (zs : Array MapEntry), Instr.findNow .string (.string s) zs.toList 0 = some none → (hget : ∀ q : mv = .map none, zs = #[]) →
          (∀ mm, mv = .map (some mm) → ∃ cl, w.heap[mm]? = some (.map zs cl)) → (mv = .map none ∨ ∃ mm, mv = .map (some mm)) →
          ∃ v, (Instr.lookup t mv (.string s) ok).run P w = .ok v w ∧ Rep C E (if ok = true then .tuple [z, .bool false] else z) v := by
        intro z hz zs hf hnil hmap hcase
        obtain ⟨zv, hzr, hrep⟩ := run_zeroValue' (C := C) (E := E) w hz
        refine ⟨if ok = true then .tuple #[zv, .bool false] else zv, ?_, ?_⟩
        · rcases hcase with rfl | ⟨mm, rfl⟩
          · obtain rfl := hnil rfl
            simp [Instr.lookup, run_underlying ht, run_checkKey hkt (show IsKey .string (.string s) from trivial), run_findKey hkt hf, hzr, Result.andThen]
          · obtain ⟨cl, hh⟩ := hmap mm rfl
            simp [Instr.lookup, run_underlying ht, Go.MapKept.run_getObj_map hh, run_checkKey hkt (show IsKey .string (.string s) from trivial), run_findKey hkt hf, hzr, Result.andThen]
        · cases ok
          · exact hrep
          · exact .tuple _ _ (.cons _ _ _ _ hrep (.cons _ _ _ _ (.bool _) .nil))
      split at h
      · obtain rfl := rep_nilMap hm
        cases hz : zeroOf P et with
        | none => simp [hz] at h
        | some z =>
          simp only [hz, Option.map_some, Option.some.injEq] at h
          subst h
          exact miss hz #[] rfl (fun _ => rfl) (fun mm e => by cases e) (.inl rfl)
      · rename_i b
        obtain ⟨mm, rfl, hml⟩ := rep_map hm
        split at h
        · rename_i es cl hb
          obtain ⟨mes, q2, q3, q4⟩ := map_same (m' := 0) hw hb hml
          split at h
          · rename_i i v n hf
            cases h
            rcases findK_ok hs q4 0 _ hf with ⟨e, _⟩ | ⟨k2, x2, n2, e2, h1, h2, h3, h4, h5, h6⟩
            · cases e
            · cases h1
              refine ⟨if ok = true then .tuple #[e2.val, .bool true] else e2.val, ?_, ?_⟩
              · simp [Instr.lookup, run_underlying ht, Go.MapKept.run_getObj_map q3, run_checkKey hkt (show IsKey .string (.string s) from trivial), run_findKey hkt h6, Result.andThen]
              · cases ok
                · exact h4
                · exact .tuple _ _ (.cons _ _ _ _ h4 (.cons _ _ _ _ (.bool _) .nil))
          · rename_i hf
            rcases findK_ok hs q4 0 _ hf with ⟨_, hfn⟩ | ⟨k2, x2, n2, e2, h1, _⟩
            · cases hz : zeroOf P et with
              | none => simp [hz] at h
              | some z =>
                simp only [hz, Option.map_some, Option.some.injEq] at h
                subst h
                exact miss hz mes hfn (fun q => by cases q) (fun mm2 e => by cases e; exact ⟨cl, q3⟩) (.inr ⟨_, rfl⟩)
            · cases h1
          · cases h
        · cases h
      · cases h
    · cases h
  · cases h

theorem keeps_key {s : ByteArray} : (Instr.keyThatStays (.string s) (.string s)).run P w = .ok (.string s) w := run_keyThatStays (d := .string) trivial

theorem modify_toList {es : Array MapEntry} {i : Nat} {e : MapEntry} (f : MapEntry → MapEntry) (h : es.toList[i]? = some e) : (es.modify i f).toList = es.toList.set i (f e) := by
  rw [Array.toList_modify]
  apply List.ext_getElem?
  intro j
  rw [List.getElem?_modify, List.getElem?_set]
  by_cases hj : i = j
  · subst hj
    rw [if_pos rfl, if_pos (List.getElem?_eq_some_iff.1 h).1, h]
    simp
  · rw [if_neg hj]
    simp [hj]

theorem mapUpdate_ok (hw : WRel C w0 E H w) {t : TypeId} {m k x : AV} {mv kv xv : Value} {H' : Heap} (hm : Rep C E m mv) (hk : Rep C E k kv) (hx : Rep C E x xv) (h : evMapUpdate P H t m k x = some H') :
    ∃ w', (Instr.mapUpdate t mv kv xv).run P w = .ok () w' ∧ WRel C w0 E H' w' := by
  unfold evMapUpdate at h
  split at h
  · rename_i kt et l b ht
    split at h
    · rename_i hst
      have hkt := isStrT_eq hst
      obtain ⟨s, rfl, hs⟩ := rep_str hk
      obtain ⟨mm, rfl, hml⟩ := rep_map hm
      split at h
      · rename_i es cl hb
        obtain ⟨mes, q2, q3, q4⟩ := map_same (m' := 0) hw hb hml
        split at h
        · rename_i i v n hf
          cases h
          rcases findK_ok hs q4 0 _ hf with ⟨e, _⟩ | ⟨k2, x2, n2, e2, h1, h2, h3, h4, h5, h6⟩
          · cases e
          · cases h1
            have hm2 : mes[0 + k2]? = some e2 := by simpa using h2
            refine ⟨{ w with heap := w.heap.setIfInBounds mm (.map (mes.modify (0 + k2) fun e => { e with key := .string s, val := xv }) cl) }, ?_, ?_⟩
            · simp [Instr.mapUpdate, run_underlying ht, Go.MapKept.run_getObj_map q3, run_checkKey hkt (show IsKey .string (.string s) from trivial), run_findKey hkt h6, Result.andThen]
              rw [Nat.zero_add] at hm2
              simp [hm2, h3, keeps_key, Go.MapKept.run_setObj_map _ q3]
            · refine hw.setMap hb hml q2 q3 ?_
              rw [modify_toList _ (by simpa using h2)]
              exact q4.set (e := { e2 with key := .string s, val := xv }) (.str _ _ hs) hx h5 _
        · rename_i hf
          cases h
          rcases findK_ok hs q4 0 _ hf with ⟨_, hfn⟩ | ⟨k2, x2, n2, e2, h1, _⟩
          · refine ⟨{ w with heap := w.heap.setIfInBounds mm (.map (mes.push { key := .string s, val := xv, born := cl }) (cl + 1)) }, ?_, ?_⟩
            · simp [Instr.mapUpdate, run_underlying ht, Go.MapKept.run_getObj_map q3, run_checkKey hkt (show IsKey .string (.string s) from trivial), run_findKey hkt hfn, Go.MapKept.run_setObj_map _ q3, Result.andThen]
            · refine hw.setMap hb hml q2 q3 ?_
              rw [Array.toList_push]
              exact q4.snoc (e := { key := .string s, val := xv, born := cl }) (.str _ _ hs) hx rfl
          · cases h1
        · cases h
      · cases h
    · cases h
  · cases h

theorem delete_ok (hw : WRel C w0 E H w) {ts : Array TypeId} {ty : TypeId} {m k r : AV} {mv kv : Value} {H' : Heap} (hm : Rep C E m mv) (hk : Rep C E k kv) (h : evDelete P H ts m k = some (r, H')) :
    ∃ z E' w', (Builtin.delete_ ts ty #[mv, kv]).run P w = .ok z w' ∧ E.le E' ∧ WRel C w0 E' H' w' ∧ Rep C E' r z := by
  unfold evDelete at h
  split at h
  · rename_i kt et l b ht
    split at h
    · rename_i hst
      have hkt := isStrT_eq hst
      obtain ⟨s, rfl, hs⟩ := rep_str hk
      obtain ⟨mm, rfl, hml⟩ := rep_map hm
      obtain ⟨t, ht0, ht1⟩ := Option.bind_eq_some_iff.1 ht
      split at h
      · rename_i es cl hb
        obtain ⟨mes, q2, q3, q4⟩ := map_same (m' := 0) hw hb hml
        split at h
        · rename_i i v n hf
          cases h
          rcases findK_ok hs q4 0 _ hf with ⟨e, _⟩ | ⟨k2, x2, n2, e2, h1, h2, h3, h4, h5, h6⟩
          · cases e
          · cases h1
            refine ⟨.tuple #[], E, { w with heap := w.heap.setIfInBounds mm (.map (mes.eraseIdxIfInBounds (0 + k2)) cl) }, ?_, Emb.le_refl _, ?_, .tuple _ _ .nil⟩
            · simp [Builtin.delete_, ht0, run_underlying ht1, Go.MapKept.run_getObj_map q3, run_checkKey hkt (show IsKey .string (.string s) from trivial), run_findKey hkt h6, Go.MapKept.run_setObj_map _ q3, Result.andThen]
            · refine hw.setMap hb hml q2 q3 ?_
              rw [Array.toList_eraseIdxIfInBounds]
              exact q4.erase _
        · rename_i hf
          cases h
          rcases findK_ok hs q4 0 _ hf with ⟨_, hfn⟩ | ⟨k2, x2, n2, e2, h1, _⟩
          · refine ⟨.tuple #[], E, { w with heap := w.heap.setIfInBounds mm (.map mes cl) }, ?_, Emb.le_refl _, hw.setMap hb hml q2 q3 q4, .tuple _ _ .nil⟩
            simp [Builtin.delete_, ht0, run_underlying ht1, Go.MapKept.run_getObj_map q3, run_checkKey hkt (show IsKey .string (.string s) from trivial), run_findKey hkt hfn, Go.MapKept.run_setObj_map _ q3, Result.andThen]
          · cases h1
        · cases h
      · cases h
    · cases h
  · cases h

theorem makeMap_ok (hw : WRel C w0 E H w) (hfree : H.blk H.next = none) {t : TypeId} :
    ∃ z E' w', (Instr.makeMap t none).run P w = .ok z w' ∧ E.le E' ∧ WRel C w0 E' (H.push (.map [] 0)) w' ∧ Rep C E' (.map H.next) z := by
  obtain ⟨h1, h2⟩ := hw.newMap hfree
  exact ⟨.map (some w.heap.size), _, w.alloc (.map #[] 0), by simp [Instr.makeMap, newObj, Sem.run], h1, h2, .map _ _ (by simp [Emb.setM])⟩

theorem zero_made (z : Array Value) (n : Nat) : Builtin.zeroCells z n = madeCells z (n * z.size) := rfl

theorem clear_ok (hw : WRel C w0 E H w) {ts : Array TypeId} {ty : TypeId} {x r : AV} {xv : Value} {H' : Heap} (hx : Rep C E x xv) (h : evClear P H ts x = some (r, H')) :
    ∃ z E' w', (Builtin.clear_ ts ty #[xv]).run P w = .ok z w' ∧ E.le E' ∧ WRel C w0 E' H' w' ∧ Rep C E' r z := by
  unfold evClear at h
  split at h
  · rename_i kt et b ht
    obtain ⟨t, ht0, ht1⟩ := Option.bind_eq_some_iff.1 ht
    obtain ⟨mm, rfl, hml⟩ := rep_map hx
    split at h
    · rename_i es cl hb
      cases h
      obtain ⟨mes, q2, q3, q4⟩ := map_same (m' := 0) hw hb hml
      refine ⟨.tuple #[], E, { w with heap := w.heap.setIfInBounds mm (.map #[] cl) }, ?_, Emb.le_refl _, hw.setMap hb hml q2 q3 .nil, .tuple _ _ .nil⟩
      simp [Builtin.clear_, ht0, run_underlying ht1, Go.MapKept.run_getObj_map q3, Go.MapKept.run_setObj_map _ q3, Result.andThen]
    · cases h
  · rename_i e ht
    obtain ⟨t, ht0, ht1⟩ := Option.bind_eq_some_iff.1 ht
    cases h
    cases hx
    exact ⟨.tuple #[], E, w, by simp [Builtin.clear_, ht0, run_underlying ht1, Result.andThen], Emb.le_refl _, hw, .tuple _ _ .nil⟩
  · rename_i e ht
    obtain ⟨t, ht0, ht1⟩ := Option.bind_eq_some_iff.1 ht
    cases h
    cases hx
    exact ⟨.tuple #[], E, w, by simp [Builtin.clear_, ht0, run_underlying ht1, Result.andThen], Emb.le_refl _, hw, .tuple _ _ .nil⟩
  · rename_i e b off len cap ex g ht
    obtain ⟨t, ht0, ht1⟩ := Option.bind_eq_some_iff.1 ht
    cases hx with
    | slice _ _ _ _ _ _ L a rc hL h1 h2 h3 h4 h5 h6 h7 =>
      split at h
      · rename_i h0
        cases h
        subst h0
        exact ⟨.tuple #[], E, w, by simp [Builtin.clear_, ht0, run_underlying ht1, Result.andThen], Emb.le_refl _, hw, .tuple _ _ .nil⟩
      · rename_i h0
        split at h
        · rename_i s z ty' sz els gen wgen hs hz hb
          split at h
          · rename_i hc
            obtain ⟨rfl, rfl, hun, hzl, hcell, hlen⟩ := hc
            cases h
            obtain ⟨zv, hzr, hrep⟩ := run_zeroValue' (C := C) (E := E) w hz
            have hcs := rep_cells hrep hun
            have hsz : zv.cells.size = sz := by have := hcs.length; simp at this; omega
            have hmade := made_rep hcs len
            have ha := h6 (by omega)
            have hLsz : L.esz = sz := by
              obtain ⟨G', hG', hlok, _⟩ := hw.newest hb
              rw [hL] at hG'; cases hG'
              exact hlok.sz
            obtain ⟨q1, q2⟩ := setAll_ok (P := P) hw hb hL (new := List.replicate len z.cells) (k := off) h1 (by simpa using hlen) hmade (fun cs hc => by rw [(List.mem_replicate.1 hc).2]; exact hzl) (by simp [List.all_replicate, hcell])
            refine ⟨.tuple #[], E, _, ?_, Emb.le_refl _, q2, .tuple _ _ .nil⟩
            rw [ha, hLsz]
            obtain ⟨n, rfl⟩ : ∃ n, len = n + 1 := ⟨len - 1, by omega⟩
            simp [Builtin.clear_, ht0, run_underlying ht1, Result.andThen, hzr, zero_made, q1]
          · cases h
        · cases h
  · cases h

theorem strOf_push (s : ByteArray) (n : Int) (h : 0 ≤ n ∧ n < 256) : strOf (s.push (UInt8.ofNat n.toNat)) = strOf s ++ [n.toNat] := by
  simp only [strOf, ByteArray.push, Array.toList_push, List.map_append, List.map_cons, List.map_nil]
  congr 2
  simp
  omega

def stepByte (c : Value) (r : ByteArray) : Sem (ForInStep ByteArray) :=
  match c with
  | .int .u8 n => pure (.yield (r.push (UInt8.ofNat n.toNat)))
  | _ => do
    stuck "bytesToString: byte expected"
    pure (.yield r)

/-- The loop of a conversion from bytes to a string. -/
theorem run_bytes : ∀ (cells : List (List AV)) (bs : List Nat) (vs : List Value) (s : ByteArray), bytesOfCells cells = some bs → RepL C E cells.flatten vs →
    ∃ s', (forIn vs s stepByte).run P w = .ok s' w ∧ strOf s' = strOf s ++ bs
  | [], bs, vs, s, h, hr => by
    simp only [bytesOfCells, Option.some.injEq] at h
    subst h
    cases hr
    exact ⟨s, by simp, by simp⟩
  | c :: cells, bs, vs, s, h, hr => by
    match c, h with
    | [.int .u8 n], h =>
      simp only [bytesOfCells] at h
      split at h
      · rename_i hn
        obtain ⟨bs', hb, e⟩ := map_some_eq' h
        subst e
        simp only [List.flatten_cons, List.cons_append, List.nil_append] at hr
        cases hr with
        | cons _ v _ vs' h1 h2 =>
          obtain rfl := rep_int h1
          obtain ⟨s', q1, q2⟩ := run_bytes cells bs' vs' (s.push (UInt8.ofNat n.toNat)) hb h2
          refine ⟨s', ?_, by rw [q2, strOf_push s n hn]; simp⟩
          simp only [List.forIn_cons, stepByte, Sem.run_bind, Sem.run_pure, Result.andThen_ok]
          exact q1
      · cases h
where
  map_some_eq' {α β : Type} {o : Option α} {f : α → β} {r : β} (h : o.map f = some r) : ∃ a, o = some a ∧ f a = r := by
    cases o with
    | none => cases h
    | some a => exact ⟨a, rfl, by simpa using h⟩

theorem bytes_ok (hw : WRel C w0 E H w) {s d : TypeId} {x r : AV} {xv : Value} (hx : Rep C E x xv) (h : evBytes P H s d x = some r) : ∃ z, (convert s d xv).run P w = .ok z w ∧ Rep C E r z := by
  unfold evBytes at h
  split at h
  · rename_i e hs hd
    split at h
    · rename_i b off len cap ex g he
      cases hel : H.elems 1 len (.slice b off len cap ex g) with
      | none => simp [hel] at h
      | some cells =>
        simp only [hel, Option.bind_some] at h
        cases hb : bytesOfCells cells with
        | none => simp [hb] at h
        | some bs =>
          simp only [hb, Option.map_some, Option.some.injEq] at h
          subst h
          obtain ⟨vs, h1, h2, h3, h4⟩ := elems_ok (P := P) hw hel hx
          have h5 := h4 w (fun _ => rfl)
          cases hx with
          | slice _ _ _ _ _ _ L a rc hL g1 g2 g3 g4 g5 g6 g7 =>
            simp only [Builtin.firstCells, Nat.mul_one] at h5
            obtain ⟨s', q1, q2⟩ := run_bytes (P := P) (w := w) cells bs vs ByteArray.empty hb h1
            refine ⟨.string s', ?_, .str _ _ (by rw [q2]; simp [strOf])⟩
            simp only [convert, Sem.run_bind, run_underlying hs, run_underlying hd, run_underlying he, Result.andThen_ok, Conv.bytesToString, h5, ← Array.forIn_toList]
            have q3 : (forIn vs ByteArray.empty stepByte : Sem ByteArray) = (forIn vs ByteArray.empty fun c r =>
                match c with
                | .int .u8 n => pure (.yield (r.push (UInt8.ofNat n.toNat)))
                | _ => do
                  stuck "bytesToString: byte expected"
                  pure (.yield r)) := rfl
            rw [q3] at q1
            exact (congrArg (fun x => Result.andThen x fun a w' => Sem.run P (pure (Value.string a)) w') q1).trans (by simp)
    · cases h
  · cases h

end
end Go.Ev
