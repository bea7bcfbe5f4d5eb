import Derived.Test.YtlllflmjpclobaaEa
import Derived.MapKept
import Derived.WideKeyMaps
import Derived.DeepKeys3
import Derived.Laws.IdiomStrings
import Derived.Calls
import Derived.Scope
import GoSem.ClaimJoined
import Derived.Orders
import Derived.IntWalk
set_option linter.unusedVariables false
set_option linter.unusedSimpArgs false
section
set_option linter.unusedVariables false
set_option linter.unusedSimpArgs false
namespace Go.Ev
open Go.MapKept
section
variable {P : Program} {C : Mem} {w0 : World} {E : Emb} {H : Heap} {w : World}

/-! ### A map's block is written, or made -/

theorem chg_setMap {m : Nat} {mes : Array MapEntry} {cl : Nat} (hh : w.heap[m]? = some (.map mes cl)) (mes' : Array MapEntry) (cl' : Nat) :
    Chg w { w with heap := w.heap.setIfInBounds m (.map mes' cl') } (fun b _ => b = m) := by
  obtain ⟨h1, h2⟩ := heap_set (o' := .map mes' cl') hh
  refine ⟨rfl, rfl, rfl, by simp, fun b o _ hn => ?_, fun b o _ hs => ?_, fun b o _ => ?_, fun k _ hn => h2 k (hn 0)⟩
  · simp only [World.cell?]; rw [h2 b hn]
  · by_cases hb : b = m
    · subst hb
      simp [World.cell?, hh] at hs
    · simp only [World.cell?] at hs ⊢; rw [h2 b hb]; exact hs
  · by_cases hb : b = m
    · subst hb
      simp only [World.frozen?, h1, hh]
    · simp only [World.frozen?]; rw [h2 b hb]

theorem WRel.setMap (h : WRel C w0 E H w) {b m : Nat} {es es' : List (AV × AV × Nat)} {cl cl' : Nat} {mes mes' : Array MapEntry} (hb : H.blk b = some (.map es cl)) (hm : E.mloc b = some m) (hbase : w0.heap.size ≤ m)
    (hh : w.heap[m]? = some (.map mes cl)) (hr : RepK C E es' mes'.toList) : WRel C w0 E (H.set b (.map es' cl')) { w with heap := w.heap.setIfInBounds m (.map mes' cl') } := by
  have hc := chg_setMap hh mes' cl'
  obtain ⟨h1, h2⟩ := heap_set (o' := .map mes' cl') hh
  constructor
  · exact below_chg h.below hc (fun c o e => by rw [e]; exact hbase)
  · intro c o v hv
    obtain ⟨q1, q2⟩ := h.mem c o v hv
    have hne : c ≠ m := fun e => by subst e; rw [map_not_cells hh] at q2; cases q2
    exact ⟨Nat.lt_of_lt_of_le q1 hc.size, by rw [hc.cell c o q1 hne]; exact q2⟩
  · intro c g L hL
    obtain ⟨d1, d2, d3⟩ := h.dom c g L hL
    refine ⟨Heap.set_ne d1, Nat.lt_of_lt_of_le d2 hc.size, fun ty esz els gen wgen hb' => ?_⟩
    by_cases hcb : c = b
    · subst hcb; rw [Heap.set_same] at hb'; cases hb'
    · rw [Heap.set_other _ _ _ hcb] at hb'; exact d3 _ _ _ _ _ hb'
  · exact fun c k hk => ⟨Heap.set_ne (h.mdom c k hk).1, Nat.lt_of_lt_of_le (h.mdom c k hk).2 hc.size⟩
  · intro c ty esz els gen wgen hb'
    by_cases hcb : c = b
    · subst hcb; rw [Heap.set_same] at hb'; cases hb'
    · rw [Heap.set_other _ _ _ hcb] at hb'
      have hrow := h.row _ _ _ _ _ _ hb'
      refine hrow.chg hc (Emb.le_refl _) (fun g L g1 g2 hL o o1 o2 hs => ?_)
      obtain ⟨L', hL', hl⟩ := hrow.loc g g1 g2
      rw [hL] at hL'; cases hL'
      have := (hl.shape o (by have := hl.room; omega)).1
      rw [hs, map_not_cells hh] at this
      cases this
  · intro c es2 cl2 hb'
    by_cases hcb : c = b
    · subst hcb
      rw [Heap.set_same] at hb'; cases hb'
      exact ⟨m, mes', hm, hbase, h1, hr⟩
    · rw [Heap.set_other _ _ _ hcb] at hb'
      obtain ⟨m2, es3, q1, q2, q3, q4⟩ := h.map c es2 cl2 hb'
      have hne : m2 ≠ m := fun e => hcb (h.msep _ _ _ (e ▸ q1) hm)
      exact ⟨m2, es3, q1, q2, by rw [h2 m2 hne]; exact q3, q4⟩
  · exact h.sep
  · exact h.msep
  · exact h.memsep

def Emb.setM (E : Emb) (b m : Nat) : Emb := ⟨E.loc, fun b' => if b' = b then some m else E.mloc b'⟩

theorem WRel.newMap (h : WRel C w0 E H w) (hfree : H.blk H.next = none) :
    E.le (E.setM H.next w.heap.size) ∧ WRel C w0 (E.setM H.next w.heap.size) (H.push (.map [] 0)) (w.alloc (.map #[] 0)) := by
  have hc : Chg w (w.alloc (.map #[] 0)) (fun _ _ => False) := Chg.alloc w _ _
  have hnone : E.mloc H.next = none := by
    cases hx : E.mloc H.next with
    | none => rfl
    | some m => exact absurd hfree (h.mdom _ _ hx).1
  have hle : E.le (E.setM H.next w.heap.size) := ⟨fun _ _ _ q => q, fun b m q => by
    simp only [Emb.setM]
    split
    · rename_i e; subst e; rw [hnone] at q; cases q
    · exact q⟩
  refine ⟨hle, ?_⟩
  have h0 := h.chg hc (fun _ _ hf => hf)
  have hset : ∀ b m, (E.setM H.next w.heap.size).mloc b = some m → (b = H.next ∧ m = w.heap.size) ∨ E.mloc b = some m := fun b m q => by
    simp only [Emb.setM] at q
    split at q
    · rename_i e; cases q; exact .inl ⟨e, rfl⟩
    · exact .inr q
  constructor
  · exact h0.below
  · exact h0.mem
  · intro b g L hL
    obtain ⟨d1, d2, d3⟩ := h0.dom b g L hL
    have hbn : b ≠ H.next := fun e => d1 (e ▸ hfree)
    refine ⟨by simp only [Heap.push]; rw [if_neg hbn]; exact d1, d2, fun ty esz els gen wgen hb => ?_⟩
    simp only [Heap.push] at hb
    rw [if_neg hbn] at hb
    exact d3 _ _ _ _ _ hb
  · intro b m hm
    rcases hset b m hm with ⟨rfl, rfl⟩ | hm
    · exact ⟨by simp [Heap.push], by simp⟩
    · have hbn : b ≠ H.next := fun e => (h0.mdom b m hm).1 (e ▸ hfree)
      exact ⟨by simp only [Heap.push]; rw [if_neg hbn]; exact (h0.mdom b m hm).1, (h0.mdom b m hm).2⟩
  · intro b ty esz els gen wgen hb
    simp only [Heap.push] at hb
    split at hb
    · cases hb
    · exact (h0.row b _ _ _ _ _ hb).chg (Chg.refl _ (fun _ _ => False)) hle (fun _ _ _ _ _ _ _ _ hf => hf)
  · intro b es cl hb
    simp only [Heap.push] at hb
    split at hb
    · rename_i e
      subst e
      cases hb
      exact ⟨w.heap.size, #[], by simp [Emb.setM], h.below.size, (heap_alloc w _).1, .nil⟩
    · obtain ⟨m, es', q1, q2, q3, q4⟩ := h0.map b es cl hb
      exact ⟨m, es', hle.2 _ _ q1, q2, q3, q4.mono (Mem.le_refl _) hle⟩
  · exact h0.sep
  · intro b m b' hx hy
    rcases hset b m hx with ⟨rfl, rfl⟩ | hx' <;> rcases hset b' _ hy with ⟨rfl, e⟩ | hy'
    · rfl
    · have := (h.mdom _ _ hy').2; omega
    · have := (h.mdom _ _ hx').2; omega
    · exact h.msep _ _ _ hx' hy'
  · exact h0.memsep

/-! ### Entries -/

theorem RepK.get {es : List (AV × AV × Nat)} {mes : List MapEntry} (h : RepK C E es mes) : ∀ (i : Nat) k x n, es[i]? = some (k, x, n) → ∃ e, mes[i]? = some e ∧ Rep C E k e.key ∧ Rep C E x e.val ∧ e.born = n := by
  induction h with
  | nil => intro i k x n h; simp at h
  | cons k x n e as es hk hx hn _ ih =>
    intro i k' x' n' h
    cases i with
    | zero => simp at h; obtain ⟨rfl, rfl, rfl⟩ := h; exact ⟨e, rfl, hk, hx, hn⟩
    | succ i => simpa using ih i k' x' n' (by simpa using h)

theorem RepK.set {es : List (AV × AV × Nat)} {mes : List MapEntry} (h : RepK C E es mes) {k x : AV} {n : Nat} {e : MapEntry} (hk : Rep C E k e.key) (hx : Rep C E x e.val) (hn : e.born = n) : ∀ (i : Nat), RepK C E (es.set i (k, x, n)) (mes.set i e) := by
  induction h with
  | nil => intro i; exact .nil
  | cons k' x' n' e' as es hk' hx' hn' h' ih =>
    intro i
    cases i with
    | zero => exact .cons _ _ _ _ _ _ hk hx hn h'
    | succ i => exact .cons _ _ _ _ _ _ hk' hx' hn' (ih i)

theorem RepK.erase {es : List (AV × AV × Nat)} {mes : List MapEntry} (h : RepK C E es mes) : ∀ (i : Nat), RepK C E (es.eraseIdx i) (mes.eraseIdx i) := by
  induction h with
  | nil => intro i; exact .nil
  | cons k' x' n' e' as es hk' hx' hn' h' ih =>
    intro i
    cases i with
    | zero => exact h'
    | succ i => exact .cons _ _ _ _ _ _ hk' hx' hn' (ih i)

theorem RepK.snoc {es : List (AV × AV × Nat)} {mes : List MapEntry} (h : RepK C E es mes) {k x : AV} {n : Nat} {e : MapEntry} (hk : Rep C E k e.key) (hx : Rep C E x e.val) (hn : e.born = n) : RepK C E (es ++ [(k, x, n)]) (mes ++ [e]) := by
  induction h with
  | nil => exact .cons _ _ _ _ _ _ hk hx hn .nil
  | cons k' x' n' e' as es hk' hx' hn' h' ih => exact .cons _ _ _ _ _ _ hk' hx' hn' ih

theorem sameNow_str {l k : List Nat} {s s' : ByteArray} (h : strOf s = l) (h' : strOf s' = k) : Instr.sameNow .string (.string s) (.string s') = some (decide (l = k)) := by
  simp only [Instr.sameNow, Option.some.injEq]
  by_cases e : l = k
  · have : s = s' := strOf_inj (by rw [h, h', e])
    rw [decide_eq_true e]; exact (bytes_beq s s').2 this
  · rw [decide_eq_false e]
    cases hb : (s == s') with
    | false => rfl
    | true => exact absurd (by rw [← h, ← h', (bytes_beq s s').1 hb]) e

theorem findK_ok {l : List Nat} {s : ByteArray} (hs : strOf s = l) {es : List (AV × AV × Nat)} {mes : List MapEntry} (h : RepK C E es mes) : ∀ (i : Nat) (r : Option (Nat × AV × Nat)), findK l es i = some r →
    (r = none ∧ Instr.findNow .string (.string s) mes i = some none) ∨
    ∃ k x n e, r = some (i + k, x, n) ∧ mes[k]? = some e ∧ e.key = .string s ∧ Rep C E x e.val ∧ e.born = n ∧ Instr.findNow .string (.string s) mes i = some (some (i + k, e.val)) := by
  induction h with
  | nil => intro i r h; simp only [findK, Option.some.injEq] at h; exact .inl ⟨h.symm, rfl⟩
  | cons k x n e as es hk hx hn h' ih =>
    intro i r h
    match k, hk, h with
    | .str kk, hk, h =>
      obtain ⟨s', hs1, hs2⟩ := rep_str hk
      simp only [findK] at h
      have hsn := sameNow_str hs hs2
      split at h
      · rename_i heq
        cases h
        refine .inr ⟨0, x, n, e, rfl, rfl, ?_, hx, hn, ?_⟩
        · rw [hs1]; congr 1; exact (strOf_inj (by rw [hs, hs2, heq])).symm
        · simp only [Instr.findNow, hs1, hsn, decide_eq_true heq]; rfl
      · rename_i hne
        rcases ih (i + 1) r h with ⟨h1, h2⟩ | ⟨k2, x2, n2, e2, h1, h2, h3, h4, h5, h6⟩
        · exact .inl ⟨h1, by simp only [Instr.findNow, hs1, hsn, decide_eq_false hne]; exact h2⟩
        · refine .inr ⟨k2 + 1, x2, n2, e2, by rw [h1, show i + 1 + k2 = i + (k2 + 1) by omega], by simpa using h2, h3, h4, h5, ?_⟩
          simp only [Instr.findNow, hs1, hsn, decide_eq_false hne]
          rw [h6, show i + 1 + k2 = i + (k2 + 1) by omega]
    | .undef, _, h | .bool _, _, h | .int _ _, _, h | .nilptr, _, h | .ptr .., _, h | .iptr .., _, h | .nilslice, _, h | .eslice, _, h | .slice .., _, h | .lst .., _, h | .agg _, _, h | .tuple _, _, h | .nilIface, _, h | .iface .., _, h | .nilFunc, _, h
    | .func .., _, h | .nilMap, _, h | .map _, _, h => simp [findK] at h

theorem isStrT_eq {t : TypeId} (h : isStrT P t = true) : P.underlying t = some .string := by
  unfold isStrT at h
  split at h
  · assumption
  · cases h

theorem rep_map {b : Nat} {v : Value} (h : Rep C E (.map b) v) : ∃ m, v = .map (some m) ∧ E.mloc b = some m := by
  cases h; exact ⟨_, rfl, by assumption⟩
theorem rep_nilMap {v : Value} (h : Rep C E .nilMap v) : v = .map none := by cases h; rfl

theorem map_same {b m m' : Nat} {es : List (AV × AV × Nat)} {cl : Nat} (hw : WRel C w0 E H w) (hb : H.blk b = some (.map es cl)) (hm : E.mloc b = some m) :
    ∃ mes, w0.heap.size ≤ m ∧ w.heap[m]? = some (.map mes cl) ∧ RepK C E es mes.toList := by
  obtain ⟨m2, mes, q1, q2, q3, q4⟩ := hw.map b es cl hb
  rw [hm] at q1; cases q1
  exact ⟨mes, q2, q3, q4⟩

theorem lookup_ok (hw : WRel C w0 E H w) {t : TypeId} {m k r : AV} {ok : Bool} {mv kv : Value} (hm : Rep C E m mv) (hk : Rep C E k kv) (h : evLookup P H t m k ok = some r) :
    ∃ z, (Instr.lookup t mv kv ok).run P w = .ok z w ∧ Rep C E r z := by
  unfold evLookup at h
  split at h
  · rename_i kt et l ht
    split at h
    · rename_i hst
      have hkt := isStrT_eq hst
      obtain ⟨s, rfl, hs⟩ := rep_str hk
      have miss : ∀ {z : AV}, zeroOf P et = some z → ∀ (zs : Array MapEntry), Instr.findNow .string (.string s) zs.toList 0 = some none → (hget : ∀ q : mv = .map none, zs = #[]) →
          (∀ mm, mv = .map (some mm) → ∃ cl, w.heap[mm]? = some (.map zs cl)) → (mv = .map none ∨ ∃ mm, mv = .map (some mm)) →
          ∃ v, (Instr.lookup t mv (.string s) ok).run P w = .ok v w ∧ Rep C E (if ok = true then .tuple [z, .bool false] else z) v := by
        intro z hz zs hf hnil hmap hcase
        obtain ⟨zv, hzr, hrep⟩ := run_zeroValue' (C := C) (E := E) w hz
        refine ⟨if ok = true then .tuple #[zv, .bool false] else zv, ?_, ?_⟩
        · rcases hcase with rfl | ⟨mm, rfl⟩
          · obtain rfl := hnil rfl
            simp [Instr.lookup, run_underlying ht, run_checkKey hkt (show IsKey .string (.string s) from trivial), run_findKey hkt hf, hzr, Result.andThen]
          · obtain ⟨cl, hh⟩ := hmap mm rfl
            simp [Instr.lookup, run_underlying ht, Go.MapKept.run_getObj_map hh, run_checkKey hkt (show IsKey .string (.string s) from trivial), run_findKey hkt hf, hzr, Result.andThen]
        · cases ok
          · exact hrep
          · exact .tuple _ _ (.cons _ _ _ _ hrep (.cons _ _ _ _ (.bool _) .nil))
      split at h
      · obtain rfl := rep_nilMap hm
        cases hz : zeroOf P et with
        | none => simp [hz] at h
        | some z =>
          simp only [hz, Option.map_some, Option.some.injEq] at h
          subst h
          exact miss hz #[] rfl (fun _ => rfl) (fun mm e => by cases e) (.inl rfl)
      · rename_i b
        obtain ⟨mm, rfl, hml⟩ := rep_map hm
        split at h
        · rename_i es cl hb
          obtain ⟨mes, q2, q3, q4⟩ := map_same (m' := 0) hw hb hml
          split at h
          · rename_i i v n hf
            cases h
            rcases findK_ok hs q4 0 _ hf with ⟨e, _⟩ | ⟨k2, x2, n2, e2, h1, h2, h3, h4, h5, h6⟩
            · cases e
            · cases h1
              refine ⟨if ok = true then .tuple #[e2.val, .bool true] else e2.val, ?_, ?_⟩
              · simp [Instr.lookup, run_underlying ht, Go.MapKept.run_getObj_map q3, run_checkKey hkt (show IsKey .string (.string s) from trivial), run_findKey hkt h6, Result.andThen]
              · cases ok
                · exact h4
                · exact .tuple _ _ (.cons _ _ _ _ h4 (.cons _ _ _ _ (.bool _) .nil))
          · rename_i hf
            rcases findK_ok hs q4 0 _ hf with ⟨_, hfn⟩ | ⟨k2, x2, n2, e2, h1, _⟩
            · cases hz : zeroOf P et with
              | none => simp [hz] at h
              | some z =>
                simp only [hz, Option.map_some, Option.some.injEq] at h
                subst h
                exact miss hz mes hfn (fun q => by cases q) (fun mm2 e => by cases e; exact ⟨cl, q3⟩) (.inr ⟨_, rfl⟩)
            · cases h1
          · cases h
        · cases h
      · cases h
    · cases h
  · cases h

theorem keeps_key {s : ByteArray} : (Instr.keyThatStays (.string s) (.string s)).run P w = .ok (.string s) w := run_keyThatStays (d := .string) trivial

theorem modify_toList {es : Array MapEntry} {i : Nat} {e : MapEntry} (f : MapEntry → MapEntry) (h : es.toList[i]? = some e) : (es.modify i f).toList = es.toList.set i (f e) := by
  rw [Array.toList_modify]
  apply List.ext_getElem?
  intro j
  rw [List.getElem?_modify, List.getElem?_set]
  by_cases hj : i = j
  · subst hj
    rw [if_pos rfl, if_pos (List.getElem?_eq_some_iff.1 h).1, h]
    simp
  · rw [if_neg hj]
    simp [hj]

theorem mapUpdate_ok (hw : WRel C w0 E H w) {t : TypeId} {m k x : AV} {mv kv xv : Value} {H' : Heap} (hm : Rep C E m mv) (hk : Rep C E k kv) (hx : Rep C E x xv) (h : evMapUpdate P H t m k x = some H') :
    ∃ w', (Instr.mapUpdate t mv kv xv).run P w = .ok () w' ∧ WRel C w0 E H' w' := by
  unfold evMapUpdate at h
  split at h
  · rename_i kt et l b ht
    split at h
    · rename_i hst
      have hkt := isStrT_eq hst
      obtain ⟨s, rfl, hs⟩ := rep_str hk
      obtain ⟨mm, rfl, hml⟩ := rep_map hm
      split at h
      · rename_i es cl hb
        obtain ⟨mes, q2, q3, q4⟩ := map_same (m' := 0) hw hb hml
        split at h
        · rename_i i v n hf
          cases h
          rcases findK_ok hs q4 0 _ hf with ⟨e, _⟩ | ⟨k2, x2, n2, e2, h1, h2, h3, h4, h5, h6⟩
          · cases e
          · cases h1
            have hm2 : mes[0 + k2]? = some e2 := by simpa using h2
            refine ⟨{ w with heap := w.heap.setIfInBounds mm (.map (mes.modify (0 + k2) fun e => { e with key := .string s, val := xv }) cl) }, ?_, ?_⟩
            · simp [Instr.mapUpdate, run_underlying ht, Go.MapKept.run_getObj_map q3, run_checkKey hkt (show IsKey .string (.string s) from trivial), run_findKey hkt h6, Result.andThen]
              rw [Nat.zero_add] at hm2
              simp [hm2, h3, keeps_key, Go.MapKept.run_setObj_map _ q3]
            · refine hw.setMap hb hml q2 q3 ?_
              rw [modify_toList _ (by simpa using h2)]
              exact q4.set (e := { e2 with key := .string s, val := xv }) (.str _ _ hs) hx h5 _
        · rename_i hf
          cases h
          rcases findK_ok hs q4 0 _ hf with ⟨_, hfn⟩ | ⟨k2, x2, n2, e2, h1, _⟩
          · refine ⟨{ w with heap := w.heap.setIfInBounds mm (.map (mes.push { key := .string s, val := xv, born := cl }) (cl + 1)) }, ?_, ?_⟩
            · simp [Instr.mapUpdate, run_underlying ht, Go.MapKept.run_getObj_map q3, run_checkKey hkt (show IsKey .string (.string s) from trivial), run_findKey hkt hfn, Go.MapKept.run_setObj_map _ q3, Result.andThen]
            · refine hw.setMap hb hml q2 q3 ?_
              rw [Array.toList_push]
              exact q4.snoc (e := { key := .string s, val := xv, born := cl }) (.str _ _ hs) hx rfl
          · cases h1
        · cases h
      · cases h
    · cases h
  · cases h

theorem delete_ok (hw : WRel C w0 E H w) {ts : Array TypeId} {ty : TypeId} {m k r : AV} {mv kv : Value} {H' : Heap} (hm : Rep C E m mv) (hk : Rep C E k kv) (h : evDelete P H ts m k = some (r, H')) :
    ∃ z E' w', (Builtin.delete_ ts ty #[mv, kv]).run P w = .ok z w' ∧ E.le E' ∧ WRel C w0 E' H' w' ∧ Rep C E' r z := by
  unfold evDelete at h
  split at h
  · rename_i kt et l b ht
    split at h
    · rename_i hst
      have hkt := isStrT_eq hst
      obtain ⟨s, rfl, hs⟩ := rep_str hk
      obtain ⟨mm, rfl, hml⟩ := rep_map hm
      obtain ⟨t, ht0, ht1⟩ := Option.bind_eq_some_iff.1 ht
      split at h
      · rename_i es cl hb
        obtain ⟨mes, q2, q3, q4⟩ := map_same (m' := 0) hw hb hml
        split at h
        · rename_i i v n hf
          cases h
          rcases findK_ok hs q4 0 _ hf with ⟨e, _⟩ | ⟨k2, x2, n2, e2, h1, h2, h3, h4, h5, h6⟩
          · cases e
          · cases h1
            refine ⟨.tuple #[], E, { w with heap := w.heap.setIfInBounds mm (.map (mes.eraseIdxIfInBounds (0 + k2)) cl) }, ?_, Emb.le_refl _, ?_, .tuple _ _ .nil⟩
            · simp [Builtin.delete_, ht0, run_underlying ht1, Go.MapKept.run_getObj_map q3, run_checkKey hkt (show IsKey .string (.string s) from trivial), run_findKey hkt h6, Go.MapKept.run_setObj_map _ q3, Result.andThen]
            · refine hw.setMap hb hml q2 q3 ?_
              rw [Array.toList_eraseIdxIfInBounds]
              exact q4.erase _
        · rename_i hf
          cases h
          rcases findK_ok hs q4 0 _ hf with ⟨_, hfn⟩ | ⟨k2, x2, n2, e2, h1, _⟩
          · refine ⟨.tuple #[], E, { w with heap := w.heap.setIfInBounds mm (.map mes cl) }, ?_, Emb.le_refl _, hw.setMap hb hml q2 q3 q4, .tuple _ _ .nil⟩
            simp [Builtin.delete_, ht0, run_underlying ht1, Go.MapKept.run_getObj_map q3, run_checkKey hkt (show IsKey .string (.string s) from trivial), run_findKey hkt hfn, Go.MapKept.run_setObj_map _ q3, Result.andThen]
          · cases h1
        · cases h
      · cases h
    · cases h
  · cases h

theorem makeMap_ok (hw : WRel C w0 E H w) (hfree : H.blk H.next = none) {t : TypeId} :
    ∃ z E' w', (Instr.makeMap t none).run P w = .ok z w' ∧ E.le E' ∧ WRel C w0 E' (H.push (.map [] 0)) w' ∧ Rep C E' (.map H.next) z := by
  obtain ⟨h1, h2⟩ := hw.newMap hfree
  exact ⟨.map (some w.heap.size), _, w.alloc (.map #[] 0), by simp [Instr.makeMap, newObj, Sem.run], h1, h2, .map _ _ (by simp [Emb.setM])⟩

theorem zero_made (z : Array Value) (n : Nat) : Builtin.zeroCells z n = madeCells z (n * z.size) := rfl

theorem clear_ok (hw : WRel C w0 E H w) {ts : Array TypeId} {ty : TypeId} {x r : AV} {xv : Value} {H' : Heap} (hx : Rep C E x xv) (h : evClear P H ts x = some (r, H')) :
    ∃ z E' w', (Builtin.clear_ ts ty #[xv]).run P w = .ok z w' ∧ E.le E' ∧ WRel C w0 E' H' w' ∧ Rep C E' r z := by
  unfold evClear at h
  split at h
  · rename_i kt et b ht
    obtain ⟨t, ht0, ht1⟩ := Option.bind_eq_some_iff.1 ht
    obtain ⟨mm, rfl, hml⟩ := rep_map hx
    split at h
    · rename_i es cl hb
      cases h
      obtain ⟨mes, q2, q3, q4⟩ := map_same (m' := 0) hw hb hml
      refine ⟨.tuple #[], E, { w with heap := w.heap.setIfInBounds mm (.map #[] cl) }, ?_, Emb.le_refl _, hw.setMap hb hml q2 q3 .nil, .tuple _ _ .nil⟩
      simp [Builtin.clear_, ht0, run_underlying ht1, Go.MapKept.run_getObj_map q3, Go.MapKept.run_setObj_map _ q3, Result.andThen]
    · cases h
  · rename_i e ht
    obtain ⟨t, ht0, ht1⟩ := Option.bind_eq_some_iff.1 ht
    cases h
    cases hx
    exact ⟨.tuple #[], E, w, by simp [Builtin.clear_, ht0, run_underlying ht1, Result.andThen], Emb.le_refl _, hw, .tuple _ _ .nil⟩
  · rename_i e ht
    obtain ⟨t, ht0, ht1⟩ := Option.bind_eq_some_iff.1 ht
    cases h
    cases hx
    exact ⟨.tuple #[], E, w, by simp [Builtin.clear_, ht0, run_underlying ht1, Result.andThen], Emb.le_refl _, hw, .tuple _ _ .nil⟩
  · rename_i e b off len cap ex g ht
    obtain ⟨t, ht0, ht1⟩ := Option.bind_eq_some_iff.1 ht
    cases hx with
    | slice _ _ _ _ _ _ L a rc hL h1 h2 h3 h4 h5 h6 h7 =>
      split at h
      · rename_i h0
        cases h
        subst h0
        exact ⟨.tuple #[], E, w, by simp [Builtin.clear_, ht0, run_underlying ht1, Result.andThen], Emb.le_refl _, hw, .tuple _ _ .nil⟩
      · rename_i h0
        split at h
        · rename_i s z ty' sz els gen wgen hs hz hb
          split at h
          · rename_i hc
            obtain ⟨rfl, rfl, hun, hzl, hcell, hlen⟩ := hc
            cases h
            obtain ⟨zv, hzr, hrep⟩ := run_zeroValue' (C := C) (E := E) w hz
            have hcs := rep_cells hrep hun
            have hsz : zv.cells.size = sz := by have := hcs.length; simp at this; omega
            have hmade := made_rep hcs len
            have ha := h6 (by omega)
            have hLsz : L.esz = sz := by
              obtain ⟨G', hG', hlok, _⟩ := hw.newest hb
              rw [hL] at hG'; cases hG'
              exact hlok.sz
            obtain ⟨q1, q2⟩ := setAll_ok (P := P) hw hb hL (new := List.replicate len z.cells) (k := off) h1 (by simpa using hlen) hmade (fun cs hc => by rw [(List.mem_replicate.1 hc).2]; exact hzl) (by simp [List.all_replicate, hcell])
            refine ⟨.tuple #[], E, _, ?_, Emb.le_refl _, q2, .tuple _ _ .nil⟩
            rw [ha, hLsz]
            obtain ⟨n, rfl⟩ : ∃ n, len = n + 1 := ⟨len - 1, by omega⟩
            simp [Builtin.clear_, ht0, run_underlying ht1, Result.andThen, hzr, zero_made, q1]
          · cases h
        · cases h
  · cases h

theorem strOf_push (s : ByteArray) (n : Int) (h : 0 ≤ n ∧ n < 256) : strOf (s.push (UInt8.ofNat n.toNat)) = strOf s ++ [n.toNat] := by
  simp only [strOf, ByteArray.push, Array.toList_push, List.map_append, List.map_cons, List.map_nil]
  congr 2
  simp
  omega

def stepByte (c : Value) (r : ByteArray) : Sem (ForInStep ByteArray) :=
  match c with
  | .int .u8 n => pure (.yield (r.push (UInt8.ofNat n.toNat)))
  | _ => do
    stuck "bytesToString: byte expected"
    pure (.yield r)

/-- The loop of a conversion from bytes to a string. -/
theorem run_bytes : ∀ (cells : List (List AV)) (bs : List Nat) (vs : List Value) (s : ByteArray), bytesOfCells cells = some bs → RepL C E cells.flatten vs →
    ∃ s', (forIn vs s stepByte).run P w = .ok s' w ∧ strOf s' = strOf s ++ bs
  | [], bs, vs, s, h, hr => by
    simp only [bytesOfCells, Option.some.injEq] at h
    subst h
    cases hr
    exact ⟨s, by simp, by simp⟩
  | c :: cells, bs, vs, s, h, hr => by
    match c, h with
    | [.int .u8 n], h =>
      simp only [bytesOfCells] at h
      split at h
      · rename_i hn
        obtain ⟨bs', hb, e⟩ := map_some_eq' h
        subst e
        simp only [List.flatten_cons, List.cons_append, List.nil_append] at hr
        cases hr with
        | cons _ v _ vs' h1 h2 =>
          obtain rfl := rep_int h1
          obtain ⟨s', q1, q2⟩ := run_bytes cells bs' vs' (s.push (UInt8.ofNat n.toNat)) hb h2
          refine ⟨s', ?_, by rw [q2, strOf_push s n hn]; simp⟩
          simp only [List.forIn_cons, stepByte, Sem.run_bind, Sem.run_pure, Result.andThen_ok]
          exact q1
      · cases h
where
  map_some_eq' {α β : Type} {o : Option α} {f : α → β} {r : β} (h : o.map f = some r) : ∃ a, o = some a ∧ f a = r := by
    cases o with
    | none => cases h
    | some a => exact ⟨a, rfl, by simpa using h⟩

theorem bytes_ok (hw : WRel C w0 E H w) {s d : TypeId} {x r : AV} {xv : Value} (hx : Rep C E x xv) (h : evBytes P H s d x = some r) : ∃ z, (convert s d xv).run P w = .ok z w ∧ Rep C E r z := by
  unfold evBytes at h
  split at h
  · rename_i e hs hd
    split at h
    · rename_i b off len cap ex g he
      cases hel : H.elems 1 len (.slice b off len cap ex g) with
      | none => simp [hel] at h
      | some cells =>
        simp only [hel, Option.bind_some] at h
        cases hb : bytesOfCells cells with
        | none => simp [hb] at h
        | some bs =>
          simp only [hb, Option.map_some, Option.some.injEq] at h
          subst h
          obtain ⟨vs, h1, h2, h3, h4⟩ := elems_ok (P := P) hw hel hx
          have h5 := h4 w (fun _ => rfl)
          cases hx with
          | slice _ _ _ _ _ _ L a rc hL g1 g2 g3 g4 g5 g6 g7 =>
            simp only [Builtin.firstCells, Nat.mul_one] at h5
            obtain ⟨s', q1, q2⟩ := run_bytes (P := P) (w := w) cells bs vs ByteArray.empty hb h1
            refine ⟨.string s', ?_, .str _ _ (by rw [q2]; simp [strOf])⟩
            simp only [convert, Sem.run_bind, run_underlying hs, run_underlying hd, run_underlying he, Result.andThen_ok, Conv.bytesToString, h5, ← Array.forIn_toList]
            have q3 : (forIn vs ByteArray.empty stepByte : Sem ByteArray) = (forIn vs ByteArray.empty fun c r =>
                match c with
                | .int .u8 n => pure (.yield (r.push (UInt8.ofNat n.toNat)))
                | _ => do
                  stuck "bytesToString: byte expected"
                  pure (.yield r)) := rfl
            rw [q3] at q1
            exact (congrArg (fun x => Result.andThen x fun a w' => Sem.run P (pure (Value.string a)) w') q1).trans (by simp)
    · cases h
  · cases h

end
end Go.Ev
end
section
set_option linter.unusedVariables false
set_option linter.unusedSimpArgs false
namespace Go.Ev
open Go.MapKept Go.WideShapes

/-! ### Maps whose keys are structs of numbers and truth values -/

theorem valCell_ok {C : Mem} {E : Emb} {a : AV} {v u : Value} (h : Rep C E a v) (ha : valCell a = some u) : v = u := by
  cases h <;> simp [valCell] at ha <;> exact ha
theorem valCells_ok {C : Mem} {E : Emb} {as : List AV} {vs us : List Value} (h : RepL C E as vs) (ha : valCells as = some us) : vs = us := by
  induction as generalizing vs us with
  | nil => cases h; simp [valCells] at ha; exact ha.symm
  | cons a l ih =>
    cases h with
    | cons _ v _ vs' h1 h2 =>
      simp only [valCells] at ha
      split at ha
      · rename_i x xs q1 q2
        cases ha
        rw [valCell_ok h1 q1, ih h2 q2]
      · cases ha
theorem valOf_ok {C : Mem} {E : Emb} {a : AV} {v u : Value} (h : Rep C E a v) (ha : valOf a = some u) : v = u := by
  cases a <;> simp [valOf] at ha
  obtain ⟨vs, h1, rfl⟩ := ha
  cases h with
  | agg cs ws hw => rw [valCells_ok hw h1]
theorem rep_valCells {C : Mem} {E : Emb} : ∀ {as : List AV} {us : List Value}, valCells as = some us → RepL C E as us
  | [], us, h => by simp [valCells] at h; subst h; exact .nil
  | a :: l, us, h => by
    simp only [valCells] at h
    split at h
    · rename_i x xs q1 q2
      cases h
      refine .cons _ _ _ _ ?_ (rep_valCells q2)
      cases a <;> simp [valCell] at q1 <;> subst q1 <;> constructor
    · cases h

theorem eqCell_iff {a b : AV} {u v : Value} (ha : valCell a = some u) (hb : valCell b = some v) : eqCell a b = true ↔ u = v := by
  cases a <;> simp [valCell] at ha <;> cases b <;> simp [valCell] at hb <;> subst ha <;> subst hb <;> simp [eqCell]
theorem eqCells_iff : ∀ {as bs : List AV} {us vs : List Value}, valCells as = some us → valCells bs = some vs → (eqCells as bs = true ↔ us = vs)
  | [], [], us, vs, h, h' => by simp [valCells] at h h'; subst h; subst h'; simp [eqCells]
  | [], b :: m, us, vs, h, h' => by
    simp only [valCells] at h h'
    split at h' <;> cases h'; cases h; simp [eqCells]
  | a :: l, [], us, vs, h, h' => by
    simp only [valCells] at h h'
    split at h <;> cases h; cases h'; simp [eqCells]
  | a :: l, b :: m, us, vs, h, h' => by
    simp only [valCells] at h h'
    split at h
    · rename_i x xs q1 q2
      cases h
      split at h'
      · rename_i y ys q3 q4
        cases h'
        simp only [eqCells, Bool.and_eq_true, eqCell_iff q1 q3, eqCells_iff q2 q4, List.cons.injEq]
      · cases h'
    · cases h
theorem eqKey_iff {a b : AV} {u v : Value} (ha : valOf a = some u) (hb : valOf b = some v) : eqKey a b = true ↔ u = v := by
  cases a <;> simp [valOf] at ha
  cases b <;> simp [valOf] at hb
  obtain ⟨us, h1, rfl⟩ := ha
  obtain ⟨vs, h2, rfl⟩ := hb
  simp only [eqKey, eqCells_iff h1 h2]
  constructor
  · rintro rfl; rfl
  · intro h
    have := congrArg (fun v => match v with | Value.agg cs => cs.toList | _ => []) h
    simpa using this

section
variable {P : Program} {C : Mem} {w0 : World} {E : Emb} {H : Heap} {w : World}

theorem keyOk_spec {kt : TypeId} {a : AV} (h : (keyOk P kt a).isSome) : ∃ v l, valOf a = some v ∧ keyOf P kt v = some l := by
  unfold keyOk at h
  split at h
  · rename_i v hv
    split at h
    · rename_i hk
      obtain ⟨l, hl⟩ := Option.isSome_iff_exists.1 hk
      exact ⟨v, l, hv, hl⟩
    · cases h
  · cases h

theorem wideK_law {kt : TypeId} (h : wideK P kt = true) : WideMaps.KeyLaw P kt := by
  simp only [wideK, Bool.and_eq_true] at h
  exact deep_law (m := 100) (by omega) h.1.1 h.1.2 h.2

theorem repK_none {key : AV} {kv : Value} (hkv : valOf key = some kv) {es : List (AV × AV × Nat)} {mes : List MapEntry} (h : RepK C E es mes) (hall : ∀ e ∈ es, ∃ v, valOf e.1 = some v) (hn : es.all (fun e => !eqKey e.1 key) = true) :
    ∀ e ∈ mes, e.key ≠ kv := by
  induction h with
  | nil => simp
  | cons k x n e as es hk hx hb h' ih =>
    obtain ⟨v, hv⟩ := hall _ List.mem_cons_self
    have hek := valOf_ok hk hv
    simp only [List.all_cons, Bool.and_eq_true] at hn
    intro e' he'
    rcases List.mem_cons.1 he' with rfl | he'
    · intro q
      have := (eqKey_iff hv hkv).2 (by rw [← hek]; exact q)
      simp [this] at hn
    · exact ih (fun e' he' => hall e' (List.mem_cons_of_mem _ he')) hn.2 e' he'

/-- Where the key lies, if it does. -/
theorem findW_ok {key : AV} {kv : Value} (hkv : valOf key = some kv) {es : List (AV × AV × Nat)} {mes : List MapEntry} (h : RepK C E es mes) (hall : ∀ e ∈ es, ∃ v, valOf e.1 = some v) : ∀ (i : Nat), oneW key es = true →
    (findW key es i = none ∧ ∀ e ∈ mes, e.key ≠ kv) ∨ ∃ j x n e, findW key es i = some (i + j, x, n) ∧ mes[j]? = some e ∧ e.key = kv ∧ Rep C E x e.val ∧ e.born = n ∧ ∀ j' e', mes[j']? = some e' → e'.key = kv → j' = j := by
  induction h with
  | nil => intro i _; exact .inl ⟨rfl, by simp⟩
  | cons k x n e as es hk hx hn h' ih =>
    intro i hone
    obtain ⟨v, hv⟩ := hall _ List.mem_cons_self
    have hek := valOf_ok hk hv
    have hall' : ∀ e ∈ as, ∃ v, valOf e.1 = some v := fun e' he' => hall e' (List.mem_cons_of_mem _ he')
    simp only [findW]
    simp only [oneW] at hone
    by_cases he : eqKey k key = true
    · rw [if_pos he]
      rw [if_pos he] at hone
      have hno := repK_none hkv h' hall' hone
      refine .inr ⟨0, x, n, e, rfl, rfl, by rw [hek]; exact (eqKey_iff hv hkv).1 he, hx, hn, fun j' e' hj hk' => ?_⟩
      cases j' with
      | zero => rfl
      | succ j' => exact absurd hk' (hno e' (List.mem_of_getElem? (by simpa using hj)))
    · rw [if_neg he]
      rw [if_neg he] at hone
      have hne : e.key ≠ kv := fun q => he ((eqKey_iff hv hkv).2 (by rw [← hek]; exact q))
      rcases ih hall' (i + 1) hone with ⟨h1, h2⟩ | ⟨j, y, m, e2, h1, h2, h3, h4, h5, h6⟩
      · exact .inl ⟨h1, fun e' he' => by
          rcases List.mem_cons.1 he' with rfl | he'
          · exact hne
          · exact h2 e' he'⟩
      · refine .inr ⟨j + 1, y, m, e2, by rw [h1, show i + 1 + j = i + (j + 1) by omega], by simpa using h2, h3, h4, h5, fun j' e' hj hk' => ?_⟩
        cases j' with
        | zero => simp at hj; subst hj; exact absurd hk' hne
        | succ j' => rw [h6 j' e' (by simpa using hj) hk']

theorem keys_of {kt : TypeId} {es : List (AV × AV × Nat)} {mes : List MapEntry} (h : RepK C E es mes) (hall : es.all (fun e => (keyOk P kt e.1).isSome) = true) : (∀ e ∈ es, ∃ v, valOf e.1 = some v) ∧ ∀ e ∈ mes, ∃ l, keyOf P kt e.key = some l := by
  induction h with
  | nil => exact ⟨by simp, by simp⟩
  | cons k x n e as es hk hx hb h' ih =>
    simp only [List.all_cons, Bool.and_eq_true] at hall
    obtain ⟨v, l, h1, h2⟩ := keyOk_spec hall.1
    obtain ⟨i1, i2⟩ := ih hall.2
    refine ⟨fun e' he' => ?_, fun e' he' => ?_⟩
    · rcases List.mem_cons.1 he' with rfl | he'
      · exact ⟨v, h1⟩
      · exact i1 e' he'
    · rcases List.mem_cons.1 he' with rfl | he'
      · exact ⟨l, by rw [valOf_ok hk h1]; exact h2⟩
      · exact i2 e' he'

theorem lookupW_ok (hw : WRel C w0 E H w) {t : TypeId} {m k r : AV} {ok : Bool} {mv kv : Value} (hm : Rep C E m mv) (hk : Rep C E k kv) (h : evLookupW P H t m k ok = some r) :
    ∃ z, (Instr.lookup t mv kv ok).run P w = .ok z w ∧ Rep C E r z := by
  unfold evLookupW at h
  split at h
  · rename_i kt et ht
    split at h
    · rename_i hc
      have K := wideK_law hc.1
      obtain ⟨v, l, hv, hl⟩ := keyOk_spec hc.2
      obtain rfl := valOf_ok hk hv
      have miss : ∀ {z : AV}, zeroOf P et = some z → ∀ (zs : Array MapEntry), (Instr.findKey kt kv zs.toList).run P w = .ok none w → (mv = .map none → zs = #[]) →
          (∀ mm, mv = .map (some mm) → ∃ cl, w.heap[mm]? = some (.map zs cl)) → (mv = .map none ∨ ∃ mm, mv = .map (some mm)) →
          ∃ v, (Instr.lookup t mv kv ok).run P w = .ok v w ∧ Rep C E (if ok = true then .tuple [z, .bool false] else z) v := by
        intro z hz zs hf hnil hmap hcase
        obtain ⟨zv, hzr, hrep⟩ := run_zeroValue' (C := C) (E := E) w hz
        refine ⟨if ok = true then .tuple #[zv, .bool false] else zv, ?_, ?_⟩
        · rcases hcase with rfl | ⟨mm, rfl⟩
          · obtain rfl := hnil rfl
            simp at hf
            simp [Instr.lookup, run_underlying ht, K.check w _ hl, hf, hzr, Result.andThen]
          · obtain ⟨cl, hh⟩ := hmap mm rfl
            simp [Instr.lookup, run_underlying ht, Go.MapKept.run_getObj_map hh, K.check w _ hl, hf, hzr, Result.andThen]
        · cases ok
          · exact hrep
          · exact .tuple _ _ (.cons _ _ _ _ hrep (.cons _ _ _ _ (.bool _) .nil))
      split at h
      · obtain rfl := rep_nilMap hm
        cases hz : zeroOf P et with
        | none => simp [hz] at h
        | some z =>
          simp only [hz, Option.map_some, Option.some.injEq] at h
          subst h
          rcases K.find w hl [] (by simp) with ⟨h1, _⟩ | ⟨j, e, _, h2, _⟩
          · exact miss hz #[] h1 (fun _ => rfl) (fun mm e => by cases e) (.inl rfl)
          · simp at h2
      · rename_i b
        obtain ⟨mm, rfl, hml⟩ := rep_map hm
        split at h
        · rename_i es cl hb
          obtain ⟨mes, q2, q3, q4⟩ := map_same (m' := 0) hw hb hml
          split at h
          · rename_i hall
            obtain ⟨k1, k2⟩ := keys_of q4 hall.1
            have hfd := findW_ok hv q4 k1 0 hall.2
            split at h
            · rename_i i v n hf
              cases h
              rcases hfd with ⟨e, _⟩ | ⟨j, x2, n2, e2, h1, h2, h3, h4, h5, h6⟩
              · rw [hf] at e; cases e
              · rw [hf] at h1; cases h1
                rcases K.find w hl mes.toList k2 with ⟨_, g2⟩ | ⟨j', e', g1, g2, g3⟩
                · exact absurd h3 (g2 e2 (List.mem_of_getElem? h2))
                · obtain rfl := h6 j' e' g2 g3
                  have hee : e' = e2 := by rw [g2] at h2; exact Option.some.inj h2
                  rw [hee] at g1
                  refine ⟨if ok = true then .tuple #[e2.val, .bool true] else e2.val, ?_, ?_⟩
                  · simp [Instr.lookup, run_underlying ht, Go.MapKept.run_getObj_map q3, K.check w _ hl, g1, Result.andThen]
                  · cases ok
                    · exact h4
                    · exact .tuple _ _ (.cons _ _ _ _ h4 (.cons _ _ _ _ (.bool _) .nil))
            · rename_i hf
              rcases hfd with ⟨_, hno⟩ | ⟨j, x2, n2, e2, h1, _⟩
              · cases hz : zeroOf P et with
                | none => simp [hz] at h
                | some z =>
                  simp only [hz, Option.map_some, Option.some.injEq] at h
                  subst h
                  rcases K.find w hl mes.toList k2 with ⟨g1, _⟩ | ⟨j', e', _, g2, g3⟩
                  · exact miss hz mes g1 (fun q => by cases q) (fun mm2 e => by cases e; exact ⟨cl, q3⟩) (.inr ⟨_, rfl⟩)
                  · exact absurd g3 (hno e' (List.mem_of_getElem? g2))
              · rw [hf] at h1; cases h1
          · cases h
        · cases h
      · cases h
    · cases h
  · cases h

theorem mapUpdateW_ok (hw : WRel C w0 E H w) {t : TypeId} {m k x : AV} {mv kv xv : Value} {H' : Heap} (hm : Rep C E m mv) (hk : Rep C E k kv) (hx : Rep C E x xv) (h : evMapUpdateW P H t m k x = some H') :
    ∃ w', (Instr.mapUpdate t mv kv xv).run P w = .ok () w' ∧ WRel C w0 E H' w' := by
  unfold evMapUpdateW at h
  split at h
  · rename_i kt et b ht
    split at h
    · rename_i hc
      have K := wideK_law hc.1
      obtain ⟨v, l, hv, hl⟩ := keyOk_spec hc.2
      obtain rfl := valOf_ok hk hv
      obtain ⟨mm, rfl, hml⟩ := rep_map hm
      split at h
      · rename_i es cl hb
        obtain ⟨mes, q2, q3, q4⟩ := map_same (m' := 0) hw hb hml
        split at h
        · rename_i hall
          obtain ⟨k1, k2⟩ := keys_of q4 hall.1
          have hfd := findW_ok hv q4 k1 0 hall.2
          split at h
          · rename_i i v n hf
            cases h
            rcases hfd with ⟨e, _⟩ | ⟨j, x2, n2, e2, h1, h2, h3, h4, h5, h6⟩
            · rw [hf] at e; cases e
            · rw [hf] at h1; cases h1
              rcases K.find w hl mes.toList k2 with ⟨_, g2⟩ | ⟨j', e', g1, g2, g3⟩
              · exact absurd h3 (g2 e2 (List.mem_of_getElem? h2))
              · obtain rfl := h6 j' e' g2 g3
                have hee : e' = e2 := by rw [g2] at h2; exact Option.some.inj h2
                rw [hee] at g1
                have hm2 : mes[j']? = some e2 := by simpa using h2
                refine ⟨{ w with heap := w.heap.setIfInBounds mm (.map (mes.modify j' fun e => { e with key := kv, val := xv }) cl) }, ?_, ?_⟩
                · simp [Instr.mapUpdate, run_underlying ht, Go.MapKept.run_getObj_map q3, K.check w _ hl, g1, Result.andThen]
                  simp [hm2, h3, K.stays w hl, Go.MapKept.run_setObj_map _ q3]
                · refine hw.setMap hb hml q2 q3 ?_
                  rw [modify_toList _ (by simpa using h2), Nat.zero_add]
                  exact q4.set (e := { e2 with key := kv, val := xv }) hk hx h5 _
          · rename_i hf
            cases h
            rcases hfd with ⟨_, hno⟩ | ⟨j, x2, n2, e2, h1, _⟩
            · rcases K.find w hl mes.toList k2 with ⟨g1, _⟩ | ⟨j', e', _, g2, g3⟩
              · refine ⟨{ w with heap := w.heap.setIfInBounds mm (.map (mes.push { key := kv, val := xv, born := cl }) (cl + 1)) }, ?_, ?_⟩
                · simp [Instr.mapUpdate, run_underlying ht, Go.MapKept.run_getObj_map q3, K.check w _ hl, g1, Go.MapKept.run_setObj_map _ q3, Result.andThen]
                · refine hw.setMap hb hml q2 q3 ?_
                  rw [Array.toList_push]
                  exact q4.snoc (e := { key := kv, val := xv, born := cl }) hk hx rfl
              · exact absurd g3 (hno e' (List.mem_of_getElem? g2))
            · rw [hf] at h1; cases h1
        · cases h
      · cases h
    · cases h
  · cases h

theorem look_ok (hw : WRel C w0 E H w) {t : TypeId} {m k r : AV} {ok : Bool} {mv kv : Value} (hm : Rep C E m mv) (hk : Rep C E k kv) (h : evLook P H t m k ok = some r) :
    ∃ z, (Instr.lookup t mv kv ok).run P w = .ok z w ∧ Rep C E r z := by
  unfold evLook at h
  split at h
  · exact lookupW_ok hw hm hk h
  · exact lookup_ok hw hm hk h

theorem mapUpd_ok (hw : WRel C w0 E H w) {t : TypeId} {m k x : AV} {mv kv xv : Value} {H' : Heap} (hm : Rep C E m mv) (hk : Rep C E k kv) (hx : Rep C E x xv) (h : evMapUpd P H t m k x = some H') :
    ∃ w', (Instr.mapUpdate t mv kv xv).run P w = .ok () w' ∧ WRel C w0 E H' w' := by
  unfold evMapUpd at h
  split at h
  · exact mapUpdateW_ok hw hm hk hx h
  · exact mapUpdate_ok hw hm hk hx h
end
end Go.Ev
end
section
set_option linter.unusedVariables false
set_option linter.unusedSimpArgs false
namespace Go.Ev
section
variable {P : Program} {C : Mem} {w0 : World} {E : Emb} {H : Heap} {w : World}

theorem heap_alloc_last (w1 : World) (o : Obj) : (w1.alloc o).heap[w1.heap.size]? = some o := by
  show (w1.heap.push o)[w1.heap.size]? = _
  simp

theorem frozen_alloc_past {w1 : World} {C1 : Array Value} {ty n o : Nat} (h : o < n) : (w1.alloc (.cells C1 ty (n, n + 1))).frozen? ⟨w1.heap.size, o, none⟩ = false := by
  have : (w1.alloc (.cells C1 ty (n, n + 1))).heap[w1.heap.size]? = some (.cells C1 ty (n, n + 1)) := heap_alloc_last _ _
  simp only [World.frozen?, this]
  rw [decide_eq_false (show ¬ n ≤ o by omega)]
  rfl

theorem cell_alloc_frozen {w1 : World} {C1 : Array Value} {ty o : Nat} {fr : Nat × Nat} : (w1.alloc (.cells C1 ty fr)).cell? ⟨w1.heap.size, o, none⟩ = C1[o]? := by
  have : (w1.alloc (.cells C1 ty fr)).heap[w1.heap.size]? = some (.cells C1 ty fr) := heap_alloc_last _ _
  simp only [World.cell?, this]
  rfl

/-- Text to bytes: a new row, with a mark behind its last cell. -/
theorem text_ok (hw : WRel C w0 E H w) (hfree : H.blk H.next = none) {s d e : TypeId} (hs : P.underlying s = some .string) (hd : P.underlying d = some (.slice e)) (he : P.underlying e = some (.int .u8)) {l : List Nat} {xv : Value} (hx : Rep C E (.str l) xv) :
    ∃ y E' w', (convert s d xv).run P w = .ok y w' ∧ E.le E' ∧ WRel C w0 E' (H.push (.row e 1 (l.map fun (c : Nat) => [AV.int .u8 (c : Int)]) 0 0)) w' ∧ Rep C E' (.slice H.next 0 l.length l.length false 0) y := by
  obtain ⟨t, rfl, hl⟩ := rep_str hx
  have hrun := run_bytes_of_string (P := P) w s d e t hs hd he
  generalize hcap : grownCap w t.size 0 e = cap at hrun
  have hge : t.size ≤ cap := hcap ▸ grownCap_ge w t.size 0 e
  have hsz : t.size = l.length := by rw [← hl]; simp only [strOf, List.length_map, Array.length_toList]; rfl
  have hrow : (bytesRow t cap).size = cap := by simp [bytesRow]; have : t.data.size = t.size := rfl; omega
  rw [hrow] at hrun
  let els := l.map fun (c : Nat) => [AV.int .u8 (c : Int)]
  let L : Loc := ⟨w.heap.size, 0, 0, els.length, 1, cap⟩
  have hel : els.length = l.length := by simp [els]
  have hll : ∀ cs ∈ els, cs.length = 1 := fun cs hc => by simp [els] at hc; obtain ⟨c, _, rfl⟩ := hc; rfl
  have hnew := hw.newRow hfree (w' := w.drew.alloc (.cells (bytesRow t cap) e (cap, cap + 1))) ((Chg.drew w _).trans (Chg.alloc w.drew _ _)) e 1 els L rfl (by simp) rfl rfl rfl hll (by simp [L]; omega)
    (fun o ho => by
      simp only [L] at ho ⊢
      refine ⟨?_, frozen_alloc_past ho⟩
      rw [show w.heap.size = w.drew.heap.size from rfl, cell_alloc_frozen, Array.getElem?_eq_getElem (by rw [hrow]; exact ho)]; rfl)
    (fun i j cs c hi h3 h4 => by
      have hi' : i < l.length := by have := (List.getElem?_eq_some_iff.1 h3).1; omega
      obtain ⟨n, hn⟩ : ∃ n, l[i]? = some n := ⟨_, List.getElem?_eq_getElem hi'⟩
      have hcs : cs = [AV.int .u8 (n : Int)] := by simp [els, hn] at h3; exact h3.symm
      subst hcs
      have hj : j = 0 := by have := (List.getElem?_eq_some_iff.1 h4).1; simp at this; exact this
      subst hj
      simp at h4
      subst h4
      refine ⟨.int .u8 n, ?_, .int _ _⟩
      simp only [L, Nat.zero_add, Nat.mul_one, Nat.sub_zero, Nat.add_zero]
      rw [show w.heap.size = w.drew.heap.size from rfl, cell_alloc_frozen]
      have hti : i < t.data.size := by have : t.data.size = t.size := rfl; omega
      rw [bytesRow, Array.getElem?_append_left (by simpa using hti), Array.getElem?_map, Array.getElem?_eq_getElem hti]
      simp only [Option.map_some, Option.some.injEq, Value.int.injEq, true_and]
      rw [← hl] at hn
      simp [strOf, Array.getElem?_eq_getElem hti] at hn
      rw [← hn])
  refine ⟨_, _, _, hrun, hnew.1, hnew.2, ?_⟩
  rw [hsz]
  exact .slice _ 0 l.length l.length false 0 L _ cap (Emb.set_same _ _ _ _) (by simp [L]) (by simp [L, hel]) (Nat.le_refl _) (by omega) (by simp) (fun _ => by simp [L]) (by simp [L])

theorem textOp_ok (hw : WRel C w0 E H w) {s d : TypeId} {x r : AV} {xv : Value} {H' : Heap} (hfree : H.blk H.next = none ∨ H'.next = H.next) (ht : isTextT P s d = true) (h : evText P H d x = some (r, H')) (hx : Rep C E x xv) :
    ∃ y E' w', (convert s d xv).run P w = .ok y w' ∧ E.le E' ∧ WRel C w0 E' H' w' ∧ Rep C E' r y := by
  unfold isTextT at ht
  split at ht
  · rename_i e hs hd
    unfold evText at h
    split at h
    · rename_i e2 l hd2
      split at h
      · rename_i he
        cases h
        exact text_ok hw (hfree.resolve_right (by simp [Heap.push])) hs hd2 he hx
      · cases h
    · cases h
  · cases ht
end
end Go.Ev
end
section
set_option linter.unusedVariables false
set_option linter.unusedSimpArgs false
namespace Go.Ev
section
variable {P : Program} {C : Mem} {w0 : World} {E : Emb} {H : Heap} {w : World}

/-- What is to be shown of one operation. -/
def OpOk (P : Program) (C : Mem) (w0 : World) (E : Emb) (w : World) (s : Sem Next) (r : AV) (H' : Heap) : Prop :=
  ∃ nx E' w', s.run P w = .ok nx w' ∧ E.le E' ∧ WRel C w0 E' H' w' ∧ ((∃ v, nx = .value v ∧ Rep C E' r v) ∨ (nx = .skip ∧ r = .undef))

theorem OpOk.pure_val (hw : WRel C w0 E H w) {s : Sem Value} {r : AV} {z : Value} (h : s.run P w = .ok z w) (hr : Rep C E r z) : OpOk P C w0 E w (do pure (.value (← s))) r H :=
  ⟨.value z, E, w, by simp [h], Emb.le_refl _, hw, .inl ⟨z, rfl, hr⟩⟩

theorem OpOk.val {s : Sem Value} {r : AV} {H' : Heap} (h : ∃ z E' w', s.run P w = .ok z w' ∧ E.le E' ∧ WRel C w0 E' H' w' ∧ Rep C E' r z) : OpOk P C w0 E w (do pure (.value (← s))) r H' := by
  obtain ⟨z, E', w', h1, h2, h3, h4⟩ := h
  exact ⟨.value z, E', w', by simp [h1], h2, h3, .inl ⟨z, rfl, h4⟩⟩

theorem repL_map {ρ : Operand → AV} {ev : Operand → Value} (hρ : ∀ x, Rep C E (ρ x) (ev x)) : ∀ l : List Operand, RepL C E (l.map ρ) (l.map ev)
  | [] => .nil
  | x :: l => .cons _ _ _ _ (hρ x) (repL_map hρ l)

theorem RepK.length {as : List (AV × AV × Nat)} {es : List MapEntry} (h : RepK C E as es) : es.length = as.length := by
  induction h with
  | nil => rfl
  | cons _ _ _ _ _ _ _ _ _ _ ih => simp [ih]

theorem len_builtin (hw : WRel C w0 E H w) {ts : Array TypeId} {ty : TypeId} {a r : AV} {u : Value} {H' : Heap} (h : evBuiltin P H .len ts [a] = some (r, H')) (hu : Rep C E a u) :
    H' = H ∧ ∃ z, (Builtin.len_ ts ty #[u]).run P w = .ok z w ∧ Rep C E r z := by
  simp only [evBuiltin] at h
  cases ht : ts[0]? with
  | none => simp [ht] at h
  | some t =>
    simp only [ht, Option.bind_some] at h
    split at h
    · rename_i s hs
      obtain ⟨s', rfl, rfl⟩ := rep_str hu
      cases h
      exact ⟨rfl, .int .i64 s'.size, by simp [Builtin.len_, ht, run_underlying hs, goInt], by rw [strOf_length]; exact .int _ _⟩
    · rename_i e hs
      cases hu; cases h
      exact ⟨rfl, _, by simp [Builtin.len_, ht, run_underlying hs, goInt], .int _ _⟩
    · rename_i e hs
      cases hu; cases h
      exact ⟨rfl, _, by simp [Builtin.len_, ht, run_underlying hs, goInt], .int _ _⟩
    · rename_i e b off n cap ex g hs
      cases hu; cases h
      exact ⟨rfl, _, by simp [Builtin.len_, ht, run_underlying hs, goInt], .int _ _⟩
    · rename_i e sz es hs
      cases h
      cases hu with
      | lst _ _ blk co len rc ad hE h1 h2 h6 =>
        subst h1
        exact ⟨rfl, _, by simp [Builtin.len_, ht, run_underlying hs, goInt], .int _ _⟩
    · rename_i k e hs
      cases hu; cases h
      exact ⟨rfl, _, by simp [Builtin.len_, ht, run_underlying hs, goInt], .int _ _⟩
    · rename_i k e b hs
      split at h
      · rename_i es cl hb
        cases h
        obtain ⟨m, es', h1, h2, h3, h4⟩ := hw.map _ _ _ hb
        cases hu with
        | map _ m' hm =>
          rw [h1] at hm; cases hm
          have hl := h4.length
          refine ⟨rfl, .int .i64 es'.size, ?_, ?_⟩
          · simp [Builtin.len_, ht, run_underlying hs, goInt, getObj, Sem.run, h3]
          · have : es'.size = es.length := by simpa using hl
            rw [this]; exact .int _ _
      · cases h
    · cases h

theorem append_builtin (hw : WRel C w0 E H w) {ts : Array TypeId} {ty : TypeId} {s x r : AV} {sv xv : Value} {H' : Heap} (hfree : H.blk H.next = none ∨ H'.next = H.next) (h : evBuiltin P H .append ts [s, x] = some (r, H')) (hs : Rep C E s sv) (hx : Rep C E x xv) :
    ∃ y E' w', (Builtin.append_ ts ty #[sv, xv]).run P w = .ok y w' ∧ E.le E' ∧ WRel C w0 E' H' w' ∧ Rep C E' r y := by
  simp only [evBuiltin] at h
  split at h
  · rename_i t u ht
    have hts' : ts = #[t, u] := by apply Array.ext'; simpa using ht
    subst hts'
    split at h
    · rename_i e d he hd
      have hte := elemOfSlice_eq he
      split at h
      · cases h
      · rename_i i hi hnd
        split at h
        · rename_i z n hz hn
          split at h
          · rename_i hzs
            cases hel : H.elems i.size n x with
            | none => simp [hel] at h
            | some new =>
              simp only [hel, Option.bind_some] at h
              exact append_ok (P := P) hw hte hd (fun k hk => by subst hk; exact hnd _ rfl) hi hz hzs.1 hfree hn hel h hs hx
          · cases h
        · cases h
      · cases h
    · cases h
  · cases h

theorem builtin_ok (hw : WRel C w0 E H w) {b : Builtin} {ts : Array TypeId} {ty : TypeId} {consts : Array Bool} {as : List AV} {vs : List Value} {r : AV} {H' : Heap} (hr : RepL C E as vs) (hfree : H.blk H.next = none ∨ H'.next = H.next) (h : evBuiltin P H b ts as = some (r, H')) :
    OpOk P C w0 E w (builtin b ts ty consts vs.toArray) r H' := by
  unfold evBuiltin at h
  split at h
  · cases hr with
    | cons _ u _ _ h1 h2 =>
      cases h2
      obtain ⟨rfl, z, hz, hrep⟩ := len_builtin (P := P) (ty := ty) hw h h1
      exact OpOk.pure_val hw hz hrep
  · cases hr with
    | cons _ u _ _ h1 h2 =>
      cases h2 with
      | cons _ v _ _ h3 h4 =>
        cases h4
        exact OpOk.val (append_builtin (P := P) (ty := ty) hw hfree h h1 h3)
  · cases hr with
    | cons _ u _ _ h1 h2 =>
      cases h2 with
      | cons _ v _ _ h3 h4 =>
        cases h4
        obtain rfl := rep_int h1
        obtain rfl := rep_int h3
        split at h
        · rename_i hk
          subst hk
          cases h
          exact OpOk.pure_val hw (by simp [Builtin.max_, Builtin.max2]) (.int _ _)
        · cases h
  · cases hr with
    | cons _ u _ _ h1 h2 =>
      cases h2 with
      | cons _ v _ _ h3 h4 =>
        cases h4
        obtain rfl := rep_int h1
        obtain rfl := rep_int h3
        split at h
        · rename_i hk
          subst hk
          cases h
          exact OpOk.pure_val hw (by simp [Builtin.min_, Builtin.min2]) (.int _ _)
        · cases h
  · cases hr with
    | cons _ u _ _ h1 h2 =>
      cases h2 with
      | cons _ v _ _ h3 h4 =>
        cases h4
        exact OpOk.val (delete_ok (P := P) (ty := ty) hw h1 h3 h)
  · cases hr with
    | cons _ u _ _ h1 h2 =>
      cases h2
      exact OpOk.val (clear_ok (P := P) (ty := ty) hw h1 h)
  · cases h

theorem rep_ptr {b i o g : Nat} {v : Value} (h : Rep C E (.ptr b i o g) v) : ∃ L off, v = .pointer (some ⟨L.blk, off, none⟩) ∧ E.loc b g = some L ∧ L.lo ≤ i ∧ i < L.ext ∧ off = L.co + (i - L.lo) * L.esz + o := by
  cases h; exact ⟨_, _, rfl, by assumption, by assumption, by assumption, by assumption⟩
theorem rep_iptr {cs : List AV} {o : Nat} {v : Value} (h : Rep C E (.iptr cs o) v) : ∃ blk co off, v = .pointer (some ⟨blk, off, none⟩) ∧ RepM C E blk co cs ∧ off = co + o := by
  cases h; exact ⟨_, _, _, rfl, by assumption, by assumption⟩

theorem buildSlice_next {t : TypeId} {len : Nat} {parts : List (Nat × AV)} {r : AV} {H' : Heap} (h : evBuildSlice P H t len parts = some (r, H')) : H'.next = H.next + 1 := by
  unfold evBuildSlice at h
  cases he : elemOfSlice P t with
  | none => simp [he] at h
  | some e =>
    simp only [he, Option.bind_some] at h
    split at h
    · split at h
      · rename_i s z _ _ _
        cases hf : fillE s (List.replicate len z.cells) parts with
        | none => simp [hf] at h
        | some els => simp only [hf, Option.map_some, Option.some.injEq, Prod.mk.injEq] at h; rw [← h.2]; rfl
      · cases h
    · cases h

theorem makeSlice_next {t : TypeId} {l c r : AV} {H' : Heap} (h : evMakeSlice P H t l c = some (r, H')) : H'.next = H.next + 1 := by
  unfold evMakeSlice at h
  cases he : elemOfSlice P t with
  | none => simp [he] at h
  | some e =>
    simp only [he, Option.bind_some] at h
    split at h
    · split at h
      · cases h; rfl
      · cases h
    · cases h

theorem buildSlice_ok' (hw : WRel C w0 E H w) {t : TypeId} {len : Nat} {parts : List (Nat × AV)} {r : AV} {H' : Heap} (hfree : H.blk H.next = none ∨ H'.next = H.next) {pv : Array (Nat × Value)} (hp : RepP C E parts pv.toList) (h : evBuildSlice P H t len parts = some (r, H')) :
    ∃ z E' w', (Instr.buildSlice t len pv).run P w = .ok z w' ∧ E.le E' ∧ WRel C w0 E' H' w' ∧ Rep C E' r z :=
  buildSlice_ok hw (hfree.resolve_right (by rw [buildSlice_next h]; omega)) hp h

theorem makeSlice_ok' (hw : WRel C w0 E H w) {t : TypeId} {l c r : AV} {H' : Heap} (hfree : H.blk H.next = none ∨ H'.next = H.next) {lv cv : Value} (hl : Rep C E l lv) (hc : Rep C E c cv) (h : evMakeSlice P H t l c = some (r, H')) :
    ∃ z E' w', (Instr.makeSlice t lv cv).run P w = .ok z w' ∧ E.le E' ∧ WRel C w0 E' H' w' ∧ Rep C E' r z :=
  makeSlice_ok hw (hfree.resolve_right (by rw [makeSlice_next h]; omega)) hl hc h

theorem map_some_eq {α β : Type} {o : Option α} {f : α → β} {r : β} (h : o.map f = some r) : ∃ a, o = some a ∧ f a = r := by
  cases o with
  | none => cases h
  | some a => exact ⟨a, rfl, by simpa using h⟩

set_option maxHeartbeats 4000000 in
theorem op_sound (hw : WRel C w0 E H w) {ρ : Operand → AV} {ev : Operand → Value} (hρ : ∀ x, Rep C E (ρ x) (ev x)) {o : Oper} {r : AV} {H' : Heap} (hfree : H.blk H.next = none ∨ H'.next = H.next) (h : evOp P ρ o H = some (r, H')) :
    OpOk P C w0 E w (execOp ev o) r H' := by
  obtain ⟨dst, op, type, pos, after, guard⟩ := o
  cases op <;> simp only [evOp] at h
  case move x => cases h; exact ⟨.value (ev x), E, w, rfl, Emb.le_refl _, hw, .inl ⟨_, rfl, hρ x⟩⟩
  case assign x => cases h; exact ⟨.value (ev x), E, w, rfl, Emb.le_refl _, hw, .inl ⟨_, rfl, hρ x⟩⟩
  case pick c a b =>
    split at h
    · rename_i t ht
      cases h
      have hc := hρ c
      rw [ht] at hc
      have hc' := rep_bool hc
      refine ⟨.value (if t then ev a else ev b), E, w, ?_, Emb.le_refl _, hw, .inl ⟨_, rfl, ?_⟩⟩
      · simp [execOp, hc', asBool]
      · cases t <;> simp [hρ]
    · cases h
  case alloc t =>
    split at h
    · rename_i z hz
      split at h
      · cases h
      · rename_i hun
        cases h
        have hfree : H.blk H.next = none := hfree.resolve_right (by simp [Heap.push])
        obtain ⟨zv, hzr, hrep⟩ := run_zeroValue' (C := C) (E := E) w hz
        obtain ⟨E', ad, w', h1, h2, h3, h4⟩ := newVar_ok (P := P) hw hfree (t := t) (by simpa using hun) hrep
        exact OpOk.val ⟨_, E', w', by simp [Instr.alloc, hzr, h1], h2, h3, h4⟩
    · cases h
  case box t x =>
    split at h
    · cases h
    · rename_i hun
      cases h
      have hfree : H.blk H.next = none := hfree.resolve_right (by simp [Heap.push])
      obtain ⟨E', ad, w', h1, h2, h3, h4⟩ := newVar_ok (P := P) hw hfree (t := t) (by simpa using hun) (hρ x)
      exact OpOk.val ⟨_, E', w', by simp [Instr.box, h1], h2, h3, h4⟩
  case build t parts =>
    obtain ⟨a, ha, e⟩ := map_some_eq h
    cases e
    have hp := repP_map hρ parts.toList
    obtain ⟨z, hz, hrep⟩ := build_ok (P := P) (w := w) (pv := parts.map fun p => (p.1, ev p.2)) (by simpa using hp) ha
    exact OpOk.pure_val hw hz hrep
  case buildSlice t len parts =>
    have hp := repP_map hρ parts.toList
    exact OpOk.val (buildSlice_ok' (P := P) hw hfree (pv := parts.map fun p => (p.1, ev p.2)) (by simpa using hp) h)
  case load t a =>
    split at h
    · rename_i n hag hs
      obtain ⟨cs, hc, e⟩ := map_some_eq h
      cases e
      obtain ⟨z, hz, hrep⟩ := load_agg (P := P) hw hag hs hc (hρ a)
      exact OpOk.pure_val hw hz hrep
    · rename_i hag
      split at h
      · rename_i v hv
        cases h
        obtain ⟨z, hz, hrep⟩ := load_one (P := P) hw hag hv (hρ a)
        exact OpOk.pure_val hw hz hrep
      · cases h
    · cases h
  case store t a x =>
    split at h
    · rename_i hc
      obtain ⟨h1, h2⟩ := hc
      obtain ⟨H2, hst, e⟩ := map_some_eq h
      cases e
      obtain ⟨w', g1, g2⟩ := store_ok (P := P) hw h2 h1 hst (hρ a) (hρ x)
      exact ⟨.skip, E, w', by simp [execOp, g1], Emb.le_refl _, g2, .inr ⟨rfl, rfl⟩⟩
    · cases h
  case binOp op t x y yt =>
    obtain ⟨a, ha, e⟩ := map_some_eq h
    cases e
    obtain ⟨z, g1, g2, g3⟩ := evBin_sound (P := P) w ha (hρ x) (hρ y)
    exact OpOk.pure_val (s := do eqGuard op t x y (ev x) (ev y); binOp op t (ev x) (ev y)) hw (by rw [Sem.run_bind, g1]; exact g2) g3
  case unOp op t x =>
    obtain ⟨a, ha, e⟩ := map_some_eq h
    cases e
    obtain ⟨z, g1, g2⟩ := evUn_sound (P := P) w ha (hρ x)
    exact OpOk.pure_val hw g1 g2
  case convert s d x =>
    split at h
    · rename_i ht
      exact OpOk.val (textOp_ok (P := P) hw hfree ht h (hρ x))
    · split at h
      · rename_i a ha
        cases h
        obtain ⟨z, g1, g2⟩ := evConvert_sound (P := P) w ha (hρ x)
        exact OpOk.pure_val hw g1 g2
      · obtain ⟨a, ha, e⟩ := map_some_eq h
        cases e
        obtain ⟨z, g1, g2⟩ := bytes_ok (P := P) hw (hρ x) ha
        exact OpOk.pure_val hw g1 g2
  case makeMap t r =>
    cases r with
    | some x => cases h
    | none =>
      cases h
      exact OpOk.val (makeMap_ok (P := P) hw (hfree.resolve_right (by simp [Heap.push])))
  case lookup t x k ok =>
    obtain ⟨a, ha, e⟩ := map_some_eq h
    cases e
    obtain ⟨z, g1, g2⟩ := look_ok (P := P) hw (hρ x) (hρ k) ha
    exact OpOk.pure_val hw g1 g2
  case mapUpdate t m k x =>
    obtain ⟨H2, ha, e⟩ := map_some_eq h
    cases e
    obtain ⟨w', g1, g2⟩ := mapUpd_ok (P := P) hw (hρ m) (hρ k) (hρ x) ha
    exact ⟨.skip, E, w', by simp [execOp, g1], Emb.le_refl _, g2, .inr ⟨rfl, rfl⟩⟩
  case makeInterface t x =>
    split at h
    · rename_i d hd
      split at h
      · cases h
      · rename_i hi
        cases h
        refine OpOk.pure_val (z := .iface t (ev x)) hw ?_ (.iface t _ _ (hρ x))
        cases d <;> simp_all [Instr.makeInterface, run_underlying hd, isIfaceD]
    · cases h
  case makeFunc fn first cap =>
    cases h
    refine OpOk.pure_val (z := .func fn (first.map ev) (cap.map ev)) hw (by simp [Instr.makeFunc]) ?_
    have := Rep.func (C := C) (E := E) fn _ _ _ _ (repL_map hρ first.toList) (repL_map hρ cap.toList)
    have he : ∀ l : Array Operand, (l.toList.map ev).toArray = l.map ev := fun l => by apply Array.ext'; simp
    rw [he, he] at this
    exact this
  case makeSlice t l c => exact OpOk.val (makeSlice_ok' (P := P) hw hfree (hρ l) (hρ c) h)
  case slice t x lo hi mx =>
    split at h
    · rename_i l hh m h1 h2 h3
      obtain ⟨a, ha, e⟩ := map_some_eq h
      cases e
      obtain ⟨z, g1, g2⟩ := slice_ok (P := P) hw hρ h1 h2 h3 ha (hρ x)
      exact OpOk.pure_val hw g1 g2
    · cases h
  case fieldAddr s x f =>
    split at h
    · rename_i fd hfd
      have hx := hρ x
      split at h
      · rename_i n b i o g hn hxe
        rw [hxe] at hx
        split at h
        · cases h
        · rename_i h0
          cases h
          obtain ⟨L, off, he, hL, h1, h2, h3⟩ := rep_ptr hx
          exact OpOk.pure_val (z := .pointer (some ⟨L.blk, off + fd.offset, none⟩)) hw (by rw [he]; exact fieldAt_ok (P := P) hfd hn h0 _ _) (.ptr _ _ _ _ L _ hL h1 h2 (by omega))
      · rename_i n cs o hn hxe
        rw [hxe] at hx
        split at h
        · cases h
        · rename_i h0
          cases h
          obtain ⟨blk, co, off, he, hm, h3⟩ := rep_iptr hx
          exact OpOk.pure_val (z := .pointer (some ⟨blk, off + fd.offset, none⟩)) hw (by rw [he]; exact fieldAt_ok (P := P) hfd hn h0 _ _) (.iptr _ _ _ co _ hm (by omega))
      · cases h
    · cases h
  case field s x f =>
    split at h
    · rename_i fd cs hfd hxe
      obtain ⟨a, ha, e⟩ := map_some_eq h
      cases e
      have hx := hρ x
      rw [hxe] at hx
      obtain ⟨vs, he, hvs⟩ := rep_agg hx
      obtain ⟨z, g1, g2⟩ := field_ok (P := P) (w := w) hfd hvs ha
      exact OpOk.pure_val hw (by rw [he]; exact g1) g2
    · cases h
  case indexAddr t x i =>
    obtain ⟨a, ha, e⟩ := map_some_eq h
    cases e
    obtain ⟨z, g1, g2⟩ := evIndexAddr_sound (P := P) w hw ha (hρ x) (hρ i)
    exact OpOk.pure_val hw g1 g2
  case index t x i =>
    obtain ⟨a, ha, e⟩ := map_some_eq h
    cases e
    obtain ⟨z, g1, g2⟩ := evIndex_sound (P := P) w ha (hρ x) (hρ i)
    exact OpOk.pure_val hw g1 g2
  case extract t i =>
    split at h
    · rename_i vs hx
      obtain ⟨a, ha, e⟩ := map_some_eq h
      cases e
      have ht := hρ t
      rw [hx] at ht
      obtain ⟨us, he, hus⟩ := rep_tuple ht
      obtain ⟨z, hz, hrep⟩ := hus.get i _ ha
      exact OpOk.pure_val hw (by simp [he, Instr.extract, hz]) hrep
    · cases h
  case nilCheck x =>
    have hx := hρ x
    split at h
    · rename_i b i o g hxe
      rw [hxe] at hx
      cases h
      obtain ⟨a, ha⟩ : ∃ a, ev x = .pointer (some a) := by generalize ev x = u at hx; cases hx; exact ⟨_, rfl⟩
      exact ⟨.value (ev x), E, w, by simp [execOp, ha], Emb.le_refl _, hw, .inl ⟨_, rfl, hx⟩⟩
    · rename_i cs o hxe
      rw [hxe] at hx
      cases h
      obtain ⟨a, ha⟩ : ∃ a, ev x = .pointer (some a) := by generalize ev x = u at hx; cases hx; exact ⟨_, rfl⟩
      exact ⟨.value (ev x), E, w, by simp [execOp, ha], Emb.le_refl _, hw, .inl ⟨_, rfl, hx⟩⟩
    · cases h
  case call c =>
    obtain ⟨callee, args, argTypes⟩ := c
    cases callee with
    | builtin b =>
      simp only at h
      show OpOk P C w0 E w (builtin b argTypes type _ (args.map ev)) r H'
      exact builtin_ok (P := P) (ty := type) hw (vs := (args.map ev).toList) (by simpa using repL_map hρ args.toList) hfree h
    | value f => cases h
    | invoke r m => cases h
  all_goals cases h
end
end Go.Ev
end
section
set_option linter.unusedVariables false
set_option linter.unusedSimpArgs false
namespace Go.Ev

abbrev Env := Nat → AV

def Env.put (env : Env) (d : Option Tmp) (v : AV) : Env :=
  match d with
  | some d => fun t => if t = d then v else env t
  | none => env

def Env.at (env : Env) : Operand → AV
  | .tmp t => env t
  | .const v => avOf v
  | .global _ => .undef
  | .func f => .func (.func f) [] []

def Env.ofArgs (args : List AV) : Env := fun t => args.getD t .undef

inductive Ex where
  | normal
  | exit (id : Nat)
  | ret
  deriving DecidableEq

def Ex.out : Ex → Exit
  | .normal => .normal
  | .exit id => .exit id
  | .ret => .ret

/-- Is the operation carried out? -/
def wantedA (ops : Array Oper) (env : Env) (o : Oper) : Option Bool :=
  match o.guard with
  | none => some true
  | some (j, want) =>
    match (ops[j]?).bind (·.dst) with
    | some d => (match env d with | .bool b => some (b == want) | .tuple [] => some false | _ => none)
    | none => none

def dstOk (n : Nat) : Option Tmp → Bool
  | some d => decide (d < n)
  | none => true

def evResult (P : Program) (env : Env) (H : Heap) : ResultVar → Option AV
  | .tmp t => some (env t)
  | .cell a t =>
    match aggOf P t, szOf P t with
    | some true, some n => (H.load (env a) n).map .agg
    | some false, _ => (match H.load (env a) 1 with | some [v] => some v | _ => none)
    | _, _ => none

def evResultsL (P : Program) (env : Env) (H : Heap) : List ResultVar → Option (List AV)
  | [] => some []
  | r :: rs => match evResult P env H r, evResultsL P env H rs with
    | some v, some vs => some (v :: vs)
    | _, _ => none

def evResults (P : Program) (rs : List ResultVar) (env : Env) (H : Heap) : Option AV :=
  match evResultsL P env H rs with
  | some [v] => some v
  | some vs => some (.tuple vs)
  | none => none

mutual
/-- A function, called with these arguments over H, returns r and leaves H'. -/
inductive EvF (P : Program) : FuncId → List AV → Heap → AV → Heap → Prop
  | mk (f : FuncId) (fn : Func) (c : Code) (args : List AV) (H : Heap) (ex : Ex) (env : Env) (H' : Heap) (r : AV) (hf : P.funcs[f]? = some fn) (hn : (fn.name == "runtime.NumGoroutine") = false) (hb : fn.body = some c)
      (ha : args.length ≤ fn.ntmps) (h : EvC P fn.ntmps c (Env.ofArgs args) H ex env H') (he : ex = .normal ∨ ex = .ret) (hr : evResults P fn.results.toList env H' = some r) : EvF P f args H r H'
inductive EvC (P : Program) : Nat → Code → Env → Heap → Ex → Env → Heap → Prop
  | skip (n : Nat) (env : Env) (H : Heap) : EvC P n .skip env H .normal env H
  | label (n l : Nat) (env : Env) (H : Heap) : EvC P n (.label l) env H .normal env H
  | region (n id : Nat) (ops : Array Oper) (env : Env) (H : Heap) (env' : Env) (H' : Heap) (h : EvS P n ops (List.range ops.size) env H env' H') : EvC P n (.region id ops false) env H .normal env' H'
  | draw (n id : Nat) (ops : Array Oper) (env : Env) (H : Heap) (env' : Env) (H' : Heap) (h : ∀ t, EvS P n ops (Region.linearise .any ops t) env H env' H') : EvC P n (.region id ops true) env H .normal env' H'
  | seq (n : Nat) (x y : Code) (env : Env) (H : Heap) (env1 : Env) (H1 : Heap) (ex : Ex) (env2 : Env) (H2 : Heap) (h : EvC P n x env H .normal env1 H1) (h' : EvC P n y env1 H1 ex env2 H2) : EvC P n (.seq x y) env H ex env2 H2
  | seqOut (n : Nat) (x y : Code) (env : Env) (H : Heap) (ex : Ex) (env1 : Env) (H1 : Heap) (h : EvC P n x env H ex env1 H1) (hx : ex ≠ .normal) : EvC P n (.seq x y) env H ex env1 H1
  | cond (n : Nat) (c : Operand) (x y : Code) (t : Bool) (env : Env) (H : Heap) (ex : Ex) (env1 : Env) (H1 : Heap) (hc : env.at c = .bool t) (h : EvC P n (if t then x else y) env H ex env1 H1) : EvC P n (.cond c x y) env H ex env1 H1
  | block (n id : Nat) (c : Code) (env : Env) (H : Heap) (ex : Ex) (env1 : Env) (H1 : Heap) (h : EvC P n c env H ex env1 H1) (hx : ex = .normal ∨ ex = .exit id) : EvC P n (.block id c) env H .normal env1 H1
  | blockOut (n id : Nat) (c : Code) (env : Env) (H : Heap) (ex : Ex) (env1 : Env) (H1 : Heap) (h : EvC P n c env H ex env1 H1) (hx : ex ≠ .normal ∧ ex ≠ .exit id) : EvC P n (.block id c) env H ex env1 H1
  | loop (n : Nat) (c : Code) (env : Env) (H : Heap) (ex : Ex) (env' : Env) (H' : Heap) (h : EvL P n c env H ex env' H') : EvC P n (.loop c) env H ex env' H'
  | exit (n id : Nat) (env : Env) (H : Heap) : EvC P n (.exit id) env H (.exit id) env H
  | ret (n : Nat) (env : Env) (H : Heap) : EvC P n .ret env H .ret env H
  | scope (n : Nat) (c : Code) (env : Env) (H : Heap) (ex : Ex) (env1 : Env) (H1 : Heap) (h : EvC P n c env H ex env1 H1) : EvC P n (.scope c) env H ex env1 H1
/-- The rounds of a loop. -/
inductive EvL (P : Program) : Nat → Code → Env → Heap → Ex → Env → Heap → Prop
  | again (n : Nat) (c : Code) (env : Env) (H : Heap) (env1 : Env) (H1 : Heap) (ex : Ex) (env2 : Env) (H2 : Heap) (h : EvC P n c env H .normal env1 H1) (h' : EvL P n c env1 H1 ex env2 H2) : EvL P n c env H ex env2 H2
  | out (n : Nat) (c : Code) (env : Env) (H : Heap) (ex : Ex) (env1 : Env) (H1 : Heap) (h : EvC P n c env H ex env1 H1) (hx : ex ≠ .normal) : EvL P n c env H ex env1 H1
inductive EvS (P : Program) : Nat → Array Oper → List Nat → Env → Heap → Env → Heap → Prop
  | nil (n : Nat) (ops : Array Oper) (env : Env) (H : Heap) : EvS P n ops [] env H env H
  | skip (n : Nat) (ops : Array Oper) (i : Nat) (l : List Nat) (o : Oper) (env : Env) (H : Heap) (env' : Env) (H' : Heap) (ho : ops[i]? = some o) (hw : wantedA ops env o = some false) (hd : dstOk n o.dst = true)
      (h : EvS P n ops l (env.put o.dst (.tuple [])) H env' H') : EvS P n ops (i :: l) env H env' H'
  | op (n : Nat) (ops : Array Oper) (i : Nat) (l : List Nat) (o : Oper) (env : Env) (H : Heap) (r : AV) (H1 : Heap) (env' : Env) (H' : Heap) (ho : ops[i]? = some o) (hw : wantedA ops env o = some true) (hd : dstOk n o.dst = true)
      (hfree : H.blk H.next = none ∨ H1.next = H.next) (he : evOp P env.at o H = some (r, H1)) (h : EvS P n ops l (env.put o.dst r) H1 env' H') : EvS P n ops (i :: l) env H env' H'
  /-- Another name for the next new block. -/
  | hint (n : Nat) (ops : Array Oper) (l : List Nat) (m : Nat) (env : Env) (H : Heap) (env' : Env) (H' : Heap) (h : EvS P n ops l env ⟨H.blk, m⟩ env' H') : EvS P n ops l env H env' H'
  | call (n : Nat) (ops : Array Oper) (i : Nat) (l : List Nat) (o : Oper) (f : Operand) (args : Array Operand) (ts : Array TypeId) (g : FuncId) (first cap : List AV) (env : Env) (H : Heap) (r : AV) (H1 : Heap) (env' : Env) (H' : Heap)
      (ho : ops[i]? = some o) (hw : wantedA ops env o = some true) (hd : dstOk n o.dst = true) (hop : o.op = .call { callee := .value f, args := args, argTypes := ts }) (hf : env.at f = .func (.func g) first cap)
      (hc : EvF P g (first ++ args.toList.map env.at ++ cap) H r H1) (h : EvS P n ops l (env.put o.dst r) H1 env' H') : EvS P n ops (i :: l) env H env' H'
end

section
variable {P : Program} {C : Mem} {w0 : World}

/-- The frame holds what the environment says. -/
structure ERel (C : Mem) (E : Emb) (n : Nat) (env : Env) (a : Act) : Prop where
  size : a.tmps.size = n
  at_ : ∀ t, Rep C E (env t) (a.tmps.getD t undef)

theorem ERel.mono {E E' : Emb} {n : Nat} {env : Env} {a : Act} (h : ERel C E n env a) (hE : E.le E') : ERel C E' n env a := ⟨h.size, fun t => (h.at_ t).mono (Mem.le_refl _) hE⟩

theorem ERel.eval {E : Emb} {n : Nat} {env : Env} {a : Act} (h : ERel C E n env a) (x : Operand) : Rep C E (env.at x) (a.eval x) := by
  cases x with
  | tmp t => exact h.at_ t
  | const v => exact rep_avOf v
  | global g => exact .undef _
  | func f => exact .func _ _ _ _ _ .nil .nil

theorem ERel.put {E : Emb} {n : Nat} {env : Env} {a : Act} (h : ERel C E n env a) {d : Option Tmp} (hd : dstOk n d = true) {v : AV} {u : Value} (hv : Rep C E v u) : ERel C E n (env.put d v) (a.put d u) := by
  cases d with
  | none => exact h
  | some d =>
    have hdn : d < n := by simpa [dstOk] using hd
    refine ⟨by simp [Act.put, h.size], fun t => ?_⟩
    simp only [Env.put, Act.put]
    by_cases ht : t = d
    · subst ht
      rw [if_pos rfl]
      have : (a.tmps.setIfInBounds t u).getD t undef = u := by
        rw [Array.getD_eq_getD_getElem?, Array.getElem?_setIfInBounds_self_of_lt (by rw [h.size]; exact hdn)]
        rfl
      rw [this]; exact hv
    · rw [if_neg ht]
      have : (a.tmps.setIfInBounds d u).getD t undef = a.tmps.getD t undef := by
        rw [Array.getD_eq_getD_getElem?, Array.getElem?_setIfInBounds_ne (Ne.symm ht), Array.getD_eq_getD_getElem?]
      rw [this]; exact h.at_ t

theorem ERel.wanted {E : Emb} {n : Nat} {env : Env} {a : Act} (h : ERel C E n env a) {ops : Array Oper} {o : Oper} {b : Bool} (hw : wantedA ops env o = some b) : Region.wanted o (yielded ops a.tmps) = b := by
  unfold wantedA at hw
  unfold Region.wanted
  split at hw
  · rename_i hg; rw [hg]; simpa using hw
  · rename_i j want hg
    rw [hg]
    split at hw
    · rename_i d hd
      split at hw
      · rename_i t ht
        have := h.at_ d
        rw [ht] at this
        have hb := rep_bool this
        have hlt : d < a.tmps.size := by
          apply Classical.byContradiction
          intro hn
          rw [Array.getD_eq_getD_getElem?, Array.getElem?_eq_none (Nat.le_of_not_lt hn)] at hb
          simp [undef] at hb
        have hg' : a.tmps[d]? = some (.bool t) := by
          rw [Array.getD_eq_getD_getElem?, Array.getElem?_eq_getElem hlt] at hb
          rw [Array.getElem?_eq_getElem hlt]
          simpa using hb
        simp only [yielded, hd, Option.bind_some, hg']
        cases hw
        cases t <;> cases want <;> rfl
      · rename_i ht
        have := h.at_ d
        rw [ht] at this
        have hv : a.tmps.getD d undef = .tuple #[] := by
          generalize a.tmps.getD d undef = v at this
          cases this with
          | tuple cs vs hl => cases hl; rfl
        have hy : yielded ops a.tmps j = none := by
          simp only [yielded, hd, Option.bind_some]
          cases hg : a.tmps[d]? with
          | none => rfl
          | some v =>
            rw [Array.getD_eq_getD_getElem?, hg] at hv
            simp only [Option.getD_some] at hv
            subst hv
            rfl
        cases hw
        simp only [hy]
        rfl
      · cases hw
    · cases hw

theorem ERel.enter {E : Emb} {args : List AV} {vs : List Value} (h : RepL C E args vs) {n : Nat} (hn : args.length ≤ n) :
    ERel C E n (Env.ofArgs args) { tmps := vs.toArray ++ Array.replicate (n - vs.toArray.size) undef, defers := [] } := by
  have hl := h.length
  refine ⟨by simp; omega, fun t => ?_⟩
  simp only [Env.ofArgs]
  by_cases ht : t < args.length
  · rw [List.getD_eq_getElem?_getD, List.getElem?_eq_getElem ht]
    obtain ⟨v, hv, hr⟩ := h.get t _ (List.getElem?_eq_getElem ht)
    have : (vs.toArray ++ Array.replicate (n - vs.toArray.size) undef).getD t undef = v := by
      rw [Array.getD_eq_getD_getElem?, Array.getElem?_append_left (by simp; omega)]
      simp [hv]
    rw [this]; exact hr
  · rw [List.getD_eq_getElem?_getD, List.getElem?_eq_none (by omega)]
    exact .undef _

/-- A result variable, read. -/
def resSem (a : Act) (rv : ResultVar) : Sem Value :=
  match rv with
  | .tmp t => pure (a.tmps.getD t undef)
  | .cell ad t => do loadVar t (← asAddr (a.tmps.getD ad undef))

theorem result_ok {E : Emb} {H : Heap} {w : World} (hw : WRel C w0 E H w) {n : Nat} {env : Env} {a : Act} (he : ERel C E n env a) {rv : ResultVar} {r : AV} (h : evResult P env H rv = some r) :
    ∃ v, (resSem a rv).run P w = .ok v w ∧ Rep C E r v := by
  cases rv with
  | tmp t => simp only [evResult, Option.some.injEq] at h; subst h; exact ⟨_, rfl, he.at_ t⟩
  | cell ad t =>
    simp only [evResult] at h
    have hx := he.at_ ad
    split at h
    · rename_i k hag hs
      obtain ⟨cs, hc, e⟩ := map_some_eq h
      cases e
      obtain ⟨q, vs, hq, hl, hr, hcell⟩ := load_cells hw hc hx
      refine ⟨.agg vs.toArray, ?_, .agg _ _ hr⟩
      have := run_loadCells' (P := P) hcell (n := k) (by rw [hr.length, hl])
      simp [resSem, hq, asAddr, loadVar, run_isAgg' w hag, run_sizeOf' w hs, this]
    · rename_i hag
      split at h
      · rename_i v hv
        cases h
        obtain ⟨q, vs, hq, hl, hr, hcell⟩ := load_cells hw hv hx
        cases hr with
        | cons _ u _ _ h1 h2 =>
          refine ⟨u, ?_, h1⟩
          have := hcell 0 u rfl
          have h0 : q.add 0 = q := by simp [Addr.add]
          rw [h0] at this
          simp [resSem, hq, asAddr, loadVar, run_isAgg' w hag, this]
      · cases h
    · cases h

theorem results_ok {E : Emb} {H : Heap} {w : World} (hw : WRel C w0 E H w) {n : Nat} {env : Env} {a : Act} (he : ERel C E n env a) {fn : Func} {r : AV} (h : evResults P fn.results.toList env H = some r) :
    ∃ v, (results fn a.tmps).run P w = .ok v w ∧ Rep C E r v := by
  have key : ∀ (rs : List ResultVar) (as : List AV), evResultsL P env H rs = some as → ∃ vs, (rs.mapM (resSem a)).run P w = .ok vs w ∧ RepL C E as vs := by
    intro rs
    induction rs with
    | nil => intro as h; simp only [evResultsL, Option.some.injEq] at h; subst h; exact ⟨[], by simp, .nil⟩
    | cons rv rs ih =>
      intro as h
      simp only [evResultsL] at h
      split at h
      · rename_i v vs h1 h2
        cases h
        obtain ⟨u, g1, g2⟩ := result_ok (P := P) hw he h1
        obtain ⟨us, g3, g4⟩ := ih vs h2
        refine ⟨u :: us, ?_, .cons _ _ _ _ g2 g4⟩
        rw [List.mapM_cons, Sem.run_bind, g1]
        simp only [Result.andThen_ok, Sem.run_bind, g3, Sem.run_pure]
      · cases h
  unfold evResults at h
  split at h
  · rename_i v hv
    cases h
    obtain ⟨vs, g1, g2⟩ := key _ _ hv
    cases g2 with
    | cons _ u _ _ h1 h2 =>
      cases h2
      refine ⟨u, ?_, h1⟩
      have e : results fn a.tmps = (do let vs ← fn.results.mapM (resSem a); pure (if h : vs.size = 1 then vs[0] else .tuple vs)) := rfl
      rw [e, Array.mapM_eq_mapM_toList]
      simp only [Sem.run_bind, Sem.run_map]
      rw [g1]
      simp
  · rename_i vs hne hv
    cases h
    obtain ⟨us, g1, g2⟩ := key _ _ hv
    refine ⟨.tuple us.toArray, ?_, .tuple _ _ g2⟩
    have e : results fn a.tmps = (do let vs ← fn.results.mapM (resSem a); pure (if h : vs.size = 1 then vs[0] else .tuple vs)) := rfl
    rw [e, Array.mapM_eq_mapM_toList]
    simp only [Sem.run_bind, Sem.run_map]
    rw [g1]
    have : us.length ≠ 1 := fun e => by
      rw [g2.length] at e
      match vs, e with
      | [v], _ => exact hne v rfl
    simp [this]
  · cases h

end
end Go.Ev
end
section
set_option linter.unusedVariables false
set_option linter.unusedSimpArgs false
namespace Go.Ev
open Go.RowKit
section
variable {P : Program} {C : Mem} {w0 : World}

theorem run_callFunc {g : FuncId} {fn : Func} {c : Code} (hf : P.funcs[g]? = some fn) (hn : (fn.name == "runtime.NumGoroutine") = false) (hb : fn.body = some c) (args : Array Value) (w : World) :
    (callFunc g args).run P w = .ok (.enter g args) w := by
  simp [callFunc, program, Sem.run, hf, hb]
  simpa using hn

/-- What a call comes to. -/
def FPost (C : Mem) (w0 : World) (E : Emb) (H' : Heap) (r : AV) (e : Ending) (w' : World) : Prop :=
  ∃ E' v, e = .returned v ∧ E.le E' ∧ WRel C w0 E' H' w' ∧ Rep C E' r v

mutual
theorem EvF.sound (hm : P.follows .mixedOrders = true) : ∀ {f : FuncId} {args : List AV} {H : Heap} {r : AV} {H' : Heap}, EvF P f args H r H' →
    (∃ fn c, P.funcs[f]? = some fn ∧ (fn.name == "runtime.NumGoroutine") = false ∧ fn.body = some c) ∧
    ∀ {E : Emb} {w : World} {vs : List Value}, WRel C w0 E H w → RepL C E args vs → Calls P f vs.toArray w (FPost C w0 E H' r)
  | _, _, _, _, _, .mk f fn c args H ex env H' r hf hn hb ha h he hr => by
    refine ⟨⟨fn, c, hf, hn, hb⟩, fun {E w vs} hw hv => calls_of_wp hf hb (EvC.sound hm h hw (ERel.enter hv ha) (fun E' a' w' hE hw' her hd => ?_))⟩
    obtain ⟨v, h1, h2⟩ := results_ok (P := P) hw' her hr
    clear h
    rcases he with e | e
    · rw [e]; exact ⟨hd, v, h1, E', v, rfl, hE, hw', h2⟩
    · rw [e]; exact ⟨hd, v, h1, E', v, rfl, hE, hw', h2⟩
theorem EvC.sound (hm : P.follows .mixedOrders = true) : ∀ {n : Nat} {c : Code} {env : Env} {H : Heap} {ex : Ex} {env' : Env} {H' : Heap}, EvC P n c env H ex env' H' → ∀ {E : Emb} {w : World} {a : Act} {Q : Exit → Act → World → Prop}, WRel C w0 E H w → ERel C E n env a →
    (∀ E' a' w', E.le E' → WRel C w0 E' H' w' → ERel C E' n env' a' → a'.defers = a.defers → Q ex.out a' w') → c.wp P Q a w
  | _, _, _, _, _, _, _, .skip n env H, E, w, a, Q, hw, he, hQ => wp_skip (hQ E a w (Emb.le_refl _) hw he rfl)
  | _, _, _, _, _, _, _, .label n l env H, E, w, a, Q, hw, he, hQ => wp_label (hQ E a w (Emb.le_refl _) hw he rfl)
  | _, _, _, _, _, _, _, .region n id ops env H env' H' h, E, w, a, Q, hw, he, hQ => wp_region (EvS.sound hm h hw he hQ)
  | _, _, _, _, _, _, _, .draw n id ops env H env' H' h, E, w, a, Q, hw, he, hQ => wp_region_draw fun t => by
      simp only [Region.schedule, hm, Bool.true_or, if_true]
      exact EvS.sound hm (h t) (hw.chg (Chg.drew w (fun _ _ => False)) (fun _ _ hf => hf)) he hQ
  | _, _, _, _, _, _, _, .seq n x y env H env1 H1 ex env2 H2 h h', E, w, a, Q, hw, he, hQ => wp_seq (EvC.sound hm h hw he (fun E1 a1 w1 hE hw1 he1 hd => by
      show y.wp P Q a1 w1
      exact EvC.sound hm h' hw1 he1 (fun E2 a2 w2 hE2 hw2 he2 hd2 => hQ E2 a2 w2 (Emb.le_trans hE hE2) hw2 he2 (hd2.trans hd))))
  | _, _, _, _, _, _, _, .seqOut n x y env H ex env1 H1 h hx, E, w, a, Q, hw, he, hQ => wp_seq (EvC.sound hm h hw he (fun E1 a1 w1 hE hw1 he1 hd => by
      have := hQ E1 a1 w1 hE hw1 he1 hd
      clear h
      cases ex with
      | normal => exact absurd rfl hx
      | exit id => exact this
      | ret => exact this))
  | _, _, _, _, _, _, _, .cond n c x y t env H ex env1 H1 hc h, E, w, a, Q, hw, he, hQ => by
      have hx := he.eval c
      rw [hc] at hx
      exact wp_cond (rep_bool hx) (EvC.sound hm h hw he hQ)
  | _, _, _, _, _, _, _, .block n id c env H ex env1 H1 h hx, E, w, a, Q, hw, he, hQ => wp_block (EvC.sound hm h hw he (fun E1 a1 w1 hE hw1 he1 hd => by
      clear h
      rcases hx with e | e
      · rw [e]; exact hQ E1 a1 w1 hE hw1 he1 hd
      · rw [e]; simp only [Ex.out, Exit.inBlock, if_true]; exact hQ E1 a1 w1 hE hw1 he1 hd))
  | _, _, _, _, _, _, _, .blockOut n id c env H ex env1 H1 h hx, E, w, a, Q, hw, he, hQ => wp_block (EvC.sound hm h hw he (fun E1 a1 w1 hE hw1 he1 hd => by
      have := hQ E1 a1 w1 hE hw1 he1 hd
      clear h
      cases ex with
      | normal => exact absurd rfl hx.1
      | exit id' =>
        have hne : id' ≠ id := fun e => hx.2 (by rw [e])
        simp only [Ex.out, Exit.inBlock, if_neg hne]; exact this
      | ret => exact this))
  | _, _, _, _, _, _, _, .loop n c env H ex env' H' h, E, w, a, Q, hw, he, hQ => by
      intro b k cs
      obtain ⟨e, a', w', q, r⟩ := EvL.sound hm h hw he hQ b k cs
      exact ⟨e, a', w', q, .of_steps (.one step_loop) r⟩
  | _, _, _, _, _, _, _, .exit n id env H, E, w, a, Q, hw, he, hQ => wp_exit (hQ E a w (Emb.le_refl _) hw he rfl)
  | _, _, _, _, _, _, _, .ret n env H, E, w, a, Q, hw, he, hQ => wp_ret (hQ E a w (Emb.le_refl _) hw he rfl)
  | _, _, _, _, _, _, _, .scope n c env H ex env1 H1 h, E, w, a, Q, hw, he, hQ => wp_scope_straight (EvC.sound hm h hw he (fun E1 a1 w1 hE hw1 he1 hd => by
      have := hQ E1 a1 w1 hE hw1 he1 hd
      clear h
      cases ex <;> exact this))
theorem EvL.sound (hm : P.follows .mixedOrders = true) : ∀ {n : Nat} {c : Code} {env : Env} {H : Heap} {ex : Ex} {env' : Env} {H' : Heap}, EvL P n c env H ex env' H' → ∀ {E : Emb} {w : World} {a : Act} {Q : Exit → Act → World → Prop}, WRel C w0 E H w → ERel C E n env a →
    (∀ E' a' w', E.le E' → WRel C w0 E' H' w' → ERel C E' n env' a' → a'.defers = a.defers → Q ex.out a' w') →
    ∀ (b : Frame) (k : List Item) (cs : List Frame), ∃ e a' w', Q e a' w' ∧ Arrives P (lone (b.at a (.code c :: .inLoop c :: k)) cs w) b k cs e a' w'
  | _, _, _, _, _, _, _, .again n c env H env1 H1 ex env2 H2 h h', E, w, a, Q, hw, he, hQ => by
      intro b k cs
      obtain ⟨e1, a1, w1, q1, r1⟩ := EvC.sound (Q := fun e a' w' => e = .normal ∧ ∃ E1, E.le E1 ∧ WRel C w0 E1 H1 w' ∧ ERel C E1 n env1 a' ∧ a'.defers = a.defers) hm h hw he
        (fun E1 a1 w1 hE hw1 he1 hd => ⟨rfl, E1, hE, hw1, he1, hd⟩) b (.inLoop c :: k) cs
      obtain ⟨e, E1, hE, hw1, he1, hd⟩ := q1
      rw [e] at r1
      obtain ⟨e2, a2, w2, q2, r2⟩ := EvL.sound hm h' hw1 he1 (fun E2 a2 w2 hE2 hw2 he2 hd2 => hQ E2 a2 w2 (Emb.le_trans hE hE2) hw2 he2 (hd2.trans hd)) b k cs
      exact ⟨e2, a2, w2, q2, .of_steps (Steps.trans r1 (.one step_inLoop)) r2⟩
  | _, _, _, _, _, _, _, .out n c env H ex env1 H1 h hx, E, w, a, Q, hw, he, hQ => by
      intro b k cs
      obtain ⟨e1, a1, w1, q1, r1⟩ := EvC.sound (Q := fun e a' w' => e = ex.out ∧ Q e a' w') hm h hw he (fun E1 a1 w1 hE hw1 he1 hd => ⟨rfl, hQ E1 a1 w1 hE hw1 he1 hd⟩) b (.inLoop c :: k) cs
      obtain ⟨e, q1⟩ := q1
      exact ⟨_, a1, w1, q1, .pass (x := .inLoop c) rfl (fun _ _ => .inl (by rw [e]; clear h; cases ex <;> simp_all [Ex.out])) r1⟩
theorem EvS.sound (hm : P.follows .mixedOrders = true) : ∀ {n : Nat} {ops : Array Oper} {l : List Nat} {env : Env} {H : Heap} {env' : Env} {H' : Heap}, EvS P n ops l env H env' H' → ∀ {E : Emb} {w : World} {a : Act} {Q : Exit → Act → World → Prop}, WRel C w0 E H w → ERel C E n env a →
    (∀ E' a' w', E.le E' → WRel C w0 E' H' w' → ERel C E' n env' a' → a'.defers = a.defers → Q .normal a' w') → wpOps P ops Q l a w
  | _, _, _, _, _, _, _, .nil n ops env H, E, w, a, Q, hw, he, hQ => hQ E a w (Emb.le_refl _) hw he rfl
  | _, _, _, _, _, _, _, .skip n ops i l o env H env' H' ho hwt hd h, E, w, a, Q, hw, he, hQ => by
      simp only [wpOps, ho, he.wanted hwt, Bool.false_eq_true, if_false]
      exact EvS.sound hm h hw (he.put hd (.tuple [] [] .nil)) (fun E' a' w' hE hw' he' hd' => hQ E' a' w' hE hw' he' (by rw [hd']; cases o.dst <;> rfl))
  | _, _, _, _, _, _, _, .op n ops i l o env H r H1 env' H' ho hwt hd hfree hev h, E, w, a, Q, hw, he, hQ => by
      simp only [wpOps, ho, he.wanted hwt, if_true]
      left
      obtain ⟨nx, E1, w1, hrun, hE1, hw1, hres⟩ := op_sound (P := P) hw (fun x => he.eval x) hfree hev
      unfold Oper.wp
      rw [hrun]
      rcases hres with ⟨v, e, hr⟩ | ⟨e, hr⟩
      · rw [e]
        show wpOps P ops Q l (a.put o.dst v) w1
        exact EvS.sound hm h hw1 ((he.mono hE1).put hd hr) (fun E' a' w' hE hw' he' hd' => hQ E' a' w' (Emb.le_trans hE1 hE) hw' he' (by rw [hd']; cases o.dst <;> rfl))
      · rw [e]
        show wpOps P ops Q l (a.put o.dst undef) w1
        exact EvS.sound hm h hw1 ((he.mono hE1).put hd (hr ▸ .undef _)) (fun E' a' w' hE hw' he' hd' => hQ E' a' w' (Emb.le_trans hE1 hE) hw' he' (by rw [hd']; cases o.dst <;> rfl))
  | _, _, _, _, _, _, _, .hint n ops l m env H env' H' h, E, w, a, Q, hw, he, hQ =>
      EvS.sound hm h ⟨hw.below, hw.mem, hw.dom, hw.mdom, hw.row, hw.map, hw.sep, hw.msep, hw.memsep⟩ he hQ
  | _, _, _, _, _, _, _, .call n ops i l o f args ts g first cap env H r H1 env' H' ho hwt hd hop hf hc h, E, w, a, Q, hw, he, hQ => by
      simp only [wpOps, ho, he.wanted hwt, if_true]
      left
      obtain ⟨⟨fn, c, hg, hn, hb⟩, hcall⟩ := EvF.sound hm hc
      have hx := he.eval f
      rw [hf] at hx
      obtain ⟨vs, us, hev, hvs, hus⟩ : ∃ vs us, a.eval f = .func (.func g) vs.toArray us.toArray ∧ RepL C E first vs ∧ RepL C E cap us := by
        generalize a.eval f = u at hx
        cases hx; exact ⟨_, _, rfl, by assumption, by assumption⟩
      have hargs : RepL C E (first ++ args.toList.map env.at ++ cap) (vs ++ args.toList.map a.eval ++ us) := repL_append (repL_append hvs (repL_map (fun x => he.eval x) args.toList)) hus
      have hrun : (execOp a.eval o).run P w = .ok (.enter g (vs ++ args.toList.map a.eval ++ us).toArray) w := by
        have e1 : (vs ++ args.toList.map a.eval ++ us).toArray = vs.toArray ++ args.map a.eval ++ us.toArray := by apply Array.ext'; simp
        rw [e1]
        simp only [execOp, hop, resolve, hev, Deferred.ofValue, Sem.run_bind, Sem.run_pure, Result.andThen_ok, invoke]
        exact run_callFunc hg hn hb _ w
      unfold Oper.wp
      rw [hrun]
      show Calls P g _ w _
      refine (hcall hw hargs).mono fun e w1 hpost => ?_
      obtain ⟨E1, v, rfl, hE1, hw1, hr⟩ := hpost
      exact EvS.sound hm h hw1 ((he.mono hE1).put hd hr) (fun E' a' w' hE hw' he' hd' => hQ E' a' w' (Emb.le_trans hE1 hE) hw' he' (by rw [hd']; cases o.dst <;> rfl))
end

end
end Go.Ev
end
section
set_option linter.unusedVariables false
set_option linter.unusedSimpArgs false
namespace Go.Ev
section
variable (P : Program)

/-- The fields of a struct lie one behind the other. -/
def contig : List Field → Nat → Nat → Bool
  | [], off, tot => off == tot
  | f :: fs, off, tot => f.offset == off && contig fs (off + P.cellsOf f.type) tot

def layB (t : TypeId) : Bool :=
  match P.underlying t with
  | some (.struct fs) => contig P fs.toList 0 (P.cellsOf t)
  | _ => true

/-- The parts of a type lie in the table. -/
def kidB (n : Nat) (t : TypeId) : Bool :=
  match P.underlying t with
  | some (.struct fs) => fs.toList.all fun f => decide (f.type < n)
  | some (.slice e) => decide (e < n)
  | _ => true

/-- The cells of a value of type t that came in, read as a tree. -/
def Shp : Nat → TypeId → List AV → Prop
  | 0, _, _ => False
  | n + 1, t, as =>
    match P.underlying t with
    | some .bool => ∃ b, as = [.bool b]
    | some (.int k) => ∃ x, as = [.int k x] ∧ k.min ≤ x ∧ x ≤ k.max
    | some .string => ∃ l, as = [.str l] ∧ l.length ≤ reachBytes ∧ ∀ c ∈ l, c < 256
    | some (.slice e) => as = [.nilslice] ∨ (P.cellsOf e = 0 ∧ as = [.undef]) ∨ ∃ es, as = [.lst (P.cellsOf e) es] ∧ es.length * P.bytesOf e ≤ reachBytes ∧ ∀ cs ∈ es, cs.length = P.cellsOf e ∧ Shp n e cs
    | some (.struct fs) => as.length = P.cellsOf t ∧ ∀ f ∈ fs.toList, Shp n f.type ((as.drop f.offset).take (P.cellsOf f.type))
    | _ => True

theorem repL_undef {C : Mem} {E : Emb} : ∀ vs : List Value, RepL C E (vs.map fun _ => AV.undef) vs
  | [] => .nil
  | v :: vs => .cons _ _ _ _ (.undef v) (repL_undef vs)

theorem mapM_some_iff {α β : Type} {f : α → Option β} : ∀ {l : List α} {r : List β}, l.mapM f = some r → r.length = l.length ∧ ∀ (i : Nat) a, l[i]? = some a → ∃ b, f a = some b ∧ r[i]? = some b
  | [], r, h => by simp at h; subst h; simp
  | a :: l, r, h => by
    simp only [List.mapM_cons, Option.bind_eq_bind, Option.pure_def] at h
    cases ha : f a with
    | none => simp [ha] at h
    | some b =>
      cases hl : l.mapM f with
      | none => simp [ha, hl] at h
      | some bs =>
        simp [ha, hl] at h
        subst h
        obtain ⟨h1, h2⟩ := mapM_some_iff hl
        refine ⟨by simp [h1], fun i x hx => ?_⟩
        cases i with
        | zero => simp at hx; subst hx; exact ⟨b, ha, rfl⟩
        | succ i => simpa using h2 i x (by simpa using hx)

/-- Old memory. -/
def memOf (w : World) : Mem := fun b o => w.cell? ⟨b, o, none⟩

theorem repM_of {w : World} {E : Emb} {blk : Nat} : ∀ {as : List AV} {vs : List Value} {co : Nat}, RepL (memOf w) E as vs → (∀ j v, vs[j]? = some v → w.cell? ⟨blk, co + j, none⟩ = some v) → RepM (memOf w) E blk co as
  | _, _, _, .nil, _ => .nil _ _
  | _, _, co, .cons a v as vs h h', hc => .cons _ _ _ _ v (by simpa [memOf] using hc 0 v rfl) h (repM_of h' (fun j u hu => by rw [show co + 1 + j = co + (j + 1) by omega]; exact hc (j + 1) u (by simpa using hu)))

theorem cells_get {w : World} {a : Addr} {n : Nat} {cs : List Value} (h : w.cells? 0 a n = some cs) : cs.length = n ∧ ∀ j v, cs[j]? = some v → w.cell? (a.add j) = some v := by
  unfold World.cells? at h
  rw [if_pos (Nat.zero_le _)] at h
  obtain ⟨h1, h2⟩ := mapM_some_iff h
  refine ⟨by simpa using h1, fun j v hj => ?_⟩
  have hlt : j < n := by have := (List.getElem?_eq_some_iff.1 hj).1; simp at h1; omega
  obtain ⟨b, hb, hr⟩ := h2 j j (by simp [hlt])
  rw [hj] at hr; cases hr; exact hb

theorem spot_none {w : World} {a : Addr} {v : Value} (h : w.cell? (a.add 0) = some v) : a.spot = none := by
  have e : a.add 0 = a := by simp [Addr.add]
  rw [e] at h
  unfold World.cell? at h
  split at h
  · cases hs : a.spot with
    | none => rfl
    | some s => simp [hs] at h
  · cases h

theorem addr_eq {a : Addr} (h : a.spot = none) (n : Nat) : a.add n = ⟨a.block, a.off + n, none⟩ := by
  unfold Addr.add
  split
  · rename_i h0; subst h0; cases a; simp_all
  · simp [h]

set_option maxHeartbeats 1000000 in
theorem shp_of_trod {H : Type} {enc : TypeId × Value → H} {N : Nat} (hlay : ∀ t, t < N → layB P t = true ∧ kidB P N t = true) {w : World} {E : Emb} {spare : Nat → Bool} (hspare : ∀ b, spare b = true) {held : Bool} : ∀ (fuel : Nat) (t : TypeId) (cs : List Value) (d : DataW H) (ps : List MemPlace),
    t < N → DataW.trod enc P w 0 spare held fuel t cs = some (d, ps) → (d.weights P t).all (· ≤ reachBytes) = true → ∃ as, RepL (memOf w) E as cs ∧ Shp P fuel t as := by
  intro fuel
  induction fuel with
  | zero => intro t cs d ps _ h; simp [DataW.trod] at h
  | succ fuel ih =>
    intro t cs d ps htN h hwt
    have other : (∀ as, Shp P (fuel + 1) t as) → ∃ as, RepL (memOf w) E as cs ∧ Shp P (fuel + 1) t as := fun hs => ⟨_, repL_undef cs, hs _⟩
    have hlt := (hlay t htN).1
    have hkd := (hlay t htN).2
    cases hu : P.underlying t with
    | none => exact other (fun as => by simp [Shp, hu])
    | some td =>
      cases td with
      | bool =>
        simp only [DataW.trod, hu] at h
        split at h <;> first | (rename_i heq; cases heq) | skip
        all_goals first
          | (cases h; done)
          | (rename_i b heq; exact ⟨[.bool b], .cons _ _ _ _ (.bool b) .nil, by simp [Shp, hu]⟩)
          | (rename_i b; exact ⟨[.bool b], .cons _ _ _ _ (.bool b) .nil, by simp [Shp, hu]⟩)
          | skip
      | int k =>
        simp only [DataW.trod, hu] at h
        split at h <;> first | (cases h; done) | skip
        all_goals (try (rename_i heq; cases heq))
        split at h
        · rename_i hk
          obtain ⟨rfl, hwf⟩ := hk
          simp only [Lit.wf, Bool.and_eq_true, decide_eq_true_eq] at hwf
          rename_i n
          exact ⟨[.int _ n], .cons _ _ _ _ (.int _ n) .nil, by simp [Shp, hu]; exact hwf⟩
        · cases h
      | string =>
        simp only [DataW.trod, hu] at h
        split at h <;> first | (cases h; done) | skip
        all_goals (try (rename_i heq; cases heq))
        split at h
        · rename_i s hs
          cases h
          refine ⟨[.str (strOf s)], .cons _ _ _ _ (.str s _ rfl) .nil, ?_⟩
          simp only [Shp, hu]
          refine ⟨_, rfl, ?_, fun c hc => ?_⟩
          · simpa [DataW.weights, strOf_length] using hwt
          · unfold strOf at hc
            obtain ⟨x, _, rfl⟩ := List.mem_map.1 hc
            exact x.toNat_lt
        · cases h
      | slice e =>
        simp only [DataW.trod, hu] at h
        split at h <;> first | (cases h; done) | skip
        all_goals (try (rename_i heq; cases heq))
        · cases h
          exact ⟨[.nilslice], .cons _ _ _ _ .nilslice .nil, by simp [Shp, hu]⟩
        · rename_i a len cap
          split at h
          · rename_i hb
            obtain ⟨hb1, hb2, hb3⟩ := hb
            by_cases h0 : P.cellsOf e = 0
            · exact ⟨[.undef], .cons _ _ _ _ (.undef _) .nil, by simp [Shp, hu, h0]⟩
            · simp only [Option.bind_eq_some_iff, Option.map_eq_some_iff] at h
              obtain ⟨elems, he, rest, hr, heq⟩ := h
              cases heq
              rw [if_pos (hspare _)] at hr
              obtain ⟨l1, g1⟩ := mapM_some_iff he
              obtain ⟨l2, g2⟩ := mapM_some_iff hr
              simp only [List.length_range] at l1 l2
              have hw0 : (elems.length + rest.length) * P.bytesOf e ≤ reachBytes ∧ (∀ x ∈ elems, (x.1.weights P e).all (· ≤ reachBytes) = true) := by
                simp only [DataW.weights, hu, List.all_cons, List.all_append, Bool.and_eq_true, decide_eq_true_eq, List.length_map] at hwt
                refine ⟨hwt.1, fun x hx => ?_⟩
                have hall := hwt.2.1
                clear hwt g1 g2 he hr l1 l2
                induction elems with
                | nil => cases hx
                | cons y ys ihy =>
                  simp only [List.map_cons, DataW.weightsAll, List.all_append, Bool.and_eq_true] at hall
                  rcases List.mem_cons.1 hx with rfl | hx
                  · exact hall.1
                  · exact ihy hx hall.2
              -- the first cell tells that the address is a plain one
              have hspot : 0 < cap → a.spot = none := fun hc => by
                have hfirst : ∃ x, (w.cells? 0 (a.add (0 * P.cellsOf e)) (P.cellsOf e)) = some x := by
                  by_cases hl : 0 < len
                  · obtain ⟨b, hb, _⟩ := g1 0 0 (by simp [hl])
                    obtain ⟨x, hx, _⟩ := Option.bind_eq_some_iff.1 hb
                    exact ⟨x, hx⟩
                  · obtain ⟨b, hb, _⟩ := g2 0 0 (List.getElem?_range (by omega))
                    obtain ⟨x, hx, _⟩ := Option.bind_eq_some_iff.1 hb
                    have : len + 0 = 0 := by omega
                    rw [this] at hx
                    exact ⟨x, hx⟩
                obtain ⟨x, hx⟩ := hfirst
                obtain ⟨q1, q2⟩ := cells_get hx
                have hx0 : 0 < x.length := by omega
                have := q2 0 x[0] (List.getElem?_eq_getElem hx0)
                rw [Nat.zero_mul] at this
                have e1 : (a.add 0).add 0 = a.add 0 := by simp [Addr.add]
                rw [e1] at this
                exact spot_none this
              have hels : ∀ (n : Nat), n ≤ len → ∃ es : List (List AV), es.length = n ∧ RepE (memOf w) E a.block (a.off + (len - n) * P.cellsOf e) (P.cellsOf e) es ∧ ∀ cs ∈ es, cs.length = P.cellsOf e ∧ Shp P fuel e cs := by
                intro n
                induction n with
                | zero => intro _; exact ⟨[], rfl, .nil _ _ _, by simp⟩
                | succ n ihn =>
                  intro hn
                  obtain ⟨es, e1, e2, e3⟩ := ihn (by omega)
                  have hi : len - (n + 1) < len := by omega
                  obtain ⟨b, hb, hget⟩ := g1 (len - (n + 1)) (len - (n + 1)) (by simp [hi])
                  obtain ⟨x, hx, htr⟩ := Option.bind_eq_some_iff.1 hb
                  obtain ⟨q1, q2⟩ := cells_get hx
                  obtain ⟨as, r1, r2⟩ := ih e x b.1 b.2 (by simpa [kidB, hu] using hkd) htr (hw0.2 b (List.mem_of_getElem? hget))
                  have hal : as.length = P.cellsOf e := by rw [← r1.length, q1]
                  have hm : RepM (memOf w) E a.block (a.off + (len - (n + 1)) * P.cellsOf e) as := repM_of r1 (fun j v hj => by
                    have := q2 j v hj
                    rw [addr_eq (hspot (by omega))] at this
                    rwa [Addr.add_lit] at this)
                  refine ⟨as :: es, by simp [e1], .cons _ _ _ _ _ hal hm ?_, fun cs hcs => ?_⟩
                  · rw [show a.off + (len - (n + 1)) * P.cellsOf e + P.cellsOf e = a.off + (len - n) * P.cellsOf e by
                      rw [show len - n = len - (n + 1) + 1 by omega, Nat.add_mul]; omega]
                    exact e2
                  · rcases List.mem_cons.1 hcs with rfl | hcs
                    · exact ⟨hal, r2⟩
                    · exact e3 cs hcs
              obtain ⟨es, e1, e2, e3⟩ := hels len (Nat.le_refl _)
              rw [Nat.sub_self, Nat.zero_mul, Nat.add_zero] at e2
              refine ⟨[.lst (P.cellsOf e) es], .cons _ _ _ _ (.lst _ es a.block a.off len cap a e2 e1.symm hb2 (fun hpos => ?_)) .nil, ?_⟩
              · have := hspot hpos
                cases a; simp_all
              · simp only [Shp, hu]
                refine .inr (.inr ⟨es, rfl, ?_, e3⟩)
                have : es.length * P.bytesOf e ≤ (elems.length + rest.length) * P.bytesOf e := Nat.mul_le_mul_right _ (by omega)
                omega
          · cases h
      | struct fs =>
        simp only [DataW.trod, hu] at h
        split at h
        · rename_i hlen
          simp only [Option.map_eq_some_iff] at h
          obtain ⟨xs, hxs, heq⟩ := h
          cases heq
          obtain ⟨l1, g1⟩ := mapM_some_iff hxs
          unfold layB at hlt
          simp only [hu] at hlt
          have hwf : ∀ (i : Nat) (f : Field) (x : DataW H × List MemPlace), fs.toList[i]? = some f → xs[i]? = some x → (x.1.weights P f.type).all (· ≤ reachBytes) = true := by
            simp only [DataW.weights, hu] at hwt
            generalize fs.toList = fl at *
            clear g1 hxs hlt l1
            induction fl generalizing xs with
            | nil => intro i f x hf; simp at hf
            | cons f0 fl ihf =>
              intro i f x hf hx
              cases xs with
              | nil => simp at hx
              | cons x0 xs =>
                simp only [List.map_cons, DataW.weightsEach, List.all_append, Bool.and_eq_true] at hwt
                cases i with
                | zero => simp at hf hx; subst hf; subst hx; exact hwt.1
                | succ i => exact ihf xs hwt.2 i f x (by simpa using hf) (by simpa using hx)
          -- field by field
          have key : ∀ (fl : List Field) (off : Nat), contig P fl off (P.cellsOf t) = true → off ≤ cs.length → (∀ (i : Nat) (f : Field), fl[i]? = some f → ∃ x, DataW.trod enc P w 0 spare held fuel f.type ((cs.drop f.offset).take (P.cellsOf f.type)) = some x ∧ (x.1.weights P f.type).all (· ≤ reachBytes) = true ∧ f.type < N) →
              ∃ as, RepL (memOf w) E as (cs.drop off) ∧ ∀ f ∈ fl, off ≤ f.offset ∧ Shp P fuel f.type ((as.drop (f.offset - off)).take (P.cellsOf f.type)) := by
            intro fl
            induction fl with
            | nil => intro off _ _ _; exact ⟨_, repL_undef _, by simp⟩
            | cons f fl ihf =>
              intro off hc hoff hall
              simp only [contig, Bool.and_eq_true, beq_iff_eq] at hc
              obtain ⟨hfo, hc⟩ := hc
              obtain ⟨x, hx, hxw, hfN⟩ := hall 0 f rfl
              obtain ⟨as1, r1, r2⟩ := ih f.type _ x.1 x.2 hfN hx hxw
              have hle : off + P.cellsOf f.type ≤ cs.length := by
                have : ∀ (fl : List Field) (o : Nat), contig P fl o (P.cellsOf t) = true → o ≤ P.cellsOf t := by
                  intro fl
                  induction fl with
                  | nil => intro o h; simp [contig] at h; omega
                  | cons g gl ihg => intro o h; simp only [contig, Bool.and_eq_true] at h; have := ihg _ h.2; omega
                have := this fl _ hc
                omega
              obtain ⟨as2, q1, q2⟩ := ihf _ hc hle (fun i g hg => hall (i + 1) g (by simpa using hg))
              have hl1 : as1.length = P.cellsOf f.type := by
                have := r1.length
                simp at this
                omega
              refine ⟨as1 ++ as2, ?_, fun g hg => ?_⟩
              · have e : cs.drop off = (cs.drop f.offset).take (P.cellsOf f.type) ++ cs.drop (off + P.cellsOf f.type) := by
                  rw [hfo, ← List.drop_drop]
                  exact (List.take_append_drop _ _).symm
                rw [e]
                exact repL_append r1 q1
              · rcases List.mem_cons.1 hg with rfl | hg
                · refine ⟨by omega, ?_⟩
                  rw [hfo, Nat.sub_self, List.drop_zero, List.take_append_of_le_length (by omega), List.take_of_length_le (by omega)]
                  exact r2
                · obtain ⟨w1, w2⟩ := q2 g hg
                  refine ⟨by omega, ?_⟩
                  rw [show g.offset - off = as1.length + (g.offset - (off + P.cellsOf f.type)) by omega, List.drop_length_add_append]
                  exact w2
          obtain ⟨as, r1, r2⟩ := key fs.toList 0 hlt (Nat.zero_le _) (fun i f hf => by
            obtain ⟨x, hx, hxi⟩ := g1 i f hf
            exact ⟨x, hx, hwf i f x hf hxi, by
              have hk := hkd
              simp only [kidB, hu, List.all_eq_true, decide_eq_true_eq] at hk
              exact hk f (List.mem_of_getElem? hf)⟩)
          rw [List.drop_zero] at r1
          refine ⟨as, r1, ?_⟩
          simp only [Shp, hu]
          refine ⟨by have := r1.length; omega, fun f hf => ?_⟩
          have := (r2 f hf).2
          rwa [Nat.sub_zero] at this
        · cases h
      | _ => exact other (fun as => by simp [Shp, hu])
end
end Go.Ev
end
section
set_option linter.unusedVariables false
set_option linter.unusedSimpArgs false
namespace Go.Ev

/-! ### What an operation asks of the heap -/

/-- 0: nothing; 1: it reads; 2: it makes a block; 3: all else. -/
def opKind (P : Program) : Op → Nat
  | .move _ | .assign _ | .pick .. | .unOp .. | .makeInterface .. | .makeFunc .. | .fieldAddr .. | .field .. | .index .. | .extract .. | .nilCheck _ | .build .. | .binOp .. => 0
  | .load .. | .indexAddr .. | .slice .. | .lookup .. => 1
  | .convert s d _ => if isTextT P s d = true then 2 else 1
  | .alloc _ | .box .. | .buildSlice .. | .makeSlice .. => 2
  | .call { callee := .builtin .len, .. } => 1
  | .call { callee := .builtin .max, .. } => 0
  | .call { callee := .builtin .min, .. } => 0
  | _ => 3

section
variable {P : Program} {ρ : Operand → AV} {o : Oper} {H : Heap} {r : AV} {H' : Heap}

theorem evBuiltin_pure {b : Builtin} {ts : Array TypeId} {as : List AV} (hb : b = .max ∨ b = .min) (h : evBuiltin P H b ts as = some (r, H')) : H' = H ∧ ∀ G, evBuiltin P G b ts as = some (r, G) := by
  rcases hb with rfl | rfl
  all_goals
    match as, h with
    | [.int k x, .int k' y], h =>
      simp only [evBuiltin] at h ⊢
      split at h
      · rename_i hk; cases h; exact ⟨rfl, fun G => by simp [hk]⟩
      · cases h

theorem kind0 (hk : opKind P o.op = 0) (h : evOp P ρ o H = some (r, H')) : H' = H ∧ ∀ G, evOp P ρ o G = some (r, G) := by
  obtain ⟨dst, op, type, pos, after, guard⟩ := o
  cases op <;> first | (simp [opKind] at hk; done) | (simp only [opKind] at hk; split at hk <;> cases hk; done) | skip
  case call c =>
    obtain ⟨callee, args, ts⟩ := c
    cases callee with
    | value f => simp [opKind] at hk
    | invoke x m => simp [opKind] at hk
    | builtin b =>
      simp only [evOp] at h ⊢
      refine evBuiltin_pure ?_ h
      cases b <;> simp [opKind] at hk ⊢
  case pick c a b =>
    simp only [evOp] at h ⊢
    split at h
    · rename_i t ht; cases h; exact ⟨rfl, fun G => by simp [ht]⟩
    · cases h
  case makeInterface t x =>
    simp only [evOp] at h ⊢
    split at h
    · rename_i d hd
      split at h
      · cases h
      · rename_i hi; cases h; exact ⟨rfl, fun G => by simp [hd, hi]⟩
    · cases h
  case fieldAddr s x f =>
    simp only [evOp] at h ⊢
    split at h
    · rename_i fd hfd
      split at h
      · rename_i n b i o g hn hx
        split at h
        · cases h
        · rename_i h0; cases h; exact ⟨rfl, fun G => by simp [hfd, hn, hx, h0]⟩
      · rename_i n cs o hn hx
        split at h
        · cases h
        · rename_i h0; cases h; exact ⟨rfl, fun G => by simp [hfd, hn, hx, h0]⟩
      · cases h
    · cases h
  case field s x f =>
    simp only [evOp] at h ⊢
    split at h
    · rename_i fd cs hfd hx
      obtain ⟨a, ha, e⟩ := map_some_eq h
      cases e
      exact ⟨rfl, fun G => by simp [hfd, hx, ha]⟩
    · cases h
  case extract t i =>
    simp only [evOp] at h ⊢
    split at h
    · rename_i vs hx
      obtain ⟨a, ha, e⟩ := map_some_eq h
      cases e
      exact ⟨rfl, fun G => by simp [hx, ha]⟩
    · cases h
  case nilCheck x =>
    simp only [evOp] at h ⊢
    split at h
    · rename_i hx; cases h; exact ⟨rfl, fun G => by simp [hx]⟩
    · rename_i hx; cases h; exact ⟨rfl, fun G => by simp [hx]⟩
    · cases h
  all_goals
    simp only [evOp] at h ⊢
    first
      | (cases h; exact ⟨rfl, fun G => rfl⟩)
      | (obtain ⟨a, ha, e⟩ := map_some_eq h; cases e; exact ⟨rfl, fun G => by simp [ha]⟩)

theorem load_up {a : AV} {n : Nat} {cs : List AV} (h : H.load a n = some cs) {G : Heap} (hG : ∀ b x, H.blk b = some x → G.blk b = some x) : G.load a n = some cs := by
  unfold Heap.load at h ⊢
  split at h
  · exact h
  · split at h
    · rename_i hb; rw [hG _ _ hb]; exact h
    · cases h
  · cases h

theorem eszOf_up {b g s : Nat} (h : H.eszOf b g = some s) {G : Heap} (hG : ∀ b x, H.blk b = some x → G.blk b = some x) : G.eszOf b g = some s := by
  unfold Heap.eszOf at h ⊢
  split at h
  · rename_i hb; rw [hG _ _ hb]; exact h
  · cases h

theorem evIndexAddr_up {t : TypeId} {a i r : AV} (h : evIndexAddr P H t a i = some r) {G : Heap} (hG : ∀ b x, H.blk b = some x → G.blk b = some x) : evIndexAddr P G t a i = some r := by
  unfold evIndexAddr at h ⊢
  split at h
  · split at h
    · rename_i e b off len cap ex g ht
      split at h
      · rename_i hb
        obtain ⟨hb1, hb2, hb3⟩ := hb
        obtain ⟨s, hs, e'⟩ := map_some_eq h
        have := eszOf_up (hb3.symm.trans hs) hG
        rw [if_pos ⟨hb1, hb2, by rw [hs, this]⟩]
        exact h
      · cases h
    · rename_i e sz es ht
      exact h
    · cases h
  · cases h

theorem evSlice_up {t : TypeId} {a r : AV} {l hh m : Option Int} (h : evSlice P H t a l hh m = some r) {G : Heap} (hG : ∀ b x, H.blk b = some x → G.blk b = some x) : evSlice P G t a l hh m = some r := by
  have key : ∀ e b g, (decide ((szOf P e).isSome = true ∧ szOf P e = H.eszOf b g)) = true → (decide ((szOf P e).isSome = true ∧ szOf P e = G.eszOf b g)) = true := fun e b g hd => by
    simp only [decide_eq_true_eq] at hd ⊢
    obtain ⟨s, hs⟩ := Option.isSome_iff_exists.1 hd.1
    exact ⟨hd.1, by rw [hs, eszOf_up (hd.2.symm.trans hs) hG]⟩
  simp only [evSlice] at h ⊢
  split at h
  all_goals (try exact h)
  · rename_i e b off len cap ex g ht
    split at h
    · rename_i hb
      simp only [Bool.and_eq_true] at hb
      rw [if_pos (by simp only [Bool.and_eq_true]; exact ⟨hb.1, key _ _ _ hb.2⟩)]
      exact h
    · cases h
  · rename_i e b off len cap ex g m ht
    split at h
    · split at h
      · rename_i hb
        simp only [Bool.and_eq_true] at hb
        rw [if_pos (by simp only [Bool.and_eq_true]; exact ⟨hb.1, key _ _ _ hb.2⟩)]
        exact h
      · cases h
    · cases h

theorem evLookup_up {t : TypeId} {m k r : AV} {ok : Bool} (h : evLookup P H t m k ok = some r) {G : Heap} (hG : ∀ b x, H.blk b = some x → G.blk b = some x) : evLookup P G t m k ok = some r := by
  unfold evLookup at h ⊢
  split at h
  · split at h
    · rename_i hs
      rw [if_pos hs]
      split at h
      · exact h
      · split at h
        · rename_i hb; rw [hG _ _ hb]; exact h
        · cases h
      · cases h
    · cases h
  · cases h

theorem evLookupW_up {t : TypeId} {m k r : AV} {ok : Bool} (h : evLookupW P H t m k ok = some r) {G : Heap} (hG : ∀ b x, H.blk b = some x → G.blk b = some x) : evLookupW P G t m k ok = some r := by
  unfold evLookupW at h ⊢
  split at h
  · split at h
    · rename_i hs
      rw [if_pos hs]
      split at h
      · exact h
      · split at h
        · rename_i hb; rw [hG _ _ hb]; exact h
        · cases h
      · cases h
    · cases h
  · cases h
theorem evLook_up {t : TypeId} {m k r : AV} {ok : Bool} (h : evLook P H t m k ok = some r) {G : Heap} (hG : ∀ b x, H.blk b = some x → G.blk b = some x) : evLook P G t m k ok = some r := by
  unfold evLook at h ⊢
  split at h
  · exact evLookupW_up h hG
  · exact evLookup_up h hG

theorem elems_up' {esz n : Nat} {a : AV} {new : List (List AV)} (h : H.elems esz n a = some new) {G : Heap} (hG : ∀ b x, H.blk b = some x → G.blk b = some x) : G.elems esz n a = some new := by
  unfold Heap.elems at h ⊢
  split at h <;> first | (cases h; done) | exact h | skip
  · split at h
    · rename_i hb; rw [hG _ _ hb]; exact h
    · cases h

theorem evBytes_up {s d : TypeId} {x r : AV} (h : evBytes P H s d x = some r) {G : Heap} (hG : ∀ b x, H.blk b = some x → G.blk b = some x) : evBytes P G s d x = some r := by
  unfold evBytes at h ⊢
  split at h
  · split at h
    · rename_i b off len cap ex g he
      cases hel : H.elems 1 len (.slice b off len cap ex g) with
      | none => simp [hel] at h
      | some cells => rw [elems_up' hel hG]; rw [hel] at h; exact h
    · cases h
  · cases h

theorem kind1 (hk : opKind P o.op = 1) (h : evOp P ρ o H = some (r, H')) : H' = H ∧ ∀ G : Heap, (∀ b x, H.blk b = some x → G.blk b = some x) → evOp P ρ o G = some (r, G) := by
  obtain ⟨dst, op, type, pos, after, guard⟩ := o
  cases op <;> simp only [evOp] at h ⊢ <;> first | (simp [opKind] at hk; done) | skip
  case load t a =>
    split at h
    · rename_i n h1 h2
      obtain ⟨cs, hc, e⟩ := map_some_eq h
      cases e
      exact ⟨rfl, fun G hG => by simp [h1, h2, load_up hc hG]⟩
    · rename_i h1
      split at h
      · rename_i v hv
        cases h
        exact ⟨rfl, fun G hG => by simp [h1, load_up hv hG]⟩
      · cases h
    · cases h
  case indexAddr t x i =>
    obtain ⟨a, ha, e⟩ := map_some_eq h
    cases e
    exact ⟨rfl, fun G hG => by simp [evIndexAddr_up ha hG]⟩
  case slice t x lo hi mx =>
    split at h
    · rename_i l hh m h1 h2 h3
      obtain ⟨a, ha, e⟩ := map_some_eq h
      cases e
      exact ⟨rfl, fun G hG => by simp [h1, h2, h3, evSlice_up ha hG]⟩
    · cases h
  case convert s d x =>
    simp only [opKind] at hk
    by_cases ht : isTextT P s d = true
    · rw [if_pos ht] at hk; cases hk
    · rw [if_neg ht] at h
      split at h
      · rename_i a ha
        cases h
        exact ⟨rfl, fun G hG => by simp [ht, ha]⟩
      · rename_i hn
        obtain ⟨a, ha, e⟩ := map_some_eq h
        cases e
        exact ⟨rfl, fun G hG => by simp [ht, hn, evBytes_up ha hG]⟩
  case lookup t x k ok =>
    obtain ⟨a, ha, e⟩ := map_some_eq h
    cases e
    exact ⟨rfl, fun G hG => by simp [evLook_up ha hG]⟩
  case call c =>
    obtain ⟨callee, args, ts⟩ := c
    cases callee with
    | value f => simp [opKind] at hk
    | invoke x m => simp [opKind] at hk
    | builtin b =>
      cases b <;> first | (simp [opKind] at hk; done) | skip
      simp only at h ⊢
      generalize args.toList.map ρ = as at *
      match as, h with
      | [x], h =>
        simp only [evBuiltin] at h ⊢
        split at h <;> first | (cases h; done) | (cases h; exact ⟨rfl, fun G hG => by simp_all⟩) | skip
        rename_i b hd
        split at h
        · rename_i es cl hb
          cases h
          refine ⟨rfl, fun G hG => ?_⟩
          have := hG _ _ hb
          simp [hd, this]
        · cases h
      | [], h => simp [evBuiltin] at h
      | _ :: _ :: _, h => simp [evBuiltin] at h

theorem kind2 (hk : opKind P o.op = 2) (h : evOp P ρ o H = some (r, H')) : ∃ x, H' = H.push x ∧ ∀ G : Heap, G.next = H.next → evOp P ρ o G = some (r, G.push x) := by
  obtain ⟨dst, op, type, pos, after, guard⟩ := o
  cases op <;> simp only [evOp] at h ⊢ <;> first | (simp [opKind] at hk; done) | skip
  case alloc t =>
    split at h
    · rename_i z hz
      split at h
      · cases h
      · rename_i hu
        cases h
        exact ⟨_, rfl, fun G hG => by simp [hz, hu, hG]⟩
    · cases h
  case box t x =>
    split at h
    · cases h
    · rename_i hu
      cases h
      exact ⟨_, rfl, fun G hG => by simp [hu, hG]⟩
  case buildSlice t len parts =>
    unfold evBuildSlice at h ⊢
    cases he : elemOfSlice P t with
    | none => simp [he] at h
    | some e =>
      simp only [he, Option.bind_some] at h ⊢
      split at h
      · rename_i s z hs hz
        split at h
        · rename_i hc
          cases hf : fillE s (List.replicate len z.cells) (parts.toList.map fun p => (p.1, ρ p.2)) with
          | none => simp [hf] at h
          | some els =>
            simp only [hf, Option.map_some, Option.some.injEq, Prod.mk.injEq] at h
            obtain ⟨rfl, rfl⟩ := h
            exact ⟨_, rfl, fun G hG => by simp [hs, hz, hc, hf, hG]⟩
        · cases h
      · cases h
  case convert s d x =>
    simp only [opKind] at hk
    by_cases ht : isTextT P s d = true
    · rw [if_pos ht] at h
      unfold evText at h
      split at h
      · rename_i e l hd hx
        split at h
        · rename_i he
          cases h
          exact ⟨_, rfl, fun G hG => by simp [ht, evText, hd, hx, he, hG]⟩
        · cases h
      · cases h
    · rw [if_neg ht] at hk; cases hk
  case makeSlice t l c =>
    unfold evMakeSlice at h ⊢
    cases he : elemOfSlice P t with
    | none => simp [he] at h
    | some e =>
      simp only [he, Option.bind_some] at h ⊢
      split at h
      · rename_i it z k l' k' c' hi hz hl hc
        split at h
        · rename_i hcc
          cases h
          exact ⟨_, rfl, fun G hG => by rw [if_pos hcc, hG]⟩
        · cases h
      · cases h
  case call c =>
    obtain ⟨callee, args, ts⟩ := c
    cases callee with
    | value f => simp [opKind] at hk
    | invoke x m => simp [opKind] at hk
    | builtin b => cases b <;> simp [opKind] at hk

/-! ### What an operation does to the heap, in any heap that holds more -/

def Up (H G : Heap) : Prop := ∀ b x, H.blk b = some x → G.blk b = some x

def Local (F : Heap → Option (AV × Heap)) (H : Heap) (r : AV) (H' : Heap) : Prop :=
  (H' = H ∧ ∀ G, Up H G → F G = some (r, G)) ∨
  (∃ x, H' = H.push x ∧ ∀ G : Heap, Up H G → G.next = H.next → F G = some (r, G.push x)) ∨
  (∃ b x y, H.blk b = some y ∧ H' = H.set b x ∧ ∀ G : Heap, Up H G → F G = some (r, G.set b x))

theorem store_local {a : AV} {vs : List AV} (h : H.store a vs = some H') : ∃ b x y, H.blk b = some y ∧ H' = H.set b x ∧ ∀ G : Heap, Up H G → G.store a vs = some (G.set b x) := by
  unfold Heap.store at h
  split at h
  · rename_i b i o g
    split at h
    · rename_i ty esz els gen wgen hb
      split at h
      · rename_i hc
        split at h
        · rename_i cs hi
          cases h
          exact ⟨b, _, _, hb, rfl, fun G hG => by simp only [Heap.store, hG _ _ hb, hi]; rw [if_pos hc]⟩
        · cases h
      · cases h
    · cases h
  · cases h

theorem elems_up {esz n : Nat} {a : AV} {new : List (List AV)} (h : H.elems esz n a = some new) {G : Heap} (hG : Up H G) : G.elems esz n a = some new := by
  unfold Heap.elems at h ⊢
  split at h <;> first | (cases h; done) | exact h | skip
  · split at h
    · rename_i hb; rw [hG _ _ hb]; exact h
    · cases h

theorem append_local {e : TypeId} {esz bytes : Nat} {s : AV} {new : List (List AV)} (h : H.append e esz bytes s new = some (r, H')) : Local (fun G => G.append e esz bytes s new) H r H' := by
  unfold Heap.append at h
  split at h
  case isFalse => cases h
  rename_i hcell
  split at h
  · split at h
    · rename_i h0; cases h; exact .inl ⟨rfl, fun G hG => by simp only [Heap.append]; rw [if_pos hcell, if_pos h0]⟩
    · rename_i h0
      split at h
      · rename_i hc; cases h; exact .inr (.inl ⟨_, rfl, fun G hG hn => by simp only [Heap.append]; rw [if_pos hcell, if_neg h0, if_pos hc, hn]⟩)
      · cases h
  · split at h
    · rename_i h0; cases h; exact .inl ⟨rfl, fun G hG => by simp only [Heap.append]; rw [if_pos hcell, if_pos h0]⟩
    · rename_i h0
      split at h
      · rename_i hc; cases h; exact .inr (.inl ⟨_, rfl, fun G hG hn => by simp only [Heap.append]; rw [if_pos hcell, if_neg h0, if_pos hc, hn]⟩)
      · cases h
  · split at h
    · rename_i h0; cases h; exact .inl ⟨rfl, fun G hG => by simp only [Heap.append]; rw [if_pos hcell, if_pos h0]⟩
    · cases h
  · split at h
    · rename_i h0; cases h; exact .inl ⟨rfl, fun G hG => by simp only [Heap.append]; rw [if_pos hcell, if_pos h0]⟩
    · rename_i h0
      split at h
      · rename_i ty sz els gen wgen hb
        split at h
        · rename_i hc
          split at h
          · rename_i hfit
            split at h
            · rename_i hg
              cases h
              exact .inr (.inr ⟨_, _, _, hb, rfl, fun G hG => by simp only [Heap.append, hG _ _ hb]; rw [if_pos hcell, if_neg h0, if_pos hc, if_pos hfit, if_pos hg]⟩)
            · cases h
          · rename_i hfit
            split at h
            · rename_i hex
              cases h
              exact .inr (.inl ⟨_, rfl, fun G hG hn => by simp only [Heap.append, hG _ _ hb]; rw [if_pos hcell, if_neg h0, if_pos hc, if_neg hfit, if_pos hex, hn]⟩)
            · rename_i hex
              split at h
              · rename_i hg
                cases h
                exact .inr (.inr ⟨_, _, _, hb, rfl, fun G hG => by simp only [Heap.append, hG _ _ hb]; rw [if_pos hcell, if_neg h0, if_pos hc, if_neg hfit, if_neg hex, if_pos hg]⟩)
              · cases h
        · cases h
      · cases h
  · cases h

theorem mapUpdate_local {t : TypeId} {m k x : AV} (h : evMapUpdate P H t m k x = some H') : ∃ b x' y, H.blk b = some y ∧ H' = H.set b x' ∧ ∀ G : Heap, Up H G → evMapUpdate P G t m k x = some (G.set b x') := by
  unfold evMapUpdate at h
  split at h
  · rename_i kt et l b ht
    split at h
    · rename_i hs
      split at h
      · rename_i es cl hb
        split at h
        · rename_i i v n hf
          cases h
          exact ⟨b, _, _, hb, rfl, fun G hG => by simp only [evMapUpdate, ht, hG _ _ hb, hf]; rw [if_pos hs]⟩
        · rename_i hf
          cases h
          exact ⟨b, _, _, hb, rfl, fun G hG => by simp only [evMapUpdate, ht, hG _ _ hb, hf]; rw [if_pos hs]⟩
        · cases h
      · cases h
    · cases h
  · cases h

theorem mapUpdateW_local {t : TypeId} {m k x : AV} (h : evMapUpdateW P H t m k x = some H') : ∃ b x' y, H.blk b = some y ∧ H' = H.set b x' ∧ ∀ G : Heap, Up H G → evMapUpdateW P G t m k x = some (G.set b x') := by
  unfold evMapUpdateW at h
  split at h
  · rename_i kt et b ht
    split at h
    · rename_i hs
      split at h
      · rename_i es cl hb
        split at h
        · rename_i hall
          split at h
          · rename_i i v n hf
            cases h
            exact ⟨b, _, _, hb, rfl, fun G hG => by simp only [evMapUpdateW, ht, hG _ _ hb, hf]; rw [if_pos hs, if_pos hall]⟩
          · rename_i hf
            cases h
            exact ⟨b, _, _, hb, rfl, fun G hG => by simp only [evMapUpdateW, ht, hG _ _ hb, hf]; rw [if_pos hs, if_pos hall]⟩
        · cases h
      · cases h
    · cases h
  · cases h
theorem mapUpd_local {t : TypeId} {m k x : AV} (h : evMapUpd P H t m k x = some H') : ∃ b x' y, H.blk b = some y ∧ H' = H.set b x' ∧ ∀ G : Heap, Up H G → evMapUpd P G t m k x = some (G.set b x') := by
  unfold evMapUpd at h
  split at h
  · exact mapUpdateW_local h
  · rename_i hne
    obtain ⟨b, x', y, q1, q2, q3⟩ := mapUpdate_local h
    exact ⟨b, x', y, q1, q2, fun G hG => by
      rw [← q3 G hG]
      unfold evMapUpd
      split
      · rename_i cs; exact absurd rfl (hne cs)
      · rfl⟩

theorem delete_local {ts : Array TypeId} {m k r : AV} (h : evDelete P H ts m k = some (r, H')) : Local (fun G => evDelete P G ts m k) H r H' := by
  unfold evDelete at h
  split at h
  · rename_i kt et l b ht
    split at h
    · rename_i hs
      split at h
      · rename_i es cl hb
        split at h
        · rename_i i v n hf
          cases h
          exact .inr (.inr ⟨b, _, _, hb, rfl, fun G hG => by simp only [evDelete, ht, hG _ _ hb, hf]; rw [if_pos hs]⟩)
        · rename_i hf
          cases h
          exact .inr (.inr ⟨b, _, _, hb, rfl, fun G hG => by simp only [evDelete, ht, hG _ _ hb, hf]; rw [if_pos hs]⟩)
        · cases h
      · cases h
    · cases h
  · cases h

theorem clear_local {ts : Array TypeId} {x r : AV} (h : evClear P H ts x = some (r, H')) : Local (fun G => evClear P G ts x) H r H' := by
  unfold evClear at h
  split at h
  · rename_i b ht
    split at h
    · rename_i es cl hb
      cases h
      exact .inr (.inr ⟨b, _, _, hb, rfl, fun G hG => by simp only [evClear, ht, hG _ _ hb]⟩)
    · cases h
  · rename_i ht
    cases h
    exact .inl ⟨rfl, fun G hG => by simp only [evClear, ht]⟩
  · rename_i ht
    cases h
    exact .inl ⟨rfl, fun G hG => by simp only [evClear, ht]⟩
  · rename_i e b off len cap ex g ht
    split at h
    · rename_i h0
      cases h
      exact .inl ⟨rfl, fun G hG => by simp only [evClear, ht]; rw [if_pos h0]⟩
    · rename_i h0
      split at h
      · rename_i s z ty sz els gen wgen hs hz hb
        split at h
        · rename_i hc
          cases h
          exact .inr (.inr ⟨b, _, _, hb, rfl, fun G hG => by simp only [evClear, ht, hs, hz, hG _ _ hb]; rw [if_neg h0, if_pos hc]⟩)
        · cases h
      · cases h
  · cases h

theorem op_local (h : evOp P ρ o H = some (r, H')) : Local (fun G => evOp P ρ o G) H r H' := by
  by_cases h0 : opKind P o.op = 0
  · obtain ⟨e, hG⟩ := kind0 h0 h; exact .inl ⟨e, fun G _ => hG G⟩
  by_cases h1 : opKind P o.op = 1
  · obtain ⟨e, hG⟩ := kind1 h1 h; exact .inl ⟨e, hG⟩
  by_cases h2 : opKind P o.op = 2
  · obtain ⟨x, e, hG⟩ := kind2 h2 h; exact .inr (.inl ⟨x, e, fun G _ hn => hG G hn⟩)
  obtain ⟨dst, op, type, pos, after, guard⟩ := o
  cases op <;> first | (simp [opKind] at h0; done) | (simp [opKind] at h1; done) | (simp [opKind] at h2; done) | skip
  case store t a x =>
    simp only [evOp] at h ⊢
    split at h
    · rename_i hc
      obtain ⟨H2, hst, e⟩ := map_some_eq h
      cases e
      obtain ⟨b, x', y, q1, q2, q3⟩ := store_local hst
      exact .inr (.inr ⟨b, x', y, q1, q2, fun G hG => by dsimp only; rw [if_pos hc, q3 G hG]; rfl⟩)
    · cases h
  case call c =>
    obtain ⟨callee, args, ts⟩ := c
    cases callee with
    | value f => simp [evOp] at h
    | invoke x m => simp [evOp] at h
    | builtin b =>
      simp only [evOp] at h ⊢
      generalize args.toList.map ρ = as at *
      cases b <;> first | (simp [opKind] at h0; done) | (simp [opKind] at h1; done) | skip
      case append =>
        match as, h with
        | [s, x], h =>
          simp only [evBuiltin] at h
          split at h
          · rename_i t u ht
            split at h
            · rename_i e d he hd
              split at h
              · cases h
              · rename_i i hi hnd
                split at h
                · rename_i z n hz hn
                  split at h
                  · rename_i hzs
                    cases hel : H.elems i.size n x with
                    | none => simp [hel] at h
                    | some new =>
                      simp only [hel, Option.bind_some] at h
                      have key : ∀ G, Up H G → evBuiltin P G .append ts [s, x] = G.append e i.size i.bytes s new := fun G hG => by
                        simp only [evBuiltin, ht, he, hd, hi, hz, hn]
                        rw [if_pos hzs, elems_up hel hG]
                        rfl
                      rcases append_local h with ⟨q1, q2⟩ | ⟨x', q1, q2⟩ | ⟨b, x', y, q0, q1, q2⟩
                      · exact .inl ⟨q1, fun G hG => (key G hG).trans (q2 G hG)⟩
                      · exact .inr (.inl ⟨x', q1, fun G hG hn => (key G hG).trans (q2 G hG hn)⟩)
                      · exact .inr (.inr ⟨b, x', y, q0, q1, fun G hG => (key G hG).trans (q2 G hG)⟩)
                  · cases h
                · cases h
              · cases h
            · cases h
          · cases h
        | [], h => simp [evBuiltin] at h
        | [_], h => simp [evBuiltin] at h
        | _ :: _ :: _ :: _, h => simp [evBuiltin] at h
      case delete =>
        match as, h with
        | [m, k], h =>
          have h' : evDelete P H ts m k = some (r, H') := h
          exact delete_local h'
        | [], h => simp [evBuiltin] at h
        | [_], h => simp [evBuiltin] at h
        | _ :: _ :: _ :: _, h => simp [evBuiltin] at h
      case clear =>
        match as, h with
        | [x], h =>
          have h' : evClear P H ts x = some (r, H') := h
          exact clear_local h'
        | [], h => simp [evBuiltin] at h
        | _ :: _ :: _, h => simp [evBuiltin] at h
      all_goals (simp [evBuiltin] at h)
  case makeMap t r' =>
    cases r' with
    | some x => simp [evOp] at h
    | none =>
      simp only [evOp] at h ⊢
      cases h
      exact .inr (.inl ⟨_, rfl, fun G hG hn => by dsimp only; rw [hn]⟩)
  case convert s d x =>
    exfalso
    by_cases ht : isTextT P s d = true
    · exact h2 (by simp [opKind, ht])
    · exact h1 (by simp [opKind, ht])
  case mapUpdate t m k x =>
    simp only [evOp] at h ⊢
    obtain ⟨H2, ha, e⟩ := map_some_eq h
    cases e
    obtain ⟨b, x', y, q1, q2, q3⟩ := mapUpd_local ha
    exact .inr (.inr ⟨b, x', y, q1, q2, fun G hG => by dsimp only; rw [q3 G hG]; rfl⟩)
  all_goals (simp [evOp] at h)

end
end Go.Ev
end
section
set_option linter.unusedVariables false
set_option linter.unusedSimpArgs false
namespace Go.Ev
section
variable {P : Program}

def Dom (H G : Heap) : Prop := ∀ b, H.blk b ≠ none → G.blk b ≠ none
theorem Dom.refl (H : Heap) : Dom H H := fun _ h => h
theorem Dom.trans {H G K : Heap} (h : Dom H G) (k : Dom G K) : Dom H K := fun b hb => k b (h b hb)

theorem local_dom {F : Heap → Option (AV × Heap)} {H : Heap} {r : AV} {H' : Heap} (h : Local F H r H') : Dom H H' := by
  rcases h with ⟨rfl, _⟩ | ⟨x, rfl, _⟩ | ⟨b, x, y, _, rfl, _⟩
  · exact Dom.refl _
  · intro b hb; simp only [Heap.push]; split
    · simp
    · exact hb
  · intro c hc; exact Heap.set_ne hc

mutual
theorem EvF.dom : ∀ {f : FuncId} {args : List AV} {H : Heap} {r : AV} {H' : Heap}, EvF P f args H r H' → Dom H H'
  | _, _, _, _, _, .mk _ _ _ _ _ _ _ _ _ _ _ _ _ h _ _ => EvC.dom h
theorem EvC.dom : ∀ {n : Nat} {c : Code} {env : Env} {H : Heap} {ex : Ex} {env' : Env} {H' : Heap}, EvC P n c env H ex env' H' → Dom H H'
  | _, _, _, _, _, _, _, .skip _ _ _ => Dom.refl _
  | _, _, _, _, _, _, _, .label _ _ _ _ => Dom.refl _
  | _, _, _, _, _, _, _, .region _ _ _ _ _ _ _ h => EvS.dom h
  | _, _, _, _, _, _, _, .draw _ _ _ _ _ _ _ h => EvS.dom (h 0)
  | _, _, _, _, _, _, _, .seq _ _ _ _ _ _ _ _ _ _ h h' => (EvC.dom h).trans (EvC.dom h')
  | _, _, _, _, _, _, _, .seqOut _ _ _ _ _ _ _ _ h _ => EvC.dom h
  | _, _, _, _, _, _, _, .cond _ _ _ _ _ _ _ _ _ _ _ h => EvC.dom h
  | _, _, _, _, _, _, _, .block _ _ _ _ _ _ _ _ h _ => EvC.dom h
  | _, _, _, _, _, _, _, .blockOut _ _ _ _ _ _ _ _ h _ => EvC.dom h
  | _, _, _, _, _, _, _, .loop _ _ _ _ _ _ _ h => EvL.dom h
  | _, _, _, _, _, _, _, .exit _ _ _ _ => Dom.refl _
  | _, _, _, _, _, _, _, .ret _ _ _ => Dom.refl _
  | _, _, _, _, _, _, _, .scope _ _ _ _ _ _ _ h => EvC.dom h
theorem EvL.dom : ∀ {n : Nat} {c : Code} {env : Env} {H : Heap} {ex : Ex} {env' : Env} {H' : Heap}, EvL P n c env H ex env' H' → Dom H H'
  | _, _, _, _, _, _, _, .again _ _ _ _ _ _ _ _ _ h h' => (EvC.dom h).trans (EvL.dom h')
  | _, _, _, _, _, _, _, .out _ _ _ _ _ _ _ h _ => EvC.dom h
theorem EvS.dom : ∀ {n : Nat} {ops : Array Oper} {l : List Nat} {env : Env} {H : Heap} {env' : Env} {H' : Heap}, EvS P n ops l env H env' H' → Dom H H'
  | _, _, _, _, _, _, _, .nil _ _ _ _ => Dom.refl _
  | _, _, _, _, _, _, _, .skip _ _ _ _ _ _ _ _ _ _ _ _ h => EvS.dom h
  | _, _, _, _, _, _, _, .op _ _ _ _ _ _ _ _ _ _ _ _ _ _ _ he h => (local_dom (op_local he)).trans (EvS.dom h)
  | _, _, _, _, _, _, _, .hint _ _ _ _ _ _ _ _ h => fun b hb => EvS.dom h b hb
  | _, _, _, _, _, _, _, .call _ _ _ _ _ _ _ _ _ _ _ _ _ _ _ _ _ _ _ _ _ _ hc h => (EvF.dom hc).trans (EvS.dom h)
end

theorem none_of_dom {H G : Heap} (h : Dom H G) {b : Nat} (hb : G.blk b = none) : H.blk b = none := by
  cases hx : H.blk b with
  | none => rfl
  | some x => exact absurd hb (h b (by rw [hx]; simp))

theorem up_set {H : Heap} {b : Nat} {x : Blk} (hb : H.blk b = none) : Up H (H.set b x) := fun c y hc => by
  rw [Heap.set_other _ _ _ (fun e => by rw [e, hb] at hc; cases hc)]; exact hc

theorem Heap.ext' {H G : Heap} (h1 : ∀ i, H.blk i = G.blk i) (h2 : H.next = G.next) : H = G := by
  cases H; cases G
  simp only [Heap.mk.injEq]
  exact ⟨funext h1, h2⟩

theorem set_push {H : Heap} {b : Nat} {x y : Blk} (hb : b ≠ H.next) : (H.set b x).push y = (H.push y).set b x := by
  refine Heap.ext' (fun i => ?_) rfl
  show (if i = H.next then some y else if i = b then some x else H.blk i) = (if i = b then some x else if i = H.next then some y else H.blk i)
  by_cases h1 : i = H.next
  · rw [if_pos h1, if_neg (by omega), if_pos h1]
  · rw [if_neg h1, if_neg h1]

theorem set_set {H : Heap} {b c : Nat} {x y : Blk} (hb : b ≠ c) : (H.set b x).set c y = (H.set c y).set b x := by
  refine Heap.ext' (fun i => ?_) rfl
  show (if i = c then some y else if i = b then some x else H.blk i) = (if i = b then some x else if i = c then some y else H.blk i)
  by_cases h1 : i = c
  · rw [if_pos h1, if_neg (by omega), if_pos h1]
  · rw [if_neg h1, if_neg h1]

/-- One operation, with one block more beside. -/
theorem op_frame {ρ : Operand → AV} {o : Oper} {H : Heap} {r : AV} {H1 : Heap} (h : evOp P ρ o H = some (r, H1)) (hfree : H.blk H.next = none ∨ H1.next = H.next) {b : Nat} (x : Blk) (hb : H1.blk b = none) :
    evOp P ρ o (H.set b x) = some (r, H1.set b x) ∧ ((H.set b x).blk (H.set b x).next = none ∨ (H1.set b x).next = (H.set b x).next) := by
  have hl := op_local h
  have hb0 := none_of_dom (local_dom hl) hb
  have hup := up_set (x := x) hb0
  rcases hl with ⟨rfl, hG⟩ | ⟨y, rfl, hG⟩ | ⟨c, y, z, hc, rfl, hG⟩
  · exact ⟨hG _ hup, .inr rfl⟩
  · have hne : b ≠ H.next := fun e => by simp [Heap.push, e] at hb
    refine ⟨by have := hG _ hup rfl; rw [set_push hne] at this; exact this, .inl ?_⟩
    have := hfree.resolve_right (by simp [Heap.push])
    show (H.set b x).blk H.next = none
    rw [Heap.set_other _ _ _ (Ne.symm hne)]; exact this
  · have hne : b ≠ c := fun e => by rw [e, Heap.set_same] at hb; cases hb
    exact ⟨by have := hG _ hup; rw [set_set hne] at this; exact this, .inr rfl⟩

theorem result_frame {env : Env} {H : Heap} {b : Nat} {x : Blk} (hb : H.blk b = none) {rs : List ResultVar} {r : AV} (h : evResults P rs env H = some r) : evResults P rs env (H.set b x) = some r := by
  have hup := up_set (x := x) hb
  have h1 : ∀ rv r, evResult P env H rv = some r → evResult P env (H.set b x) rv = some r := by
    intro rv r h
    cases rv with
    | tmp t => exact h
    | cell a t =>
      simp only [evResult] at h ⊢
      split at h
      · rename_i n h1 h2
        obtain ⟨cs, hc, e⟩ := map_some_eq h
        simp [h1, h2, load_up hc hup, e]
      · rename_i h1
        split at h
        · rename_i v hv
          simp [h1, load_up hv hup]
          cases h; rfl
        · cases h
      · cases h
  have h2 : ∀ rs vs, evResultsL P env H rs = some vs → evResultsL P env (H.set b x) rs = some vs := by
    intro rs
    induction rs with
    | nil => intro vs h; exact h
    | cons rv rs ih =>
      intro vs h
      simp only [evResultsL] at h ⊢
      split at h
      · rename_i v us e1 e2
        rw [h1 _ _ e1, ih _ e2]; exact h
      · cases h
  unfold evResults at h ⊢
  cases hx : evResultsL P env H rs with
  | none => simp [hx] at h
  | some vs => rw [hx] at h; rw [h2 _ _ hx]; exact h

mutual
/-- A run does not look at a block that it does not know. -/
theorem EvF.frame : ∀ {f : FuncId} {args : List AV} {H : Heap} {r : AV} {H' : Heap}, EvF P f args H r H' → ∀ {b : Nat} (x : Blk), H'.blk b = none → EvF P f args (H.set b x) r (H'.set b x)
  | _, _, _, _, _, .mk f fn c args H ex env H' r hf hn hb ha h he hr, b, x, hx => .mk f fn c args _ ex env _ r hf hn hb ha (EvC.frame h x hx) he (result_frame hx hr)
theorem EvC.frame : ∀ {n : Nat} {c : Code} {env : Env} {H : Heap} {ex : Ex} {env' : Env} {H' : Heap}, EvC P n c env H ex env' H' → ∀ {b : Nat} (x : Blk), H'.blk b = none → EvC P n c env (H.set b x) ex env' (H'.set b x)
  | _, _, _, _, _, _, _, .skip _ _ _, b, x, hx => .skip _ _ _
  | _, _, _, _, _, _, _, .label _ _ _ _, b, x, hx => .label _ _ _ _
  | _, _, _, _, _, _, _, .region _ _ _ _ _ _ _ h, b, x, hx => .region _ _ _ _ _ _ _ (EvS.frame h x hx)
  | _, _, _, _, _, _, _, .draw _ _ _ _ _ _ _ h, b, x, hx => .draw _ _ _ _ _ _ _ (fun t => EvS.frame (h t) x hx)
  | _, _, _, _, _, _, _, .seq _ _ _ _ _ _ _ _ _ _ h h', b, x, hx => .seq _ _ _ _ _ _ _ _ _ _ (EvC.frame h x (none_of_dom (EvC.dom h') hx)) (EvC.frame h' x hx)
  | _, _, _, _, _, _, _, .seqOut _ _ _ _ _ _ _ _ h hn, b, x, hx => .seqOut _ _ _ _ _ _ _ _ (EvC.frame h x hx) hn
  | _, _, _, _, _, _, _, .cond _ _ _ _ _ _ _ _ _ _ hc h, b, x, hx => .cond _ _ _ _ _ _ _ _ _ _ hc (EvC.frame h x hx)
  | _, _, _, _, _, _, _, .block _ _ _ _ _ _ _ _ h hn, b, x, hx => .block _ _ _ _ _ _ _ _ (EvC.frame h x hx) hn
  | _, _, _, _, _, _, _, .blockOut _ _ _ _ _ _ _ _ h hn, b, x, hx => .blockOut _ _ _ _ _ _ _ _ (EvC.frame h x hx) hn
  | _, _, _, _, _, _, _, .loop _ _ _ _ _ _ _ h, b, x, hx => .loop _ _ _ _ _ _ _ (EvL.frame h x hx)
  | _, _, _, _, _, _, _, .exit _ _ _ _, b, x, hx => .exit _ _ _ _
  | _, _, _, _, _, _, _, .ret _ _ _, b, x, hx => .ret _ _ _
  | _, _, _, _, _, _, _, .scope _ _ _ _ _ _ _ h, b, x, hx => .scope _ _ _ _ _ _ _ (EvC.frame h x hx)
theorem EvL.frame : ∀ {n : Nat} {c : Code} {env : Env} {H : Heap} {ex : Ex} {env' : Env} {H' : Heap}, EvL P n c env H ex env' H' → ∀ {b : Nat} (x : Blk), H'.blk b = none → EvL P n c env (H.set b x) ex env' (H'.set b x)
  | _, _, _, _, _, _, _, .again _ _ _ _ _ _ _ _ _ h h', b, x, hx => .again _ _ _ _ _ _ _ _ _ (EvC.frame h x (none_of_dom (EvL.dom h') hx)) (EvL.frame h' x hx)
  | _, _, _, _, _, _, _, .out _ _ _ _ _ _ _ h hn, b, x, hx => .out _ _ _ _ _ _ _ (EvC.frame h x hx) hn
theorem EvS.frame : ∀ {n : Nat} {ops : Array Oper} {l : List Nat} {env : Env} {H : Heap} {env' : Env} {H' : Heap}, EvS P n ops l env H env' H' → ∀ {b : Nat} (x : Blk), H'.blk b = none → EvS P n ops l env (H.set b x) env' (H'.set b x)
  | _, _, _, _, _, _, _, .nil _ _ _ _, b, x, hx => .nil _ _ _ _
  | _, _, _, _, _, _, _, .skip _ _ _ _ _ _ _ _ _ ho hw hd h, b, x, hx => .skip _ _ _ _ _ _ _ _ _ ho hw hd (EvS.frame h x hx)
  | _, _, _, _, _, _, _, .op _ _ _ _ _ _ _ _ _ _ _ ho hw hd hfree he h, b, x, hx =>
      have hb1 := none_of_dom (EvS.dom h) hx
      .op _ _ _ _ _ _ _ _ _ _ _ ho hw hd (op_frame he hfree x hb1).2 (op_frame he hfree x hb1).1 (EvS.frame h x hx)
  | _, _, _, _, _, _, _, .hint n ops l m env H env' H' h, b, x, hx => .hint n ops l m env _ env' _ (EvS.frame h x hx)
  | _, _, _, _, _, _, _, .call _ _ _ _ _ _ _ _ _ _ _ _ _ _ _ _ _ ho hw hd hop hf hc h, b, x, hx =>
      .call _ _ _ _ _ _ _ _ _ _ _ _ _ _ _ _ _ ho hw hd hop hf (EvF.frame hc x (none_of_dom (EvS.dom h) hx)) (EvS.frame h x hx)
end

end
end Go.Ev
end
section
set_option linter.unusedVariables false
set_option linter.unusedSimpArgs false
namespace Go.Ev
section
variable {P : Program}

/-! ### Operands -/

theorem map_congr' {ρ ρ' : Operand → AV} {xs : List Operand} (h : ∀ x ∈ xs, ρ x = ρ' x) : xs.map ρ = xs.map ρ' := List.map_congr_left h

theorem evOp_congr {ρ ρ' : Operand → AV} (o : Oper) (H : Heap) (h : ∀ x ∈ o.op.operands, ρ x = ρ' x) : evOp P ρ o H = evOp P ρ' o H := by
  obtain ⟨dst, op, type, pos, after, guard⟩ := o
  have pairs : ∀ ps : Array (Nat × Operand), (∀ x ∈ ps.map (·.2), ρ x = ρ' x) → (ps.toList.map fun p => (p.1, ρ p.2)) = (ps.toList.map fun p => (p.1, ρ' p.2)) := fun ps hp =>
    List.map_congr_left fun p hm => by
      obtain ⟨i, x⟩ := p
      have := hp x (Array.mem_map.2 ⟨(i, x), Array.mem_toList_iff.1 hm, rfl⟩)
      simp [this]
  cases op <;> simp only [Op.operands] at h <;> simp only [evOp]
  case build t ps => rw [pairs ps fun x hx => h x (by simpa using hx)]
  case buildSlice t n ps => rw [pairs ps fun x hx => h x (by simpa using hx)]
  case makeFunc fn first captured =>
    rw [map_congr' (xs := first.toList) fun x hx => h x (by simp_all), map_congr' (xs := captured.toList) fun x hx => h x (by simp_all)]
  case call c =>
    obtain ⟨callee, args, ts⟩ := c
    have hargs : args.toList.map ρ = args.toList.map ρ' := map_congr' fun x hx => h x (by simp_all [Call.operands])
    cases callee <;> simp only [hargs]
  case slice t x lo hi mx => cases lo <;> cases hi <;> cases mx <;> simp_all [optInt]
  case makeMap t r => cases r <;> rfl
  all_goals (first | rfl | (simp_all; done))

theorem Env.at_congr {env env' : Env} {x : Operand} (h : ∀ t, x = .tmp t → env t = env' t) : env.at x = env'.at x := by
  cases x with
  | tmp t => exact h t rfl
  | const v => rfl
  | global g => rfl
  | func f => rfl

theorem Env.put_comm (env : Env) {x y : Option Tmp} (v u : AV) (h : ∀ d, x = some d → y ≠ some d) : (env.put x v).put y u = (env.put y u).put x v := by
  cases x with
  | none => cases y <;> rfl
  | some d =>
    cases y with
    | none => rfl
    | some e =>
      have hne : d ≠ e := fun q => h d rfl (by rw [q])
      funext t
      simp only [Env.put]
      by_cases h1 : t = e
      · rw [if_pos h1, if_neg (fun q => hne (q.symm.trans h1)), if_pos h1]
      · rw [if_neg h1, if_neg h1]

/-- Nothing that the operation looks at differs. -/
def Agree (ops : Array Oper) (o : Oper) (env env' : Env) : Prop := ∀ t ∈ o.looksAt ops, env t = env' t

theorem Agree.at_ {ops : Array Oper} {o : Oper} {env env' : Env} (h : Agree ops o env env') : ∀ x ∈ o.op.operands, env.at x = env'.at x := fun x hx =>
  Env.at_congr fun t ht => h t (by subst ht; exact List.mem_append_left _ (List.mem_filterMap.2 ⟨.tmp t, by simpa using hx, rfl⟩))

theorem Agree.wanted {ops : Array Oper} {o : Oper} {env env' : Env} (h : Agree ops o env env') : wantedA ops env o = wantedA ops env' o := by
  unfold wantedA
  split
  · rfl
  · rename_i j want hg
    split
    · rename_i d hd
      have : env d = env' d := h d (List.mem_append_right _ (by simp [hg, hd]))
      rw [this]
    · rfl

theorem agree_put {ops : Array Oper} {o : Oper} {env : Env} {d : Option Tmp} {v : AV} (h : ∀ t, d = some t → t ∉ o.looksAt ops) : Agree ops o env (env.put d v) := fun t ht => by
  cases d with
  | none => rfl
  | some d =>
    have : t ≠ d := fun e => h d rfl (e ▸ ht)
    simp only [Env.put]; rw [if_neg this]

/-! ### One operation of a drawn region -/

abbrev Blks := Nat → Option Blk
def UpB (B G : Blks) : Prop := ∀ b x, B b = some x → G b = some x
theorem UpB.refl (B : Blks) : UpB B B := fun _ _ h => h
def setB (B : Blks) (b : Nat) (x : Blk) : Blks := fun i => if i = b then some x else B i

/-- What an operation comes to, whatever the next name. -/
inductive Did (P : Program) (ops : Array Oper) (o : Oper) (env : Env) : Blks → AV → Blks → Prop
  | skip (B : Blks) (hw : wantedA ops env o = some false) : Did P ops o env B (.tuple []) B
  | op (B : Blks) (m : Nat) (r : AV) (H1 : Heap) (hw : wantedA ops env o = some true) (hfree : B m = none ∨ H1.next = m) (he : evOp P env.at o ⟨B, m⟩ = some (r, H1)) : Did P ops o env B r H1.blk
  | call (B : Blks) (m : Nat) (f : Operand) (args : Array Operand) (ts : Array TypeId) (g : FuncId) (first cap : List AV) (r : AV) (H1 : Heap) (hw : wantedA ops env o = some true) (hop : o.op = .call { callee := .value f, args := args, argTypes := ts })
      (hf : env.at f = .func (.func g) first cap) (hc : EvF P g (first ++ args.toList.map env.at ++ cap) ⟨B, m⟩ r H1) : Did P ops o env B r H1.blk

theorem Did.congr {ops : Array Oper} {o : Oper} {env env' : Env} (h : Agree ops o env env') {B : Blks} {r : AV} {B1 : Blks} (hd : Did P ops o env B r B1) : Did P ops o env' B r B1 := by
  cases hd with
  | skip hw => exact .skip _ (h.wanted ▸ hw)
  | op m r H1 hw hfree he => exact .op _ m r H1 (h.wanted ▸ hw) hfree (by rw [← evOp_congr o _ h.at_]; exact he)
  | call m f args ts g first cap r H1 hw hop hf hc =>
    have hf' : env.at f = env'.at f := h.at_ f (by simp [hop, Op.operands, Call.operands])
    have ha : args.toList.map env.at = args.toList.map env'.at := map_congr' fun x hx => h.at_ x (by simp_all [Op.operands, Call.operands])
    exact .call _ m f args ts g first cap r H1 (h.wanted ▸ hw) hop (hf' ▸ hf) (ha ▸ hc)

theorem Did.dom {ops : Array Oper} {o : Oper} {env : Env} {B : Blks} {r : AV} {B1 : Blks} (hd : Did P ops o env B r B1) {b : Nat} (hb : B1 b = none) : B b = none := by
  cases hd with
  | skip hw => exact hb
  | op m r H1 hw hfree he => exact none_of_dom (local_dom (op_local he)) hb
  | call m f args ts g first cap r H1 hw hop hf hc => exact none_of_dom (EvF.dom hc) hb

theorem Did.frame {ops : Array Oper} {o : Oper} {env : Env} {B : Blks} {r : AV} {B1 : Blks} (hd : Did P ops o env B r B1) {b : Nat} (x : Blk) (hb : B1 b = none) : Did P ops o env (setB B b x) r (setB B1 b x) := by
  cases hd with
  | skip hw => exact .skip _ hw
  | op m r H1 hw hfree he =>
    have := op_frame he hfree x hb
    exact .op (setB B b x) m r (H1.set b x) hw (this.2) this.1
  | call m f args ts g first cap r H1 hw hop hf hc => exact .call (setB B b x) m f args ts g first cap r (H1.set b x) hw hop hf (EvF.frame hc x hb)

theorem Did.kind0 {ops : Array Oper} {o : Oper} {env : Env} {B : Blks} {r : AV} {B1 : Blks} (hk : opKind P o.op = 0) (hd : Did P ops o env B r B1) : B1 = B ∧ ∀ G, Did P ops o env G r G := by
  cases hd with
  | skip hw => exact ⟨rfl, fun G => .skip _ hw⟩
  | op m r H1 hw hfree he =>
    obtain ⟨e, hG⟩ := Go.Ev.kind0 hk he
    subst e
    exact ⟨rfl, fun G => .op G m r ⟨G, m⟩ hw (.inr rfl) (hG _)⟩
  | call m f args ts g first cap r H1 hw hop hf hc => rw [hop] at hk; simp [opKind] at hk

theorem Did.kind1 {ops : Array Oper} {o : Oper} {env : Env} {B : Blks} {r : AV} {B1 : Blks} (hk : opKind P o.op = 1) (hd : Did P ops o env B r B1) : B1 = B ∧ ∀ G, UpB B G → Did P ops o env G r G := by
  cases hd with
  | skip hw => exact ⟨rfl, fun G _ => .skip _ hw⟩
  | op m r H1 hw hfree he =>
    obtain ⟨e, hG⟩ := Go.Ev.kind1 hk he
    subst e
    exact ⟨rfl, fun G hup => .op G m r ⟨G, m⟩ hw (.inr rfl) (hG _ hup)⟩
  | call m f args ts g first cap r H1 hw hop hf hc => rw [hop] at hk; simp [opKind] at hk

theorem Did.kind2 {ops : Array Oper} {o : Oper} {env : Env} {B : Blks} {r : AV} {B1 : Blks} (hk : opKind P o.op = 2) (hd : Did P ops o env B r B1) :
    (B1 = B ∧ ∀ G, Did P ops o env G r G) ∨ ∃ m x, B m = none ∧ B1 = setB B m x ∧ ∀ G, G m = none → Did P ops o env G r (setB G m x) := by
  cases hd with
  | skip hw => exact .inl ⟨rfl, fun G => .skip _ hw⟩
  | op m r H1 hw hfree he =>
    obtain ⟨x, e, hG⟩ := Go.Ev.kind2 hk he
    subst e
    have hf := hfree.resolve_right (by simp [Heap.push])
    exact .inr ⟨m, x, hf, rfl, fun G hg => .op G m r (Heap.push ⟨G, m⟩ x) hw (.inl hg) (hG _ rfl)⟩
  | call m f args ts g first cap r H1 hw hop hf hc => rw [hop] at hk; simp [opKind] at hk

/-- The blocks that flagged operations leave as they are: all that are known; or those of K that are known; or K, to the letter. -/
abbrev Kept := Option ((Nat → Prop) × Bool)
def Kept.eq (Kp : Kept) : Bool := match Kp with | some (_, true) => true | _ => false

/-- Nothing known is changed; or nothing in K. -/
def UpO (Kp : Kept) (B G : Blks) : Prop :=
  match Kp with
  | none => UpB B G
  | some (K, false) => ∀ b x, K b → B b = some x → G b = some x
  | some (K, true) => ∀ b, K b → B b = G b

theorem UpO.refl {Kp : Kept} (B : Blks) : UpO Kp B B := by
  match Kp with
  | none => exact UpB.refl B
  | some (K, false) => exact fun _ _ _ h => h
  | some (K, true) => exact fun _ _ => rfl
theorem UpO.of_up {Kp : Kept} {B G : Blks} (h : UpB B G) (he : Kp.eq = false := by rfl) : UpO Kp B G := by
  match Kp, he with
  | none, _ => exact h
  | some (K, false), _ => exact fun b x _ hb => h b x hb
theorem UpO.trans {Kp : Kept} {A B G : Blks} (h : UpO Kp A B) (h' : UpO Kp B G) : UpO Kp A G := by
  match Kp with
  | none => exact fun b x hb => h' _ _ (h _ _ hb)
  | some (K, false) => exact fun b x hk hb => h' _ _ hk (h _ _ hk hb)
  | some (K, true) => exact fun b hk => (h b hk).trans (h' b hk)
theorem UpO.symm {Kp : Kept} {A B : Blks} (he : Kp.eq = true) (h : UpO Kp A B) : UpO Kp B A := by
  match Kp, he with
  | some (K, true), _ => exact fun b hk => (h b hk).symm

/-- A flagged operation: what it leaves as it was; and, with a set K, that a reading operation looks at no other block. -/
def FlOk (P : Program) (ops : Array Oper) (Kp : Kept) (o : Oper) (env : Env) (B : Blks) (r : AV) (B1 : Blks) : Prop :=
  UpO Kp B B1 ∧ (Kp.isSome = true → opKind P o.op = 1 → ∀ G, UpO Kp B G → Did P ops o env G r G)

theorem FlOk.congr {ops : Array Oper} {Kp : Kept} {o : Oper} {env env' : Env} (h : Agree ops o env env') {B : Blks} {r : AV} {B1 : Blks} (hf : FlOk P ops Kp o env B r B1) : FlOk P ops Kp o env' B r B1 :=
  ⟨hf.1, fun hs hk G hG => (hf.2 hs hk G hG).congr h⟩

/-- May two operations change places? The flags: the second one only adds (or keeps K); the first one reads in K alone. -/
def swapK (kk ee : Bool) (ki kj : Nat) (fi fj : Bool) : Bool := ki == 0 || kj == 0 || (kj == 2 && (!ee || (!fj && (!fi || ki != 1)))) || (ki == 1 && (kj == 1 || (fj && (!kk || fi)))) || (ee && fi && fj && kj == 1)

theorem upB_set {B B1 : Blks} {m : Nat} {x : Blk} (h : UpB B B1) : UpB (setB B m x) (setB B1 m x) := fun b y hb => by
  simp only [setB] at hb ⊢
  split
  · rename_i e; rw [if_pos e] at hb; exact hb
  · rename_i e; rw [if_neg e] at hb; exact h _ _ hb

theorem upB_new {B : Blks} {m : Nat} {x : Blk} (h : B m = none) : UpB B (setB B m x) := fun b y hb => by
  simp only [setB]
  rw [if_neg (fun e => by rw [e, h] at hb; cases hb)]; exact hb

theorem upO_set {Kp : Kept} {B B1 : Blks} {m : Nat} {x : Blk} (h : UpO Kp B B1) : UpO Kp (setB B m x) (setB B1 m x) := by
  match Kp with
  | none => exact upB_set h
  | some (K, false) =>
    intro b y hk hb
    simp only [setB] at hb ⊢
    split
    · rename_i e; rw [if_pos e] at hb; exact hb
    · rename_i e; rw [if_neg e] at hb; exact h _ _ hk hb
  | some (K, true) =>
    intro b hk
    simp only [setB]
    split
    · rfl
    · exact h b hk

theorem swap_heap {ops : Array Oper} {Kp : Kept} {oi oj : Oper} {env : Env} {B : Blks} {ri : AV} {B1 : Blks} {rj : AV} {B2 : Blks} {fi fj : Bool} (hs : swapK Kp.isSome Kp.eq (opKind P oi.op) (opKind P oj.op) fi fj = true)
    (hi : Did P ops oi env B ri B1) (hui : fi = true → FlOk P ops Kp oi env B ri B1) (hj : Did P ops oj env B1 rj B2) (huj : fj = true → FlOk P ops Kp oj env B1 rj B2) :
    ∃ B1', (Did P ops oj env B rj B1' ∧ (fj = true → FlOk P ops Kp oj env B rj B1')) ∧ (Did P ops oi env B1' ri B2 ∧ (fi = true → FlOk P ops Kp oi env B1' ri B2)) := by
  simp only [swapK, Bool.or_eq_true, Bool.and_eq_true, beq_iff_eq] at hs
  rcases hs with (((h | h) | ⟨h, hee⟩) | ⟨h, h'⟩) | ⟨⟨⟨hee, hfi⟩, hfj⟩, h⟩
  · obtain ⟨rfl, hG⟩ := hi.kind0 h
    exact ⟨B2, ⟨hj, huj⟩, hG _, fun _ => ⟨UpO.refl _, fun _ hk => by rw [h] at hk; cases hk⟩⟩
  · obtain ⟨rfl, hG⟩ := hj.kind0 h
    exact ⟨B, ⟨hG _, fun _ => ⟨UpO.refl _, fun _ hk => by rw [h] at hk; cases hk⟩⟩, hi, hui⟩
  · rcases hj.kind2 h with ⟨rfl, hG⟩ | ⟨m, x, hm, rfl, hG⟩
    · exact ⟨B, ⟨hG _, fun _ => ⟨UpO.refl _, fun _ hk => by rw [h] at hk; cases hk⟩⟩, hi, hui⟩
    · have hb := hi.dom hm
      cases he : Kp.eq with
      | false =>
        exact ⟨setB B m x, ⟨hG _ hb, fun _ => ⟨UpO.of_up (upB_new hb) he, fun _ hk => by rw [h] at hk; cases hk⟩⟩, hi.frame x hm,
          fun q => ⟨upO_set (hui q).1, fun hs hk G hG' => (hui q).2 hs hk G ((UpO.of_up (upB_new hb) he).trans hG')⟩⟩
      | true =>
        rw [he] at hee
        simp only [Bool.not_true, Bool.false_eq_true, false_or, Bool.not_eq_true', Bool.and_eq_true, Bool.or_eq_true, bne_iff_ne, ne_eq] at hee
        obtain ⟨hfj, hor⟩ := hee
        exact ⟨setB B m x, ⟨hG _ hb, fun q => by rw [hfj] at q; cases q⟩, hi.frame x hm,
          fun q => ⟨upO_set (hui q).1, fun hs hk => by
            rcases hor with e | e
            · rw [e] at q; cases q
            · exact absurd hk e⟩⟩
  · obtain ⟨rfl, hG⟩ := hi.kind1 h
    rcases h' with h' | ⟨h', h''⟩
    · obtain ⟨rfl, hG'⟩ := hj.kind1 h'
      exact ⟨B2, ⟨hj, huj⟩, hi, hui⟩
    · have hu := (huj h').1
      refine ⟨B2, ⟨hj, huj⟩, ?_, fun q => ⟨UpO.refl _, fun hs hk G hG' => (hui q).2 hs hk G (hu.trans hG')⟩⟩
      cases Kp with
      | none => exact hG _ hu
      | some K =>
        have hfi : fi = true := by simpa using h''
        exact (hui hfi).2 rfl h _ hu
  · obtain ⟨rfl, hG⟩ := hj.kind1 h
    have hsome : Kp.isSome = true := by
      match Kp, hee with
      | some (K, true), _ => rfl
    have hu := (hui hfi).1
    have hback := UpO.symm hee hu
    exact ⟨B, ⟨(huj hfj).2 hsome h _ hback, fun q => ⟨UpO.refl _, fun hs hk G hG' => (huj q).2 hs hk G (hback.trans hG')⟩⟩, hi, hui⟩

/-! ### Runs -/

/-- One step of a run. -/
def St (P : Program) (Kp : Kept) (n : Nat) (ops : Array Oper) (fl : Nat → Bool) (i : Nat) (env : Env) (B : Blks) (env1 : Env) (B1 : Blks) : Prop :=
  ∃ o r, ops[i]? = some o ∧ dstOk n o.dst = true ∧ Did P ops o env B r B1 ∧ env1 = env.put o.dst r ∧ (fl i = true → FlOk P ops Kp o env B r B1)

/-- A run over operations in some order. -/
def Run (P : Program) (Kp : Kept) (n : Nat) (ops : Array Oper) (fl : Nat → Bool) : List Nat → Env → Blks → Env → Blks → Prop
  | [], env, B, env', B' => env' = env ∧ B' = B
  | i :: l, env, B, env', B' => ∃ env1 B1, St P Kp n ops fl i env B env1 B1 ∧ Run P Kp n ops fl l env1 B1 env' B'

theorem Run.evS {Kp : Kept} {n : Nat} {ops : Array Oper} {fl : Nat → Bool} : ∀ {l : List Nat} {env : Env} {B : Blks} {env' : Env} {B' : Blks}, Run P Kp n ops fl l env B env' B' → ∀ m m', EvS P n ops l env ⟨B, m⟩ env' ⟨B', m'⟩
  | [], env, B, env', B', h, m, m' => by
    obtain ⟨rfl, rfl⟩ := h
    exact .hint _ _ _ m' _ _ _ _ (.nil _ _ _ _)
  | i :: l, env, B, env', B', h, m, m' => by
    obtain ⟨env1, B1, ⟨o, r, ho, hd, hdid, rfl, _⟩, h⟩ := h
    cases hdid with
    | skip hw => exact .skip _ _ _ _ o _ _ _ _ ho hw hd (Run.evS h m m')
    | op k r H1 hw hfree he =>
      refine .hint _ _ _ k _ _ _ _ (.op _ _ _ _ o _ _ r H1 _ _ ho hw hd hfree he ?_)
      exact Run.evS h H1.next m'
    | call k f args ts g first cap r H1 hw hop hf hc =>
      refine .hint _ _ _ k _ _ _ _ (.call _ _ _ _ o f args ts g first cap _ _ r H1 _ _ ho hw hd hop hf hc ?_)
      exact Run.evS h H1.next m'

/-- May the operation i, now behind j, go ahead of it? -/
def swapB (P : Program) (kk ee : Bool) (ops : Array Oper) (fl : Nat → Bool) (j i : Nat) : Bool :=
  match ops[j]?, ops[i]? with
  | some oj, some oi => oj.apart ops oi && swapK kk ee (opKind P oj.op) (opKind P oi.op) (fl j) (fl i)
  | _, _ => false

theorem St.swap {Kp : Kept} {n : Nat} {ops : Array Oper} {fl : Nat → Bool} {i j : Nat} (hs : swapB P Kp.isSome Kp.eq ops fl j i = true) {env : Env} {B : Blks} {env1 : Env} {B1 : Blks} {env2 : Env} {B2 : Blks}
    (h1 : St P Kp n ops fl j env B env1 B1) (h2 : St P Kp n ops fl i env1 B1 env2 B2) : ∃ env1' B1', St P Kp n ops fl i env B env1' B1' ∧ St P Kp n ops fl j env1' B1' env2 B2 := by
  obtain ⟨oj, rj, hoj, hdj, hj, rfl, huj⟩ := h1
  obtain ⟨oi, ri, hoi, hdi, hi, rfl, hui⟩ := h2
  simp only [swapB, hoj, hoi, Bool.and_eq_true] at hs
  obtain ⟨hap, hk⟩ := hs
  obtain ⟨p1, p2, p3⟩ := Oper.apart_spec hap
  have hi' : Did P ops oi env B1 ri B2 := hi.congr (fun t ht => (agree_put (env := env) (v := rj) p1 t ht).symm)
  obtain ⟨B1', ⟨q1, q2⟩, q3, q4⟩ := swap_heap hk hj huj hi' (fun q => (hui q).congr (fun t ht => (agree_put (env := env) (v := rj) p1 t ht).symm))
  refine ⟨_, B1', ⟨oi, ri, hoi, hdi, q1, rfl, q2⟩, oj, rj, hoj, hdj, q3.congr (agree_put p3), ?_, fun q => (q4 q).congr (agree_put p3)⟩
  exact Env.put_comm env rj ri p2

theorem Run.moveFront {Kp : Kept} {n : Nat} {ops : Array Oper} {fl : Nat → Bool} {i : Nat} {l2 : List Nat} : ∀ {l1 : List Nat}, (∀ j ∈ l1, swapB P Kp.isSome Kp.eq ops fl j i = true) → ∀ {env : Env} {B : Blks} {env' : Env} {B' : Blks},
    Run P Kp n ops fl (l1 ++ i :: l2) env B env' B' → Run P Kp n ops fl (i :: (l1 ++ l2)) env B env' B'
  | [], _, env, B, env', B', h => h
  | j :: l1, hs, env, B, env', B', h => by
    obtain ⟨env1, B1, hj, h⟩ := h
    obtain ⟨env2, B2, hi, h⟩ := Run.moveFront (l1 := l1) (fun k hk => hs k (List.mem_cons_of_mem _ hk)) h
    obtain ⟨env1', B1', hi', hj'⟩ := St.swap (hs j List.mem_cons_self) hj hi
    exact ⟨_, _, hi', _, _, hj', h⟩

/-! ### Any order that a drawn region may take -/

/-- The operations that must be listed before i. -/
def preds (ops : Array Oper) (i : Nat) : List Nat :=
  match ops[i]? with
  | some o => (o.after.toList.filter (Region.binds .any)).map (·.on)
  | none => []

/-- Must j be listed before i? -/
def beforeB (ops : Array Oper) : Nat → Nat → Nat → Bool
  | 0, _, _ => false
  | k + 1, j, i => (preds ops i).any fun e => e == j || beforeB ops k j e

def okPair (P : Program) (kk ee : Bool) (ops : Array Oper) (fl : Nat → Bool) (j i : Nat) : Bool :=
  i != j && !(preds ops j).contains i && (swapB P kk ee ops fl j i || beforeB ops ops.size j i)

def pairwiseB {α : Type} (f : α → α → Bool) : List α → Bool
  | [] => true
  | a :: l => l.all (f a) && pairwiseB f l

theorem pairwiseB_spec {α : Type} {f : α → α → Bool} : ∀ {l : List α}, pairwiseB f l = true → l.Pairwise fun a b => f a b = true
  | [], _ => .nil
  | a :: l, h => by
    simp only [pairwiseB, Bool.and_eq_true, List.all_eq_true] at h
    exact .cons h.1 (pairwiseB_spec h.2)

/-- The base order of a drawn region serves. -/
def drawOkE (P : Program) (kk ee : Bool) (ops : Array Oper) (fl : Nat → Bool) (base : List Nat) : Bool :=
  (List.range ops.size).all (fun i => base.contains i && (preds ops i).all fun e => e != i && decide (e < ops.size)) && base.all (fun i => decide (i < ops.size)) && decide (base.length ≤ ops.size) && pairwiseB (okPair P kk ee ops fl) base

def drawOk (P : Program) (ops : Array Oper) (fl : Nat → Bool) (base : List Nat) : Bool := drawOkE P false false ops fl base

def Closed (ops : Array Oper) (listed : Array Bool) : Prop := ∀ k, listed.getD k false = true → ∀ e ∈ preds ops k, listed.getD e false = true

theorem before_listed {ops : Array Oper} {listed : Array Bool} (hc : Closed ops listed) : ∀ (k : Nat) {j i : Nat}, (∀ e ∈ preds ops i, listed.getD e false = true) → beforeB ops k j i = true → listed.getD j false = true
  | 0, j, i, hi, h => by simp [beforeB] at h
  | k + 1, j, i, hi, h => by
    simp only [beforeB, List.any_eq_true, Bool.or_eq_true, beq_iff_eq] at h
    obtain ⟨e, he, h⟩ := h
    rcases h with rfl | h
    · exact hi _ he
    · exact before_listed hc k (hc e (hi e he)) h

theorem ready_iff {ops : Array Oper} {listed : Array Bool} {i : Nat} : i ∈ Region.ready .any ops listed ↔ listed.getD i true = false ∧ i < ops.size ∧ ∀ e ∈ preds ops i, listed.getD e false = true := by
  rw [mem_ready]
  constructor
  · rintro ⟨h0, o, ho, h⟩
    refine ⟨h0, (Array.getElem?_eq_some_iff.1 ho).1, fun e he => ?_⟩
    simp only [preds, ho, List.mem_map, List.mem_filter] at he
    obtain ⟨d, ⟨hd, hb⟩, rfl⟩ := he
    exact h d (by simpa using hd) hb
  · rintro ⟨h0, hlt, h⟩
    refine ⟨h0, ops[i], Array.getElem?_eq_getElem hlt, fun e he hb => h e.on ?_⟩
    simp only [preds, Array.getElem?_eq_getElem hlt, List.mem_map, List.mem_filter]
    exact ⟨e, ⟨by simpa using he, hb⟩, rfl⟩

theorem go_run {Kp : Kept} {n : Nat} {ops : Array Oper} {fl : Nat → Bool} (hps : ∀ i, i < ops.size → ∀ e ∈ preds ops i, e ≠ i ∧ e < ops.size) : ∀ (fuel t : Nat) (listed : Array Bool) (rem : List Nat) {env : Env} {B : Blks} {env' : Env} {B' : Blks},
    listed.size = ops.size → rem.length ≤ fuel → (∀ i, i ∈ rem ↔ i < ops.size ∧ listed.getD i true = false) → rem.Pairwise (fun j i => okPair P Kp.isSome Kp.eq ops fl j i = true) → Closed ops listed → Run P Kp n ops fl rem env B env' B' →
    Run P Kp n ops fl (Region.linearise.go .any ops fuel t listed []) env B env' B' := by
  intro fuel
  induction fuel with
  | zero =>
    intro t listed rem env B env' B' hsz hlen hmem hpw hcl h
    have : rem = [] := by cases rem with
      | nil => rfl
      | cons a l => simp at hlen
    subst this
    simpa [Region.linearise.go] using h
  | succ fuel ih =>
    intro t listed rem env B env' B' hsz hlen hmem hpw hcl h
    have hget : ∀ i, i < ops.size → (listed.getD i true = false ∨ listed.getD i false = true) := fun i hi => by
      have hi' : i < listed.size := by omega
      simp only [Array.getD_eq_getD_getElem?, Array.getElem?_eq_getElem hi', Option.getD_some]
      cases listed[i] <;> simp
    simp only [Region.linearise.go]
    change Run P Kp n ops fl (match (Region.ready .any ops listed)[t % (Region.ready .any ops listed).length]? with
      | some i => Region.linearise.go .any ops fuel (t / (Region.ready .any ops listed).length) (listed.setIfInBounds i true) [i]
      | none => [].reverse) env B env' B'
    cases hi : (Region.ready .any ops listed)[t % (Region.ready .any ops listed).length]? with
    | none =>
      have hnil : Region.ready .any ops listed = [] := by
        cases hr : Region.ready .any ops listed with
        | nil => rfl
        | cons x xs =>
          rw [hr] at hi
          have hlt : t % (x :: xs).length < (x :: xs).length := Nat.mod_lt _ (by simp)
          simp at hi
          simp at hlt
          omega
      have : rem = [] := by
        cases rem with
        | nil => rfl
        | cons a l =>
          exfalso
          obtain ⟨ha1, ha2⟩ := (hmem a).1 List.mem_cons_self
          have : a ∈ Region.ready .any ops listed := by
            rw [ready_iff]
            refine ⟨ha2, ha1, fun e he => ?_⟩
            obtain ⟨hne, hlt⟩ := hps a ha1 e he
            rcases hget e hlt with h1 | h1
            · exfalso
              have hel : e ∈ a :: l := (hmem e).2 ⟨hlt, h1⟩
              rcases List.mem_cons.1 hel with h2 | h2
              · exact hne h2
              · have := (List.pairwise_cons.1 hpw).1 e h2
                simp only [okPair, Bool.and_eq_true, Bool.not_eq_true', List.contains_eq_mem, decide_eq_false_iff_not] at this
                exact this.1.2 he
            · exact h1
          rw [hnil] at this
          cases this
      subst this
      simpa using h
    | some i =>
      simp only []
      rw [linearise_go_acc, List.reverse_singleton, List.singleton_append]
      have hr := ready_iff.1 (List.mem_of_getElem? hi)
      obtain ⟨r1, r2, r3⟩ := hr
      obtain ⟨l1, l2, e⟩ := List.append_of_mem ((hmem i).2 ⟨r2, r1⟩)
      subst e
      obtain ⟨p1, p2, p3⟩ := List.pairwise_append.1 hpw
      obtain ⟨p4, p5⟩ := List.pairwise_cons.1 p2
      have hsw : ∀ j ∈ l1, swapB P Kp.isSome Kp.eq ops fl j i = true := fun j hj => by
        have := p3 j hj i List.mem_cons_self
        simp only [okPair, Bool.and_eq_true, Bool.or_eq_true] at this
        rcases this.2 with h1 | h1
        · exact h1
        · have hlj := before_listed hcl _ r3 h1
          have := ((hmem j).1 (by simp [hj])).2
          have hjs := ((hmem j).1 (by simp [hj])).1
          have hj' : j < listed.size := by omega
          simp only [Array.getD_eq_getD_getElem?, Array.getElem?_eq_getElem hj', Option.getD_some] at hlj this
          rw [hlj] at this; cases this
      obtain ⟨env1, B1, hst, hrun⟩ := Run.moveFront hsw h
      have hni : ∀ k, k ∈ l1 ++ l2 → k ≠ i := fun k hk hki => by
        subst hki
        rcases List.mem_append.1 hk with hk | hk
        · have := p3 k hk k List.mem_cons_self
          simp [okPair] at this
        · have := p4 k hk
          simp [okPair] at this
      refine ⟨env1, B1, hst, ih _ _ (l1 ++ l2) (by simp [hsz]) ?_ (fun k => ?_) ?_ (fun k hk e he => ?_) hrun⟩
      · simp at hlen ⊢; omega
      · by_cases hki : k = i
        · subst hki
          constructor
          · intro hk; exact absurd rfl (hni k hk)
          · rintro ⟨_, hk⟩
            have : k < listed.size := by omega
            simp [this] at hk
        · rw [getD_set_ne _ (Ne.symm hki)]
          rw [← hmem k]
          simp [hki]
      · exact List.pairwise_append.2 ⟨p1, p5, fun a ha b hb => p3 a ha b (List.mem_cons_of_mem _ hb)⟩
      · by_cases hki : k = i
        · subst hki; exact getD_set_true (r3 e he)
        · rw [getD_set_ne _ (Ne.symm hki)] at hk
          exact getD_set_true (hcl k hk e he)

theorem draw_of_run {Kp : Kept} {n : Nat} {ops : Array Oper} {fl : Nat → Bool} {base : List Nat} (hok : drawOkE P Kp.isSome Kp.eq ops fl base = true) {env : Env} {H : Heap} {env' : Env} {H' : Heap} (h : Run P Kp n ops fl base env H.blk env' H'.blk) (t : Nat) :
    EvS P n ops (Region.linearise .any ops t) env H env' H' := by
  simp only [drawOkE, Bool.and_eq_true, List.all_eq_true, List.mem_range, List.contains_eq_mem, decide_eq_true_eq, bne_iff_ne] at hok
  obtain ⟨⟨⟨h1, h2⟩, hlen⟩, h3⟩ := hok
  have hpw := pairwiseB_spec h3
  refine Run.evS (go_run (fun i hi e he => (h1 i hi).2 e he) ops.size t _ base (by simp) hlen (fun i => ?_) hpw ?_ h) H.next H'.next
  · constructor
    · intro hi; exact ⟨h2 i hi, by simp [h2 i hi]⟩
    · rintro ⟨hi, _⟩; exact (h1 i hi).1
  · intro k hk
    exfalso
    by_cases hlt : k < ops.size
    · simp [hlt] at hk
    · simp [hlt] at hk

end
end Go.Ev
end
section
set_option linter.unusedVariables false
set_option linter.unusedSimpArgs false
namespace Go.Ev
open Go.RowKit
section
variable (P : Program)

/-- A call comes to a result and a heap that K takes. -/
def WF (f : FuncId) (args : List AV) (H : Heap) (K : AV → Heap → Prop) : Prop := ∃ r H', EvF P f args H r H' ∧ K r H'

theorem WF.mono {P : Program} {f : FuncId} {args : List AV} {H : Heap} {K K' : AV → Heap → Prop} (h : WF P f args H K) (hk : ∀ r H', K r H' → K' r H') : WF P f args H K' :=
  let ⟨r, H', h1, h2⟩ := h; ⟨r, H', h1, hk r H' h2⟩

/-- A call through a value. -/
def WCall (f : AV) (args : List AV) (H : Heap) (K : AV → Heap → Prop) : Prop :=
  match f with
  | .func (.func g) first cap => WF P g (first ++ args ++ cap) H K
  | _ => False

/-- A flagged operation that is not a call. -/
def FlOp (Kp : Kept) (o : Oper) (env : Env) (H : Heap) (r : AV) (H1 : Heap) : Prop :=
  match Kp with
  | none => UpB H.blk H1.blk
  | some K => UpO (some K) H.blk H1.blk ∧ (opKind P o.op = 1 → ∀ (G : Blks) (m : Nat), UpO (some K) H.blk G → evOp P env.at o ⟨G, m⟩ = some (r, ⟨G, m⟩))

/-- The operations of a region, one after the other. The flags: this one only adds (or keeps K). -/
def WS (Kp : Kept) (n : Nat) (ops : Array Oper) : List (Oper × Bool) → Env → Heap → (Env → Heap → Prop) → Prop
  | [], env, H, K => K env H
  | (o, fl) :: l, env, H, K =>
    match wantedA ops env o, dstOk n o.dst with
    | some false, true => WS Kp n ops l (env.put o.dst (.tuple [])) H K
    | some true, true =>
      (match o.op with
       | .call { callee := .value f, args, .. } => WCall P (env.at f) (args.toList.map env.at) H fun r H1 => (fl = true → UpO Kp H.blk H1.blk) ∧ WS Kp n ops l (env.put o.dst r) H1 K
       | _ => (match evOp P env.at o H with
         | some (r, H1) => (H1.next = H.next ∨ H.blk H.next = none) ∧ (fl = true → FlOp P Kp o env H r H1) ∧ WS Kp n ops l (env.put o.dst r) H1 K
         | none => False))
    | _, _ => False

/-- The operations in the order 'base'; 'fs': those that only add. -/
def laid (ops : Array Oper) (fs base : List Nat) : List (Oper × Bool) := base.filterMap fun i => (ops.toList[i]?).map (·, fs.contains i)

def plain (ops : Array Oper) : List (Oper × Bool) := ops.toList.map (·, false)

/-- The code of a function. -/
def WC (n : Nat) : Code → Env → Heap → (Ex → Env → Heap → Prop) → Prop
  | .skip, env, H, Q | .label _, env, H, Q => Q .normal env H
  | .region _ ops false, env, H, Q => WS P none n ops (plain ops) env H (Q .normal)
  | .region _ ops true, env, H, Q => ∃ (Kp : Kept) (fs base : List Nat), drawOkE P Kp.isSome Kp.eq ops fs.contains base = true ∧ WS P Kp n ops (laid ops fs base) env H (Q .normal)
  | .seq a b, env, H, Q => WC n a env H fun ex env' H' => match ex with | .normal => WC n b env' H' Q | ex => Q ex env' H'
  | .cond c a b, env, H, Q => (match env.at c with | .bool t => if t = true then WC n a env H Q else WC n b env H Q | _ => False)
  | .block id c, env, H, Q => WC n c env H fun ex env' H' => match ex with | .exit i => if i = id then Q .normal env' H' else Q (.exit i) env' H' | ex => Q ex env' H'
  | .loop c, env, H, Q => ∃ ex env' H', EvL P n c env H ex env' H' ∧ Q ex env' H'
  | .exit id, env, H, Q => Q (.exit id) env H
  | .ret, env, H, Q => Q .ret env H
  | .scope c, env, H, Q => WC n c env H Q
  | _, _, _, _ => False

theorem flOp_ok {P : Program} {Kp : Kept} {ops : Array Oper} {o : Oper} {env : Env} {H : Heap} {r : AV} {H1 : Heap} (hw : wantedA ops env o = some true) (h : FlOp P Kp o env H r H1) : FlOk P ops Kp o env H.blk r H1.blk := by
  cases Kp with
  | none => exact ⟨h, fun hs => by cases hs⟩
  | some K => exact ⟨h.1, fun _ hk G hG => .op G H.next r ⟨G, H.next⟩ hw (.inr rfl) (h.2 hk G H.next hG)⟩

theorem WS_run {Kp : Kept} {n : Nat} {ops : Array Oper} {fl : Nat → Bool} : ∀ (l : List (Oper × Bool)) (is : List Nat) (env : Env) (H : Heap) (K : Env → Heap → Prop), is.map (fun i => (ops[i]?, fl i)) = l.map (fun p => (some p.1, p.2)) → WS P Kp n ops l env H K →
    ∃ env' H', Run P Kp n ops fl is env H.blk env' H'.blk ∧ K env' H'
  | [], is, env, H, K, hi, h => by
    cases is with
    | nil => exact ⟨env, H, ⟨rfl, rfl⟩, h⟩
    | cons i is => simp at hi
  | (o, f) :: l, is, env, H, K, hi, h => by
    cases is with
    | nil => simp at hi
    | cons i is =>
      simp only [List.map_cons, List.cons.injEq, Prod.mk.injEq] at hi
      obtain ⟨⟨ho, hfl⟩, hi⟩ := hi
      simp only [WS] at h
      split at h
      · rename_i hw hd
        obtain ⟨env', H', h1, h2⟩ := WS_run l is _ _ _ hi h
        exact ⟨env', H', ⟨_, _, ⟨o, _, ho, hd, .skip _ hw, rfl, fun _ => ⟨UpO.refl _, fun _ _ G _ => .skip _ hw⟩⟩, h1⟩, h2⟩
      · rename_i hw hd
        split at h
        · rename_i f args ts hop
          unfold WCall at h
          split at h
          · rename_i g first cap hf
            obtain ⟨r, H1, hF, hu, h⟩ := h
            obtain ⟨env', H', h1, h2⟩ := WS_run l is _ _ _ hi h
            exact ⟨env', H', ⟨_, _, ⟨o, r, ho, hd, .call _ H.next f args ts g first cap r H1 hw hop hf hF, rfl, fun q => ⟨hu (hfl ▸ q), fun _ hk => by rw [hop] at hk; simp [opKind] at hk⟩⟩, h1⟩, h2⟩
          · exact h.elim
        · split at h
          · rename_i r H1 hev
            obtain ⟨hfree, hu, h⟩ := h
            obtain ⟨env', H', h1, h2⟩ := WS_run l is _ _ _ hi h
            exact ⟨env', H', ⟨_, _, ⟨o, r, ho, hd, .op _ H.next r H1 hw hfree.symm hev, rfl, fun q => flOp_ok hw (hu (hfl ▸ q))⟩, h1⟩, h2⟩
          · exact h.elim
      · exact h.elim

theorem plain_ops (ops : Array Oper) : (List.range ops.size).map (fun i => (ops[i]?, false)) = (plain ops).map (fun p => (some p.1, p.2)) := by
  apply List.ext_getElem?
  intro i
  simp only [List.getElem?_map, plain]
  by_cases h : i < ops.size
  · simp [List.getElem?_range h, h]
  · rw [List.getElem?_eq_none (by simp; omega), List.getElem?_eq_none (by simp; omega)]; rfl

theorem laid_ops (ops : Array Oper) (fs : List Nat) : ∀ (base : List Nat), (∀ i ∈ base, i < ops.size) → base.map (fun i => (ops[i]?, fs.contains i)) = (laid ops fs base).map (fun p => (some p.1, p.2))
  | [], _ => rfl
  | i :: l, h => by
    have hi : i < ops.size := h i List.mem_cons_self
    have := laid_ops ops fs l (fun k hk => h k (List.mem_cons_of_mem _ hk))
    simp only [laid, List.contains_eq_mem] at this ⊢
    simpa [hi] using this

theorem WC_sound {n : Nat} : ∀ (c : Code) (env : Env) (H : Heap) (Q : Ex → Env → Heap → Prop), WC P n c env H Q → ∃ ex env' H', EvC P n c env H ex env' H' ∧ Q ex env' H'
  | .skip, env, H, Q, h => ⟨_, _, _, .skip _ _ _, h⟩
  | .label l, env, H, Q, h => ⟨_, _, _, .label _ _ _ _, h⟩
  | .region id ops false, env, H, Q, h => by
    simp only [WC] at h
    obtain ⟨env', H', h1, h2⟩ := WS_run P (fl := fun _ => false) _ _ _ _ _ (plain_ops ops) h
    exact ⟨_, _, _, .region _ _ _ _ _ _ _ (h1.evS _ _), h2⟩
  | .region id ops true, env, H, Q, h => by
    simp only [WC] at h
    obtain ⟨Kp, fs, base, hok, h⟩ := h
    have hb : ∀ i ∈ base, i < ops.size := by
      simp only [drawOkE, Bool.and_eq_true, List.all_eq_true, decide_eq_true_eq] at hok
      exact hok.1.1.2
    obtain ⟨env', H', h1, h2⟩ := WS_run P _ _ _ _ _ (laid_ops ops fs base hb) h
    exact ⟨_, _, _, .draw _ _ _ _ _ _ _ (draw_of_run hok h1), h2⟩
  | .seq a b, env, H, Q, h => by
    simp only [WC] at h
    obtain ⟨ex, env', H', h1, h2⟩ := WC_sound a env H _ h
    cases ex with
    | normal =>
      obtain ⟨ex, env2, H2, h3, h4⟩ := WC_sound b env' H' Q h2
      exact ⟨_, _, _, .seq _ _ _ _ _ _ _ _ _ _ h1 h3, h4⟩
    | exit i => exact ⟨_, _, _, .seqOut _ _ _ _ _ _ _ _ h1 (by simp), h2⟩
    | ret => exact ⟨_, _, _, .seqOut _ _ _ _ _ _ _ _ h1 (by simp), h2⟩
  | .cond c a b, env, H, Q, h => by
    simp only [WC] at h
    split at h
    · rename_i t ht
      split at h
      · rename_i e
        subst e
        obtain ⟨ex, env', H', h1, h2⟩ := WC_sound a env H Q h
        exact ⟨_, _, _, .cond _ _ _ _ true _ _ _ _ _ ht h1, h2⟩
      · rename_i e
        obtain rfl : t = false := by cases t <;> simp_all
        obtain ⟨ex, env', H', h1, h2⟩ := WC_sound b env H Q h
        exact ⟨_, _, _, .cond _ _ _ _ false _ _ _ _ _ ht h1, h2⟩
    · exact h.elim
  | .block id c, env, H, Q, h => by
    simp only [WC] at h
    obtain ⟨ex, env', H', h1, h2⟩ := WC_sound c env H _ h
    cases ex with
    | normal => exact ⟨_, _, _, .block _ _ _ _ _ _ _ _ h1 (.inl rfl), h2⟩
    | exit i =>
      simp only at h2
      split at h2
      · rename_i e; subst e; exact ⟨_, _, _, .block _ _ _ _ _ _ _ _ h1 (.inr rfl), h2⟩
      · rename_i e; exact ⟨_, _, _, .blockOut _ _ _ _ _ _ _ _ h1 ⟨by simp, by simpa using e⟩, h2⟩
    | ret => exact ⟨_, _, _, .blockOut _ _ _ _ _ _ _ _ h1 ⟨by simp, by simp⟩, h2⟩
  | .loop c, env, H, Q, h => by
    simp only [WC] at h
    obtain ⟨ex, env', H', h1, h2⟩ := h
    exact ⟨_, _, _, .loop _ _ _ _ _ _ _ h1, h2⟩
  | .exit id, env, H, Q, h => ⟨_, _, _, .exit _ _ _ _, h⟩
  | .ret, env, H, Q, h => ⟨_, _, _, .ret _ _ _, h⟩
  | .scope c, env, H, Q, h => by
    simp only [WC] at h
    obtain ⟨ex, env', H', h1, h2⟩ := WC_sound c env H _ h
    exact ⟨_, _, _, .scope _ _ _ _ _ _ _ h1, h2⟩
  | .rangeFunc .., env, H, Q, h => by simp [WC] at h
  | .goto .., env, H, Q, h => by simp [WC] at h
  | .refuse .., env, H, Q, h => by simp [WC] at h

/-- A function's contract from its body. -/
theorem WF_of {f : FuncId} {fn : Func} {c : Code} {args : List AV} {H : Heap} {K : AV → Heap → Prop} (hf : P.funcs[f]? = some fn) (hn : (fn.name == "runtime.NumGoroutine") = false) (hb : fn.body = some c) (ha : args.length ≤ fn.ntmps)
    (h : WC P fn.ntmps c (Env.ofArgs args) H fun ex env H' => match ex, evResults P fn.results.toList env H' with | .normal, some r => K r H' | .ret, some r => K r H' | _, _ => False) : WF P f args H K := by
  obtain ⟨ex, env, H', h1, h2⟩ := WC_sound P _ _ _ _ h
  cases hr : evResults P fn.results.toList env H' with
  | none => simp [hr] at h2
  | some r =>
    simp only [hr] at h2
    cases ex with
    | normal => exact ⟨r, H', .mk f fn c args H _ env H' r hf hn hb ha h1 (.inl rfl) hr, h2⟩
    | ret => exact ⟨r, H', .mk f fn c args H _ env H' r hf hn hb ha h1 (.inr rfl) hr, h2⟩
    | exit i => exact h2.elim

/-- A loop, by a measure. -/
theorem WL_of {n : Nat} {c : Code} (I : Env → Heap → Prop) (μ : Env → Heap → Nat) (Q : Ex → Env → Heap → Prop)
    (round : ∀ env H, I env H → WC P n c env H fun ex env' H' => match ex with | .normal => I env' H' ∧ μ env' H' < μ env H | ex => Q ex env' H') :
    ∀ env H, I env H → ∃ ex env' H', EvL P n c env H ex env' H' ∧ Q ex env' H' := by
  have key : ∀ k env H, μ env H = k → I env H → ∃ ex env' H', EvL P n c env H ex env' H' ∧ Q ex env' H' := by
    intro k
    induction k using Nat.strongRecOn with
    | _ k ih =>
      intro env H hk hI
      obtain ⟨ex, env1, H1, h1, h2⟩ := WC_sound P _ _ _ _ (round env H hI)
      cases ex with
      | normal =>
        obtain ⟨hI1, hlt⟩ := h2
        obtain ⟨ex, env2, H2, h3, h4⟩ := ih _ (hk ▸ hlt) env1 H1 rfl hI1
        exact ⟨ex, env2, H2, .again _ _ _ _ _ _ _ _ _ h1 h3, h4⟩
      | exit i => exact ⟨_, _, _, .out _ _ _ _ _ _ _ h1 (by simp), h2⟩
      | ret => exact ⟨_, _, _, .out _ _ _ _ _ _ _ h1 (by simp), h2⟩
  exact fun env H hI => key _ env H rfl hI

/-- The beginning: nothing made yet. -/
def H0 : Heap := ⟨fun _ => none, 0⟩
def E0 : Emb := ⟨fun _ _ => none, fun _ => none⟩

theorem wrel_start (W : World) : WRel (memOf W) W E0 H0 W where
  below := Below.refl _ _
  mem := fun b o v h => ⟨World.block_lt_of_cell? (a := ⟨b, o, none⟩) W h, h⟩
  dom := fun b g L h => by cases h
  mdom := fun b m h => by cases h
  row := fun b ty esz els gen wgen h => by cases h
  map := fun b es cl h => by cases h
  sep := fun b g L b' g' L' h => by cases h
  msep := fun b m b' h => by cases h
  memsep := fun b g L o v h => by cases h

/-- A law that comes to true. -/
theorem law_calls {P : Program} (hm : P.follows .mixedOrders = true) {f : FuncId} {as : List AV} {vs : List Value} {W : World} (hr : RepL (memOf W) E0 as vs) (h : WF P f as H0 fun r _ => r = .bool true) :
    Calls P f vs.toArray W fun e W' => e = .returned (.bool true) ∧ Below W.heap.size W W' := by
  obtain ⟨r, H', h1, h2⟩ := h
  subst h2
  refine ((EvF.sound (C := memOf W) (w0 := W) hm h1).2 (wrel_start W) hr).mono fun e W' ⟨E', v, he, _, hw, hv⟩ => ?_
  rw [rep_bool hv] at he
  exact ⟨he, hw.below⟩

end
end Go.Ev
end
section
set_option linter.unusedVariables false
set_option linter.unusedSimpArgs false
namespace Go.Ev

/-! ### Heaps -/

def Free (H : Heap) : Prop := ∀ b, H.next ≤ b → H.blk b = none

theorem free_H0 : Free H0 := fun _ _ => rfl
theorem Free.push {H : Heap} (h : Free H) (x : Blk) : Free (H.push x) := fun b hb => by
  have hb' : H.next + 1 ≤ b := hb
  simp only [Heap.push]
  rw [if_neg (by omega)]; exact h b (by omega)
theorem Free.lt {H : Heap} (h : Free H) {b : Nat} {x : Blk} (hb : H.blk b = some x) : b < H.next := by
  apply Classical.byContradiction
  intro hn
  rw [h b (by omega)] at hb; cases hb
theorem Free.set {H : Heap} (h : Free H) {b : Nat} (hb : b < H.next) (x : Blk) : Free (H.set b x) := fun c hc => by
  have hc' : H.next ≤ c := hc
  rw [Heap.set_other _ _ _ (by omega)]; exact h c hc'
theorem Free.at {H : Heap} (h : Free H) : H.blk H.next = none := h _ (Nat.le_refl _)

theorem push_blk_same (H : Heap) (x : Blk) : (H.push x).blk H.next = some x := by simp [Heap.push]
theorem push_next (H : Heap) (x : Blk) : (H.push x).next = H.next + 1 := rfl
theorem push_set_same (H : Heap) (x y : Blk) : (H.push x).set H.next y = H.push y := Heap.ext' (fun i => by simp only [Heap.push, Heap.set]; split <;> rfl) rfl
theorem push_blk_free {H : Heap} (h : Free H) (x : Blk) : (H.push x).blk (H.next + 1) = none := by simp only [Heap.push]; rw [if_neg (by omega)]; exact h _ (by omega)
theorem push_blk_other {H : Heap} {b : Nat} (x : Blk) (h : b ≠ H.next) : (H.push x).blk b = H.blk b := by simp only [Heap.push]; rw [if_neg h]
theorem push_blk_old {H : Heap} (hF : Free H) {b : Nat} {x y : Blk} (h : H.blk b = some y) : (H.push x).blk b = some y := by
  rw [push_blk_other _ (by have := hF.lt h; omega)]; exact h

theorem Up.refl (H : Heap) : Up H H := fun _ _ h => h
theorem Up.trans {H G K : Heap} (h : Up H G) (k : Up G K) : Up H K := fun b x hb => k b x (h b x hb)
theorem Up.push {H0 H : Heap} (h : Up H0 H) (hF : Free H) (x : Blk) : Up H0 (H.push x) := fun b y hb => push_blk_old hF (h b y hb)
theorem Up.set {H0 H : Heap} (h : Up H0 H) {b : Nat} (hb : H0.blk b = none) (x : Blk) : Up H0 (H.set b x) := fun c y hc => by
  rw [Heap.set_other _ _ _ (fun e => by rw [e, hb] at hc; cases hc)]; exact h c y hc
theorem Up.new {H0 H : Heap} (h : Up H0 H) (hF : Free H) : H0.blk H.next = none := by
  cases hx : H0.blk H.next with
  | none => rfl
  | some x => have := h _ _ hx; rw [hF.at] at this; cases this
theorem Up.fresh {H0 H : Heap} (h : Up H0 H) {b : Nat} (hb : H.blk b = none) : H0.blk b = none := by
  cases hx : H0.blk b with
  | none => rfl
  | some x => have := h _ _ hx; rw [hb] at this; cases this

/-! ### Slices that are read -/

/-- v is a slice over these elements. -/
def Holds (H : Heap) (esz : Nat) (v : AV) (L : List (List AV)) : Prop :=
  (∀ cs ∈ L, cs.length = esz) ∧
  ((L = [] ∧ (v = .nilslice ∨ v = .eslice)) ∨ v = .lst esz L ∨
   ∃ b off cap ex g ty els gen wgen, v = .slice b off L.length cap ex g ∧ H.blk b = some (.row ty esz els gen wgen) ∧ wgen ≤ g ∧ (els.drop off).take L.length = L ∧ off + L.length ≤ els.length ∧ L.length ≤ cap)

theorem Holds.up {H G : Heap} {esz : Nat} {v : AV} {L : List (List AV)} (h : Holds H esz v L) (hu : Up H G) : Holds G esz v L := by
  obtain ⟨h0, h | h | ⟨b, off, cap, ex, g, ty, els, gen, wgen, h1, h2, h3⟩⟩ := h
  · exact ⟨h0, .inl h⟩
  · exact ⟨h0, .inr (.inl h)⟩
  · exact ⟨h0, .inr (.inr ⟨b, off, cap, ex, g, ty, els, gen, wgen, h1, hu _ _ h2, h3⟩)⟩

theorem Holds.lst {H : Heap} {esz : Nat} {L : List (List AV)} (h : ∀ cs ∈ L, cs.length = esz) : Holds H esz (.lst esz L) L := ⟨h, .inr (.inl rfl)⟩
theorem Holds.nil {H : Heap} {esz : Nat} : Holds H esz .nilslice [] := ⟨by simp, .inl ⟨rfl, .inl rfl⟩⟩

section
variable {P : Program}

theorem Holds.len {H : Heap} {esz : Nat} {v : AV} {L : List (List AV)} (h : Holds H esz v L) {t e : TypeId} (ht : P.underlying t = some (.slice e)) : evBuiltin P H .len #[t] [v] = some (.int .i64 L.length, H) := by
  obtain ⟨h0, ⟨rfl, rfl | rfl⟩ | rfl | ⟨b, off, cap, ex, g, ty, els, gen, wgen, rfl, h2, h3⟩⟩ := h <;> simp [evBuiltin, ht]

theorem Holds.len? {H : Heap} {esz : Nat} {v : AV} {L : List (List AV)} (h : Holds H esz v L) : v.len? = some L.length := by
  obtain ⟨h0, ⟨rfl, rfl | rfl⟩ | rfl | ⟨b, off, cap, ex, g, ty, els, gen, wgen, rfl, h2, h3⟩⟩ := h <;> simp [AV.len?]

theorem Holds.elems {H : Heap} {esz : Nat} {v : AV} {L : List (List AV)} (h : Holds H esz v L) : H.elems esz L.length v = some L := by
  obtain ⟨h0, ⟨rfl, rfl | rfl⟩ | rfl | ⟨b, off, cap, ex, g, ty, els, gen, wgen, rfl, h2, h3, h4, _⟩⟩ := h <;> simp_all [Heap.elems]

theorem Holds.index {H : Heap} {esz : Nat} {v : AV} {L : List (List AV)} (h : Holds H esz v L) {t e : TypeId} (ht : P.underlying t = some (.slice e)) (hs : szOf P e = some esz) (k : IntKind) {i : Nat} {cs : List AV} (hi : L[i]? = some cs) :
    ∃ p, evIndexAddr P H t v (.int k i) = some p ∧ (∀ G, Up H G → G.load p esz = some cs) ∧ ∀ b' i' o' g', p = .ptr b' i' o' g' → H.blk b' ≠ none := by
  obtain ⟨h0, ⟨rfl, rfl | rfl⟩ | rfl | ⟨b, off, cap, ex, g, ty, els, gen, wgen, rfl, h2, h3, h4, h5, _⟩⟩ := h
  · simp at hi
  · simp at hi
  · refine ⟨.iptr cs 0, by simp [evIndexAddr, ht, hs, hi], fun G _ => ?_, by simp⟩
    have := h0 cs (List.mem_of_getElem? hi)
    subst this
    simp [Heap.load]
  · have hlt := (List.getElem?_eq_some_iff.1 hi).1
    have hg : els[off + i]? = some cs := by
      rw [← h4, List.getElem?_take_of_lt hlt, List.getElem?_drop] at hi; exact hi
    refine ⟨.ptr b (off + i) 0 g, ?_, fun G hG => ?_, fun b' i' o' g' e => by cases e; rw [h2]; simp⟩
    · simp [evIndexAddr, ht, hs, Heap.eszOf, h2, h3, hlt]
    · have hl := h0 cs (List.mem_of_getElem? hi)
      subst hl
      simp [Heap.load, hG _ _ h2, h3, hg]

/-- A part of a slice. -/
theorem Holds.part {H : Heap} {esz : Nat} {v : AV} {L : List (List AV)} (h : Holds H esz v L) {t e : TypeId} (ht : P.underlying t = some (.slice e)) (hs : szOf P e = some esz) (lo : Option Int) (hi : Option Int) (a b : Nat) (hlo : lo.getD 0 = a) (hhi : hi.getD L.length = b)
    (hab : a ≤ b) (hb : b ≤ L.length) : ∃ u, evSlice P H t v lo hi none = some u ∧ Holds H esz u ((L.drop a).take (b - a)) := by
  have hz : ∀ cs ∈ (L.drop a).take (b - a), cs.length = esz := fun cs hc => h.1 cs (List.mem_of_mem_drop (List.mem_of_mem_take hc))
  obtain ⟨h0, ⟨rfl, rfl | rfl⟩ | rfl | ⟨blk, off, cap, ex, g, ty, els, gen, wgen, rfl, h2, h3, h4, h5, h6⟩⟩ := h
  · have hb0 : b = 0 := by simpa using hb
    subst hb0
    obtain rfl : a = 0 := by omega
    refine ⟨.nilslice, ?_, by simpa using Holds.nil⟩
    have hhi' : hi.getD 0 = 0 := by simpa using hhi
    simp [evSlice, ht, hs, hlo, hhi', boundsOk]
  · have hb0 : b = 0 := by simpa using hb
    subst hb0
    obtain rfl : a = 0 := by omega
    refine ⟨.eslice, ?_, ⟨by simp, .inl ⟨by simp, .inr rfl⟩⟩⟩
    have hhi' : hi.getD 0 = 0 := by simpa using hhi
    simp [evSlice, ht, hs, hlo, hhi', boundsOk]
  · refine ⟨.lst esz ((L.drop a).take (b - a)), ?_, hz, .inr (.inl rfl)⟩
    have e1 : ((b : Int) - (a : Int)).toNat = b - a := by omega
    simp only [evSlice, ht, hlo, hhi, hs, boundsOk, e1, Int.toNat_natCast]
    rw [if_pos (by simp; omega)]
  · have e1 : ((b : Int) - (a : Int)).toNat = b - a := by omega
    refine ⟨.slice blk (off + a) (b - a) (cap - a) ex g, ?_, hz, .inr (.inr ⟨blk, off + a, cap - a, ex, g, ty, els, gen, wgen, ?_, h2, h3, ?_, ?_, ?_⟩)⟩
    · simp only [evSlice, ht, hlo, hhi, hs, boundsOk, e1, Int.toNat_natCast, Heap.eszOf, h2, if_pos h3]
      rw [if_pos (by simp; omega)]
    · simp; omega
    · have hle : ((L.drop a).take (b - a)).length = b - a := by simp; omega
      rw [hle]
      conv => rhs; rw [← h4]
      rw [List.drop_take, List.take_take, List.drop_drop]
      congr 1
      omega
    · have hle : ((L.drop a).take (b - a)).length = b - a := by simp; omega
      rw [hle]; omega
    · have hle : ((L.drop a).take (b - a)).length = b - a := by simp; omega
      rw [hle]; omega

/-! ### Slices that grow -/

/-- v is a slice that this run has made since H0, and at whose end the row ends, or with no room. -/
def Own (H0 H : Heap) (ty esz : Nat) (v : AV) (L : List (List AV)) : Prop :=
  (∀ cs ∈ L, cs.length = esz ∧ cs.all AV.isCell = true) ∧
  ((L = [] ∧ (v = .nilslice ∨ v = .eslice)) ∨
   (∃ b g wgen, v = .slice b 0 L.length L.length false g ∧ H.blk b = some (.row ty esz L g wgen) ∧ wgen ≤ g ∧ H0.blk b = none) ∨
   ∃ b g ty' gen wgen, v = .slice b 0 L.length L.length true g ∧ H.blk b = some (.row ty' esz L gen wgen) ∧ (wgen ≤ g ∧ gen = g) ∧ H0.blk b = none)

theorem Own.holds {G H : Heap} {ty esz : Nat} {v : AV} {L : List (List AV)} (h : Own G H ty esz v L) : Holds H esz v L := by
  obtain ⟨h0, h | ⟨b, g, wgen, h1, h2, h3, h4⟩ | ⟨b, g, ty', gen, wgen, h1, h2, h3, h4⟩⟩ := h
  · exact ⟨fun cs hc => (h0 cs hc).1, .inl h⟩
  · exact ⟨fun cs hc => (h0 cs hc).1, .inr (.inr ⟨b, 0, _, false, g, ty, L, g, wgen, h1, h2, h3, by simp, by simp, Nat.le_refl _⟩)⟩
  · exact ⟨fun cs hc => (h0 cs hc).1, .inr (.inr ⟨b, 0, _, true, g, ty', L, gen, wgen, h1, h2, h3.1, by simp, by simp, Nat.le_refl _⟩)⟩

theorem Own.nil {G H : Heap} {ty esz : Nat} : Own G H ty esz .nilslice [] := ⟨by simp, .inl ⟨rfl, .inl rfl⟩⟩

theorem Own.up {G H K : Heap} {ty esz : Nat} {v : AV} {L : List (List AV)} (h : Own G H ty esz v L) (hu : Up H K) : Own G K ty esz v L := by
  obtain ⟨h0, h | ⟨b, g, wgen, h1, h2, h3, h4⟩ | ⟨b, g, ty', gen, wgen, h1, h2, h3, h4⟩⟩ := h
  · exact ⟨h0, .inl h⟩
  · exact ⟨h0, .inr (.inl ⟨b, g, wgen, h1, hu _ _ h2, h3, h4⟩)⟩
  · exact ⟨h0, .inr (.inr ⟨b, g, ty', gen, wgen, h1, hu _ _ h2, h3, h4⟩)⟩

theorem Own.append {G H : Heap} {ty esz bytes : Nat} {v : AV} {L : List (List AV)} (h : Own G H ty esz v L) (hF : Free H) (hU : Up G H) {new : List (List AV)} (hnew : ∀ cs ∈ new, cs.length = esz ∧ cs.all AV.isCell = true)
    (hsz : (L.length + new.length) * bytes ≤ maxBytes) (hsz' : L.length + new.length ≤ maxBytes) :
    ∃ u K, H.append ty esz bytes v new = some (u, K) ∧ Own G K ty esz u (L ++ new) ∧ Up G K ∧ Free K ∧ (K.next = H.next ∨ H.blk H.next = none) ∧ (∀ b x, H.blk b = some x → G.blk b ≠ none → K.blk b = some x) := by
  have hcell : new.all (fun cs => cs.all AV.isCell) = true := List.all_eq_true.2 fun cs hc => (hnew cs hc).2
  have hall : ∀ cs ∈ L ++ new, cs.length = esz ∧ cs.all AV.isCell = true := fun cs hc => (List.mem_append.1 hc).elim (h.1 cs) (hnew cs)
  have hkeep : ∀ b x, H.blk b = some x → G.blk b ≠ none → H.blk b = some x := fun b x hb _ => hb
  by_cases hn : new = []
  · subst hn
    refine ⟨v, H, ?_, by simpa using h, hU, hF, .inl rfl, hkeep⟩
    obtain ⟨h0, ⟨rfl, rfl | rfl⟩ | ⟨b, g, wgen, rfl, h2, h3, h4⟩ | ⟨b, g, ty', gen, wgen, rfl, h2, h3, h4⟩⟩ := h <;> simp [Heap.append]
  · have hn0 : new.length ≠ 0 := by simpa using hn
    have hpos : 0 < new.length := by omega
    obtain ⟨h0, ⟨rfl, hv⟩ | ⟨b, g, wgen, rfl, h2, h3, h4⟩ | ⟨b, g, ty', gen, wgen, rfl, h2, h3, h4⟩⟩ := h
    · have hs1 : new.length * bytes ≤ maxBytes ∧ new.length ≤ maxBytes := by simp at hsz hsz'; exact ⟨hsz, hsz'⟩
      refine ⟨.slice H.next 0 new.length new.length false 0, H.push (.row ty esz new 0 0), ?_, ⟨by simpa using hall, .inr (.inl ⟨H.next, 0, 0, by simp, by simpa using push_blk_same _ _, Nat.le_refl _, hU.new hF⟩)⟩, hU.push hF _, hF.push _, .inr hF.at,
        fun b x hb _ => push_blk_old hF hb⟩
      rcases hv with rfl | rfl <;> (simp only [Heap.append, hcell, if_true]; rw [if_neg hn0, if_pos hs1])
    · have hlt := hF.lt h2
      refine ⟨.slice b 0 (L.length + new.length) (L.length + new.length) false (g + 1), H.set b (.row ty esz (L ++ new) (g + 1) wgen), ?_, ⟨hall, .inr (.inl ⟨b, g + 1, wgen, by simp, by simp [Heap.set_same], by omega, h4⟩)⟩, hU.set h4 _, hF.set hlt _, .inl rfl,
        fun c x hc hg => ?_⟩
      · simp only [Heap.append, hcell, if_true]
        rw [if_neg hn0]
        simp only [h2]
        rw [if_pos ⟨h3, trivial, hsz, hsz'⟩, if_neg (by omega)]
        simp
      · rw [Heap.set_other _ _ _ (fun e => hg (by rw [e]; exact h4))]; exact hc
    · refine ⟨.slice H.next 0 (L.length + new.length) (L.length + new.length) false 0, H.push (.row ty esz (L ++ new) 0 0), ?_, ⟨hall, .inr (.inl ⟨H.next, 0, 0, by simp, push_blk_same _ _, Nat.le_refl _, hU.new hF⟩)⟩, hU.push hF _, hF.push _, .inr hF.at,
        fun b x hb _ => push_blk_old hF hb⟩
      simp only [Heap.append, hcell, if_true]
      rw [if_neg hn0]
      simp only [h2]
      rw [if_pos ⟨h3.1, trivial, hsz, hsz'⟩, if_neg (by omega)]
      simp

/-- Does append over these types take cells of this size? -/
def appB (P : Program) (t u e esz bytes : Nat) : Bool :=
  elemOfSlice P t == some e && (match P.underlying u with | some (.slice _) => true | _ => false) &&
  (match P.info? e with | some i => i.size == esz && i.bytes == bytes && decide (0 < esz) && (match i.zero with | some z => z.cells.size == i.size | none => false) | none => false)

theorem append_ev {H : Heap} {t u e esz bytes : Nat} (hb : appB P t u e esz bytes = true) {s x : AV} {new : List (List AV)} {n : Nat} (hn : x.len? = some n) (he : H.elems esz n x = some new) :
    evBuiltin P H .append #[t, u] [s, x] = H.append e esz bytes s new := by
  simp only [appB, Bool.and_eq_true, beq_iff_eq] at hb
  obtain ⟨⟨h1, h2⟩, h3⟩ := hb
  split at h2
  · rename_i ue hu
    split at h3
    · rename_i i hi
      simp only [Bool.and_eq_true, beq_iff_eq, decide_eq_true_eq] at h3
      obtain ⟨⟨⟨rfl, rfl⟩, h0⟩, hz⟩ := h3
      split at hz
      · rename_i z hzz
        simp only [beq_iff_eq] at hz
        simp [evBuiltin, h1, hu, hi, hzz, hn, hz, h0, he]
      · cases hz
    · cases h3
  · cases h2

end
end Go.Ev
end
section
set_option linter.unusedVariables false
set_option linter.unusedSimpArgs false
namespace Go.Ev

/-! ### Stepping, with what is left to do as data -/

inductive KItem where
  | code (c : Code)
  | blk (id : Nat)

section
variable (P : Program)

/-- What is left to do. -/
def After (n : Nat) : List KItem → Ex → Env → Heap → (Ex → Env → Heap → Prop) → Prop
  | [], ex, env, H, Q => Q ex env H
  | .code c :: ks, .normal, env, H, Q => WC P n c env H fun ex env H => After n ks ex env H Q
  | .code c :: ks, .exit i, env, H, Q => After n ks (.exit i) env H Q
  | .code c :: ks, .ret, env, H, Q => After n ks .ret env H Q
  | .blk id :: ks, .exit i, env, H, Q => if i = id then After n ks .normal env H Q else After n ks (.exit i) env H Q
  | .blk id :: ks, .normal, env, H, Q => After n ks .normal env H Q
  | .blk id :: ks, .ret, env, H, Q => After n ks .ret env H Q

def AfterOps (Kp : Kept) (n : Nat) (ops : Array Oper) (l : List (Oper × Bool)) (ks : List KItem) (env : Env) (H : Heap) (Q : Ex → Env → Heap → Prop) : Prop :=
  WS P Kp n ops l env H fun env H => After P n ks .normal env H Q

def OpStep (Kp : Kept) (n : Nat) (ops : Array Oper) (d : Option Tmp) (fl : Bool) (res : Option (AV × Heap)) (l : List (Oper × Bool)) (ks : List KItem) (env : Env) (H : Heap) (Q : Ex → Env → Heap → Prop) : Prop :=
  match res with
  | some (r, H1) => (H1.next = H.next ∨ H.blk H.next = none) ∧ (fl = true → UpB H.blk H1.blk) ∧ AfterOps P Kp n ops l ks (env.put d r) H1 Q
  | none => False

/-- A flagged operation of a region with a set K. -/
def OpStepK (K : (Nat → Prop) × Bool) (n : Nat) (ops : Array Oper) (o : Oper) (l : List (Oper × Bool)) (ks : List KItem) (env : Env) (H : Heap) (Q : Ex → Env → Heap → Prop) : Prop :=
  match evOp P env.at o H with
  | some (r, H1) => (H1.next = H.next ∨ H.blk H.next = none) ∧ FlOp P (some K) o env H r H1 ∧ AfterOps P (some K) n ops l ks (env.put o.dst r) H1 Q
  | none => False

def CallStep (Kp : Kept) (n : Nat) (ops : Array Oper) (d : Option Tmp) (fl : Bool) (f : AV) (args : List AV) (l : List (Oper × Bool)) (ks : List KItem) (env : Env) (H : Heap) (Q : Ex → Env → Heap → Prop) : Prop :=
  WCall P f args H fun r H1 => (fl = true → UpO Kp H.blk H1.blk) ∧ AfterOps P Kp n ops l ks (env.put d r) H1 Q

def DrawStep (n : Nat) (ops : Array Oper) (ks : List KItem) (env : Env) (H : Heap) (Q : Ex → Env → Heap → Prop) : Prop :=
  WC P n (.region 0 ops true) env H fun ex env H => After P n ks ex env H Q

def LoopStep (n : Nat) (c : Code) (ks : List KItem) (env : Env) (H : Heap) (Q : Ex → Env → Heap → Prop) : Prop :=
  WC P n (.loop c) env H fun ex env H => After P n ks ex env H Q

def CondStep (n : Nat) (c : AV) (a b : Code) (ks : List KItem) (env : Env) (H : Heap) (Q : Ex → Env → Heap → Prop) : Prop :=
  match c with
  | .bool t => if t = true then After P n (.code a :: ks) .normal env H Q else After P n (.code b :: ks) .normal env H Q
  | _ => False

def GuardStep (Kp : Kept) (n : Nat) (ops : Array Oper) (o : Oper) (fl : Bool) (w : Option Bool) (l : List (Oper × Bool)) (ks : List KItem) (env : Env) (H : Heap) (Q : Ex → Env → Heap → Prop) : Prop :=
  match w with
  | some true => AfterOps P Kp n ops (({ o with guard := none }, fl) :: l) ks env H Q
  | some false => AfterOps P Kp n ops l ks (env.put o.dst (.tuple [])) H Q
  | none => False

variable {P} {Kp : Kept} {n : Nat} {ks : List KItem} {env : Env} {H : Heap} {Q : Ex → Env → Heap → Prop} {ops : Array Oper} {l : List (Oper × Bool)}

theorem WC_mono {n : Nat} : ∀ (c : Code) {env : Env} {H : Heap} {Q Q' : Ex → Env → Heap → Prop}, (∀ ex env H, Q ex env H → Q' ex env H) → WC P n c env H Q → WC P n c env H Q' := by
  have WSm : ∀ {Kp : Kept} (ops : Array Oper) (l : List (Oper × Bool)) {env : Env} {H : Heap} {K K' : Env → Heap → Prop}, (∀ env H, K env H → K' env H) → WS P Kp n ops l env H K → WS P Kp n ops l env H K' := by
    intro Kp ops l
    induction l with
    | nil => intro env H K K' hk h; exact hk _ _ h
    | cons p l ih =>
      obtain ⟨o, fl⟩ := p
      intro env H K K' hk h
      simp only [WS] at h ⊢
      split at h
      · exact ih hk h
      · split at h
        · unfold WCall at h ⊢
          split at h
          · obtain ⟨r, H1, h1, h2, h3⟩ := h; exact ⟨r, H1, h1, h2, ih hk h3⟩
          · exact h
        · split at h
          · exact ⟨h.1, h.2.1, ih hk h.2.2⟩
          · exact h
      · exact h
  intro c
  induction c with
  | skip => intro env H Q Q' hq h; exact hq _ _ _ h
  | label l => intro env H Q Q' hq h; exact hq _ _ _ h
  | region id ops d =>
    intro env H Q Q' hq h
    cases d
    · exact WSm _ _ (hq _) h
    · simp only [WC] at h ⊢
      obtain ⟨Kp, fs, base, h1, h2⟩ := h
      exact ⟨Kp, fs, base, h1, WSm _ _ (hq _) h2⟩
  | seq a b iha ihb =>
    intro env H Q Q' hq h
    simp only [WC] at h ⊢
    refine iha (fun ex env H h => ?_) h
    cases ex with
    | normal => exact ihb hq h
    | exit i => exact hq _ _ _ h
    | ret => exact hq _ _ _ h
  | cond c a b iha ihb =>
    intro env H Q Q' hq h
    simp only [WC] at h ⊢
    split at h
    · split at h
      · rename_i e; rw [if_pos e]; exact iha hq h
      · rename_i e; rw [if_neg e]; exact ihb hq h
    · exact h
  | block id c ih =>
    intro env H Q Q' hq h
    simp only [WC] at h ⊢
    refine ih (fun ex env H h => ?_) h
    cases ex with
    | normal => exact hq _ _ _ h
    | exit i =>
      simp only at h ⊢
      split at h
      · rename_i e; rw [if_pos e]; exact hq _ _ _ h
      · rename_i e; rw [if_neg e]; exact hq _ _ _ h
    | ret => exact hq _ _ _ h
  | loop c ih =>
    intro env H Q Q' hq h
    simp only [WC] at h ⊢
    obtain ⟨ex, env', H', h1, h2⟩ := h
    exact ⟨ex, env', H', h1, hq _ _ _ h2⟩
  | exit id => intro env H Q Q' hq h; exact hq _ _ _ h
  | ret => intro env H Q Q' hq h; exact hq _ _ _ h
  | scope c ih =>
    intro env H Q Q' hq h
    simp only [WC] at h ⊢
    exact ih hq h
  | _ => intro env H Q Q' hq h; simp [WC] at h

theorem after_seq {a b : Code} : After P n (.code (.seq a b) :: ks) .normal env H Q = After P n (.code a :: .code b :: ks) .normal env H Q := by
  simp only [After, WC]
  congr 1
  funext ex env H
  cases ex <;> rfl
theorem after_skip : After P n (.code .skip :: ks) .normal env H Q = After P n ks .normal env H Q := rfl
theorem after_label {l : Nat} : After P n (.code (.label l) :: ks) .normal env H Q = After P n ks .normal env H Q := rfl
theorem after_exit {i : Nat} : After P n (.code (.exit i) :: ks) .normal env H Q = After P n ks (.exit i) env H Q := rfl
theorem after_ret : After P n (.code .ret :: ks) .normal env H Q = After P n ks .ret env H Q := rfl
theorem after_code_exit {c : Code} {i : Nat} : After P n (.code c :: ks) (.exit i) env H Q = After P n ks (.exit i) env H Q := rfl
theorem after_code_ret {c : Code} : After P n (.code c :: ks) .ret env H Q = After P n ks .ret env H Q := rfl
theorem after_blk {i : Nat} : After P n (.blk i :: ks) .normal env H Q = After P n ks .normal env H Q := rfl
theorem after_blk_ret {i : Nat} : After P n (.blk i :: ks) .ret env H Q = After P n ks .ret env H Q := rfl
theorem after_blk_exit {i j : Nat} : After P n (.blk i :: ks) (.exit j) env H Q = if j = i then After P n ks .normal env H Q else After P n ks (.exit j) env H Q := rfl
theorem after_nil {ex : Ex} : After P n [] ex env H Q = Q ex env H := by cases ex <;> rfl
theorem after_block {i : Nat} {c : Code} : After P n (.code (.block i c) :: ks) .normal env H Q = After P n (.code c :: .blk i :: ks) .normal env H Q := by
  simp only [After, WC]
  congr 1
  funext ex env H
  cases ex <;> rfl
theorem after_cond {c : Operand} {a b : Code} : After P n (.code (.cond c a b) :: ks) .normal env H Q = CondStep P n (env.at c) a b ks env H Q := by
  simp only [After, WC, CondStep] <;> (cases env.at c <;> rfl)
theorem condStep_bool {t : Bool} {a b : Code} : CondStep P n (.bool t) a b ks env H Q = if t = true then After P n (.code a :: ks) .normal env H Q else After P n (.code b :: ks) .normal env H Q := rfl
theorem condStep_true {a b : Code} : CondStep P n (.bool true) a b ks env H Q = After P n (.code a :: ks) .normal env H Q := rfl
theorem condStep_false {a b : Code} : CondStep P n (.bool false) a b ks env H Q = After P n (.code b :: ks) .normal env H Q := rfl
theorem after_region {id : Nat} : After P n (.code (.region id ops false) :: ks) .normal env H Q = AfterOps P none n ops (plain ops) ks env H Q := rfl
theorem after_draw {id : Nat} : After P n (.code (.region id ops true) :: ks) .normal env H Q = DrawStep P n ops ks env H Q := rfl
theorem after_scope {c : Code} : After P n (.code (.scope c) :: ks) .normal env H Q = After P n (.code c :: ks) .normal env H Q := by simp only [After, WC]
theorem after_loop {c : Code} : After P n (.code (.loop c) :: ks) .normal env H Q = LoopStep P n c ks env H Q := rfl

theorem afterOps_nil : AfterOps P Kp n ops [] ks env H Q = After P n ks .normal env H Q := rfl

theorem opStep_some {d : Option Tmp} {r : AV} {H1 : Heap} : OpStep P Kp n ops d false (some (r, H1)) l ks env H Q = ((H1.next = H.next ∨ H.blk H.next = none) ∧ AfterOps P Kp n ops l ks (env.put d r) H1 Q) := by
  simp [OpStep]
theorem opStep_flag {d : Option Tmp} {r : AV} {H1 : Heap} : OpStep P Kp n ops d true (some (r, H1)) l ks env H Q = ((H1.next = H.next ∨ H.blk H.next = none) ∧ UpB H.blk H1.blk ∧ AfterOps P Kp n ops l ks (env.put d r) H1 Q) := by
  simp [OpStep]

/-- The operations that are carried out here: all but calls of functions. -/
def here : Op → Bool
  | .call { callee := .value _, .. } => false
  | _ => true

def HereStep (P : Program) (Kp : Kept) (n : Nat) (ops : Array Oper) (d : Option Tmp) (op : Op) (ty : TypeId) (pos : String) (af : Array Edge) (fl : Bool) (h : Bool) (l : List (Oper × Bool)) (ks : List KItem) (env : Env) (H : Heap) (Q : Ex → Env → Heap → Prop) : Prop :=
  match h with
  | true => (match fl, Kp with
    | true, some K => OpStepK P K n ops ⟨d, op, ty, pos, af, none⟩ l ks env H Q
    | fl, Kp => OpStep P Kp n ops d fl (evOp P env.at ⟨d, op, ty, pos, af, none⟩ H) l ks env H Q)
  | false => match op with
    | .call ⟨.value f, args, _⟩ => CallStep P Kp n ops d fl (env.at f) (args.toList.map env.at) l ks env H Q
    | _ => False

theorem afterOps_op {d : Option Tmp} {op : Op} {ty : TypeId} {pos : String} {af : Array Edge} {fl : Bool} (hd : dstOk n d = true) :
    AfterOps P Kp n ops ((⟨d, op, ty, pos, af, none⟩, fl) :: l) ks env H Q = HereStep P Kp n ops d op ty pos af fl (here op) l ks env H Q := by
  cases hh : here op with
  | true =>
    unfold AfterOps HereStep
    rw [WS]
    simp only [wantedA, hd]
    split
    · cases hh
    · cases fl with
      | false =>
        unfold OpStep
        cases evOp P env.at ⟨d, op, ty, pos, af, none⟩ H <;> simp [AfterOps]
      | true =>
        cases Kp with
        | none =>
          unfold OpStep
          cases evOp P env.at ⟨d, op, ty, pos, af, none⟩ H <;> simp [AfterOps, FlOp]
        | some K =>
          unfold OpStepK
          cases evOp P env.at ⟨d, op, ty, pos, af, none⟩ H <;> simp [AfterOps]
  | false =>
    unfold HereStep
    simp only
    split
    · unfold AfterOps CallStep
      rw [WS]
      simp only [wantedA, hd]
      rfl
    · rename_i hne
      unfold here at hh
      split at hh
      · rename_i f args ts; exact absurd rfl (hne f args ts)
      · cases hh

theorem hereStep_true {d : Option Tmp} {op : Op} {ty : TypeId} {pos : String} {af : Array Edge} :
    HereStep P Kp n ops d op ty pos af false true l ks env H Q = OpStep P Kp n ops d false (evOp P env.at ⟨d, op, ty, pos, af, none⟩ H) l ks env H Q := rfl
theorem hereStep_flag {d : Option Tmp} {op : Op} {ty : TypeId} {pos : String} {af : Array Edge} :
    HereStep P none n ops d op ty pos af true true l ks env H Q = OpStep P none n ops d true (evOp P env.at ⟨d, op, ty, pos, af, none⟩ H) l ks env H Q := rfl
theorem hereStep_K {K : (Nat → Prop) × Bool} {d : Option Tmp} {op : Op} {ty : TypeId} {pos : String} {af : Array Edge} :
    HereStep P (some K) n ops d op ty pos af true true l ks env H Q = OpStepK P K n ops ⟨d, op, ty, pos, af, none⟩ l ks env H Q := rfl

/-- A flagged reading. -/
theorem opStepK_read {K : (Nat → Prop) × Bool} {o : Oper} (r : AV) (h : ∀ (G : Blks) (m : Nat), UpO (some K) H.blk G → evOp P env.at o ⟨G, m⟩ = some (r, ⟨G, m⟩)) (hA : AfterOps P (some K) n ops l ks (env.put o.dst r) H Q) : OpStepK P K n ops o l ks env H Q := by
  unfold OpStepK
  have := h H.blk H.next (UpO.refl _)
  rw [show (⟨H.blk, H.next⟩ : Heap) = H from rfl] at this
  rw [this]
  exact ⟨.inl rfl, ⟨UpO.refl _, fun _ G m hG => h G m hG⟩, hA⟩
theorem hereStep_false {d : Option Tmp} {f : Operand} {args : Array Operand} {ts : Array TypeId} {ty : TypeId} {pos : String} {af : Array Edge} {fl : Bool} :
    HereStep P Kp n ops d (.call ⟨.value f, args, ts⟩) ty pos af fl false l ks env H Q = CallStep P Kp n ops d fl (env.at f) (args.toList.map env.at) l ks env H Q := rfl

theorem afterOps_guard {d : Option Tmp} {op : Op} {ty : TypeId} {pos : String} {af : Array Edge} {fl : Bool} {g : Nat × Bool} (hd : dstOk n d = true) :
    AfterOps P Kp n ops ((⟨d, op, ty, pos, af, some g⟩, fl) :: l) ks env H Q = GuardStep P Kp n ops ⟨d, op, ty, pos, af, some g⟩ fl (wantedA ops env ⟨d, op, ty, pos, af, some g⟩) l ks env H Q := by
  unfold AfterOps GuardStep
  rw [WS]
  simp only [hd]
  have key : ∀ ρ : Operand → AV, evOp P ρ ⟨d, op, ty, pos, af, some g⟩ H = evOp P ρ ⟨d, op, ty, pos, af, none⟩ H := fun ρ => rfl
  have key2 : ∀ r H1, FlOp P Kp ⟨d, op, ty, pos, af, some g⟩ env H r H1 = FlOp P Kp ⟨d, op, ty, pos, af, none⟩ env H r H1 := fun r H1 => by cases Kp <;> rfl
  cases wantedA ops env ⟨d, op, ty, pos, af, some g⟩ with
  | none => rfl
  | some b =>
    cases b with
    | false => rfl
    | true =>
      simp only [AfterOps]
      rw [WS]
      simp only [wantedA, hd, key, key2]

theorem guardStep_true {o : Oper} {fl : Bool} : GuardStep P Kp n ops o fl (some true) l ks env H Q = AfterOps P Kp n ops (({ o with guard := none }, fl) :: l) ks env H Q := rfl
theorem guardStep_false {o : Oper} {fl : Bool} : GuardStep P Kp n ops o fl (some false) l ks env H Q = AfterOps P Kp n ops l ks (env.put o.dst (.tuple [])) H Q := rfl

theorem callStep {d : Option Tmp} {f : FuncId} {fs cs args : List AV} (h : WF P f (fs ++ args ++ cs) H fun r H1 => AfterOps P Kp n ops l ks (env.put d r) H1 Q) : CallStep P Kp n ops d false (.func (.func f) fs cs) args l ks env H Q := by
  unfold CallStep WCall
  exact h.mono fun r H1 h => ⟨by simp, h⟩
theorem callStep_flag {d : Option Tmp} {f : FuncId} {fs cs args : List AV} (h : WF P f (fs ++ args ++ cs) H fun r H1 => UpO Kp H.blk H1.blk ∧ AfterOps P Kp n ops l ks (env.put d r) H1 Q) : CallStep P Kp n ops d true (.func (.func f) fs cs) args l ks env H Q := by
  unfold CallStep WCall
  exact h.mono fun r H1 h => ⟨fun _ => h.1, h.2⟩

theorem drawStep (fs base : List Nat) (l : List (Oper × Bool)) (hl : laid ops fs base = l) (hok : drawOk P ops fs.contains base = true) (h : AfterOps P none n ops l ks env H Q) : DrawStep P n ops ks env H Q := by
  unfold DrawStep
  simp only [WC]
  exact ⟨none, fs, base, hok, hl ▸ h⟩

theorem drawStepK (K : Nat → Prop) (fs base : List Nat) (l : List (Oper × Bool)) (hl : laid ops fs base = l) (hok : drawOkE P true false ops fs.contains base = true) (h : AfterOps P (some (K, false)) n ops l ks env H Q) : DrawStep P n ops ks env H Q := by
  unfold DrawStep
  simp only [WC]
  exact ⟨some (K, false), fs, base, hok, hl ▸ h⟩

/-- With blocks that flagged operations leave to the letter, and that flagged readings do not look beside. -/
theorem drawStepE (K : Nat → Prop) (fs base : List Nat) (l : List (Oper × Bool)) (hl : laid ops fs base = l) (hok : drawOkE P true true ops fs.contains base = true) (h : AfterOps P (some (K, true)) n ops l ks env H Q) : DrawStep P n ops ks env H Q := by
  unfold DrawStep
  simp only [WC]
  exact ⟨some (K, true), fs, base, hok, hl ▸ h⟩

/-- A loop by an invariant and a measure. -/
theorem loopStep {c : Code} (I : Env → Heap → Prop) (μ : Env → Heap → Nat) (h0 : I env H)
    (round : ∀ env H, I env H → After P n [.code c] .normal env H fun ex env' H' => match ex with | .normal => I env' H' ∧ μ env' H' < μ env H | ex => After P n ks ex env' H' Q) : LoopStep P n c ks env H Q := by
  unfold LoopStep
  simp only [WC]
  refine WL_of P I μ (fun ex env H => After P n ks ex env H Q) (fun env H hI => ?_) env H h0
  have := round env H hI
  simp only [After] at this
  refine WC_mono c (fun ex env H h => ?_) this
  cases ex <;> exact h

/-- The end of a round, as data. -/
def RoundEnd (P : Program) (n : Nat) (I : Env → Heap → Prop) (μ : Env → Heap → Nat) (m : Nat) (ks : List KItem) (Q : Ex → Env → Heap → Prop) (ex : Ex) (env : Env) (H : Heap) : Prop :=
  match ex with
  | .normal => I env H ∧ μ env H < m
  | ex => After P n ks ex env H Q

theorem roundEnd_normal {I : Env → Heap → Prop} {μ : Env → Heap → Nat} {m : Nat} : RoundEnd P n I μ m ks Q .normal env H = (I env H ∧ μ env H < m) := rfl
theorem roundEnd_exit {I : Env → Heap → Prop} {μ : Env → Heap → Nat} {m i : Nat} : RoundEnd P n I μ m ks Q (.exit i) env H = After P n ks (.exit i) env H Q := rfl
theorem roundEnd_ret {I : Env → Heap → Prop} {μ : Env → Heap → Nat} {m : Nat} : RoundEnd P n I μ m ks Q .ret env H = After P n ks .ret env H Q := rfl

theorem loopStep' {c : Code} (I : Env → Heap → Prop) (μ : Env → Heap → Nat) (h0 : I env H)
    (round : ∀ env H, I env H → After P n [.code c] .normal env H (RoundEnd P n I μ (μ env H) ks Q)) : LoopStep P n c ks env H Q :=
  loopStep I μ h0 fun env H hI => by
    have := round env H hI
    simp only [After] at this ⊢
    refine WC_mono c (fun ex env H h => ?_) this
    cases ex <;> exact h

/-- The end of a function. -/
def FinR (res : Option AV) (H : Heap) (K : AV → Heap → Prop) : Prop :=
  match res with
  | some r => K r H
  | none => False
def Fin (P : Program) (rs : List ResultVar) (K : AV → Heap → Prop) (ex : Ex) (env : Env) (H : Heap) : Prop :=
  match ex with
  | .normal => FinR (evResults P rs env H) H K
  | .ret => FinR (evResults P rs env H) H K
  | .exit _ => False
theorem fin_normal {rs : List ResultVar} {K : AV → Heap → Prop} : Fin P rs K .normal env H = FinR (evResults P rs env H) H K := rfl
theorem fin_ret {rs : List ResultVar} {K : AV → Heap → Prop} : Fin P rs K .ret env H = FinR (evResults P rs env H) H K := rfl
theorem finR_some {r : AV} {K : AV → Heap → Prop} : FinR (some r) H K = K r H := rfl

/-- A function's contract from its body. -/
theorem WF_body {f : FuncId} {fn : Func} {c : Code} {args : List AV} {H : Heap} {K : AV → Heap → Prop} (hf : P.funcs[f]? = some fn) (hn : (fn.name == "runtime.NumGoroutine") = false) (hb : fn.body = some c) {nt : Nat} (hnt : fn.ntmps = nt) {rs : List ResultVar} (hrs : fn.results.toList = rs) (ha : args.length ≤ nt)
    (h : After P nt [.code c] .normal (Env.ofArgs args) H (Fin P rs K)) : WF P f args H K := by
  subst hnt hrs
  refine WF_of P hf hn hb ha ?_
  simp only [After] at h
  refine WC_mono c (fun ex env H h => ?_) h
  cases ex with
  | normal => simp only [Fin, FinR] at h ⊢; cases hr : evResults P fn.results.toList env H <;> simp_all
  | ret => simp only [Fin, FinR] at h ⊢; cases hr : evResults P fn.results.toList env H <;> simp_all
  | exit i => exact h.elim

theorem dstOk_none : dstOk n none = true := by simp [dstOk]
theorem dstOk_some {d : Nat} (h : decide (d < n) = true) : dstOk n (some d) = true := h
theorem put_at {d t : Nat} {v : AV} : Env.at (Env.put env (some d) v) (.tmp t) = if t = d then v else Env.at env (.tmp t) := rfl
theorem put_none {v : AV} : Env.put env none v = env := rfl
theorem at_const {v : Value} : Env.at env (.const v) = avOf v := rfl
theorem at_func {f : FuncId} : Env.at env (.func f) = .func (.func f) [] [] := rfl
theorem args_at {args : List AV} {t : Nat} : Env.at (Env.ofArgs args) (.tmp t) = args.getD t .undef := rfl
theorem evResult_tmp {t : Nat} : evResult P env H (.tmp t) = some (Env.at env (.tmp t)) := rfl

/-- A heap with these blocks made. -/
def HP (H : Heap) (xs : List Blk) : Heap := ⟨fun b => if b < H.next then H.blk b else xs[b - H.next]?, H.next + xs.length⟩

theorem Free.hp {H : Heap} (h : Free H) (x : Blk) : H.push x = HP H [x] := Heap.ext' (fun i => by
  simp only [Heap.push, HP]
  by_cases h1 : i = H.next
  · subst h1; simp
  · rw [if_neg h1]
    by_cases h2 : i < H.next
    · rw [if_pos h2]
    · rw [if_neg h2, h i (by omega)]
      rw [List.getElem?_eq_none]; simp; omega) rfl
theorem hp_push {H : Heap} {xs : List Blk} {y : Blk} : (HP H xs).push y = HP H (xs ++ [y]) := Heap.ext' (fun i => by
  show (if i = H.next + xs.length then some y else if i < H.next then H.blk i else xs[i - H.next]?) = (if i < H.next then H.blk i else (xs ++ [y])[i - H.next]?)
  by_cases h1 : i = H.next + xs.length
  · subst h1; rw [if_pos rfl, if_neg (by omega)]; simp
  · rw [if_neg h1]
    by_cases h2 : i < H.next
    · rw [if_pos h2, if_pos h2]
    · rw [if_neg h2, if_neg h2]
      by_cases h3 : i - H.next < xs.length
      · rw [List.getElem?_append_left h3]
      · rw [List.getElem?_eq_none (by omega), List.getElem?_eq_none (by simp; omega)]) (by simp [HP, Heap.push]; omega)
theorem hp_next {H : Heap} {xs : List Blk} : (HP H xs).next = H.next + xs.length := rfl
theorem hp_blk0 {H : Heap} {xs : List Blk} : (HP H xs).blk H.next = xs[0]? := by simp [HP]
theorem hp_blk {H : Heap} {xs : List Blk} {k : Nat} : (HP H xs).blk (H.next + k) = xs[k]? := by
  show (if H.next + k < H.next then H.blk (H.next + k) else xs[H.next + k - H.next]?) = xs[k]?
  rw [if_neg (by omega), Nat.add_sub_cancel_left]
theorem hp_set0 {H : Heap} {xs : List Blk} {y : Blk} (h : 0 < xs.length) : (HP H xs).set H.next y = HP H (xs.set 0 y) := Heap.ext' (fun i => by
  simp only [HP, Heap.set]
  by_cases h1 : i = H.next
  · subst h1; simp [h]
  · rw [if_neg h1]
    by_cases h2 : i < H.next
    · rw [if_pos h2, if_pos h2]
    · rw [if_neg h2, if_neg h2, List.getElem?_set_ne (by omega)]) (by simp [HP, Heap.set])
theorem hp_set {H : Heap} {xs : List Blk} {k : Nat} {y : Blk} (h : k < xs.length) : (HP H xs).set (H.next + k) y = HP H (xs.set k y) := Heap.ext' (fun i => by
  simp only [HP, Heap.set]
  by_cases h1 : i = H.next + k
  · subst h1; rw [if_pos rfl, if_neg (by omega), Nat.add_sub_cancel_left, List.getElem?_set_self h]
  · rw [if_neg h1]
    by_cases h2 : i < H.next
    · rw [if_pos h2, if_pos h2]
    · rw [if_neg h2, if_neg h2, List.getElem?_set_ne (by omega)]) (by simp [HP, Heap.set])
theorem Free.hpF {H : Heap} (h : Free H) (xs : List Blk) : Free (HP H xs) := fun b hb => by
  have hb' : H.next + xs.length ≤ b := hb
  simp only [HP]
  rw [if_neg (by omega), List.getElem?_eq_none (by omega)]
theorem Free.hpU {H : Heap} (h : Free H) (xs : List Blk) : Up H (HP H xs) := fun b x hb => by
  simp only [HP]
  rw [if_pos (h.lt hb)]; exact hb

/-- Where the fields of a struct lie. -/
def placesOf (P : Program) (t : TypeId) : Option (List (Nat × Nat)) :=
  match P.underlying t with
  | some (.struct fs) => fs.toList.mapM fun f => (szOf P f.type).map fun s => (f.offset, s)
  | _ => none

theorem fillA_congr {p q : Nat → Option (Nat × Nat)} (h : ∀ i, p i = q i) : ∀ (parts : List (Nat × AV)) (cells : List AV), fillA p cells parts = fillA q cells parts
  | [], cells => rfl
  | (i, v) :: rest, cells => by
    simp only [fillA, h i]
    split
    · rfl
    · split
      · exact fillA_congr h rest _
      · rfl

theorem evBuild_struct {t : TypeId} {zc : List AV} {ps : List (Nat × Nat)} (hz : zeroOf P t = some (.agg zc)) (hp : placesOf P t = some ps) (parts : List (Nat × AV)) : evBuild P t parts = (fillA (fun i => ps[i]?) zc parts).map .agg := by
  unfold placesOf at hp
  split at hp
  · rename_i fs hu
    obtain ⟨h1, h2⟩ := mapM_some_iff hp
    have hall : fs.all (fun f => (szOf P f.type).isSome) = true := by
      rw [Array.all_eq_true_iff_forall_mem]
      intro f hf
      obtain ⟨i, hi, rfl⟩ := Array.mem_iff_getElem.1 hf
      obtain ⟨b, hb, _⟩ := h2 i fs[i] (by simp)
      obtain ⟨s, hs, _⟩ := map_some_eq hb
      simp [hs]
    unfold evBuild
    rw [hz, hu]
    simp only [AV.isUndef, Bool.false_eq_true, if_false, hall, if_true, AV.cells]
    congr 1
    refine fillA_congr (fun i => ?_) _ _
    by_cases hi : i < fs.size
    · obtain ⟨b, hb, hb'⟩ := h2 i fs[i] (by simp)
      rw [hb']
      simp [hi, hb]
    · rw [List.getElem?_eq_none (by rw [h1]; simpa using hi)]
      simp [hi]
  · cases hp

end
end Go.Ev
end
section
set_option linter.unusedVariables false
set_option linter.unusedSimpArgs false
namespace Go.Ev
section
variable {P : Program}

def WBool (w : Bool) (v : AV) : Option Bool := match v with | .bool b => some (b == w) | .tuple [] => some false | _ => none
def WStep (w : Bool) (d : Option Tmp) (env : Env) : Option Bool := match d with | some d => WBool w (env.at (.tmp d)) | none => none
theorem wantedA_guard {ops : Array Oper} {env : Env} {d : Option Tmp} {op : Op} {ty : TypeId} {pos : String} {af : Array Edge} {j : Nat} {w : Bool} : wantedA ops env ⟨d, op, ty, pos, af, some (j, w)⟩ = WStep w ((ops[j]?).bind (·.dst)) env := by
  simp only [wantedA, WStep, WBool, Env.at] <;> rfl
theorem wstep_some {w : Bool} {d : Tmp} {env : Env} : WStep w (some d) env = WBool w (env.at (.tmp d)) := rfl
theorem wbool_off {w : Bool} : WBool w (.tuple []) = some false := rfl
theorem wbool_true {b : Bool} : WBool true (.bool b) = some b := by cases b <;> rfl
theorem wbool_false {b : Bool} : WBool false (.bool b) = some (!b) := by cases b <;> rfl

theorem load_ptr {H : Heap} {b i o g n : Nat} : H.load (.ptr b i o g) n = (match H.blk b with
    | some (.row _ esz els _ wgen) =>
      if wgen ≤ g ∧ o + n ≤ esz then
        match els[i]? with
        | some cs => some ((cs.drop o).take n)
        | none => none
      else none
    | _ => none) := rfl
theorem load_iptr {H : Heap} {cs : List AV} {o n : Nat} : H.load (.iptr cs o) n = if o + n ≤ cs.length then some ((cs.drop o).take n) else none := rfl

theorem Holds.lenAt {H : Heap} {esz : Nat} {v : AV} {L : List (List AV)} (h : Holds H esz v L) {t e : TypeId} (ht : P.underlying t = some (.slice e)) (G : Heap) : evBuiltin P G .len #[t] [v] = some (.int .i64 L.length, G) := by
  obtain ⟨h0, ⟨rfl, rfl | rfl⟩ | rfl | ⟨b, off, cap, ex, g, ty, els, gen, wgen, rfl, h2, h3⟩⟩ := h <;> simp [evBuiltin, ht]

theorem len_str {t : TypeId} (ht : P.underlying t = some .string) (G : Heap) (s : List Nat) : evBuiltin P G .len #[t] [.str s] = some (.int .i64 s.length, G) := by simp [evBuiltin, ht]
theorem len_nil {t e : TypeId} (ht : P.underlying t = some (.slice e)) (G : Heap) : evBuiltin P G .len #[t] [.nilslice] = some (.int .i64 0, G) := by simp [evBuiltin, ht]
theorem len_slice {t e : TypeId} (ht : P.underlying t = some (.slice e)) (G : Heap) (b o l c : Nat) (ex : Bool) (g : Nat) : evBuiltin P G .len #[t] [.slice b o l c ex g] = some (.int .i64 l, G) := by simp [evBuiltin, ht]

theorem wrap_succ {i : Nat} (h : i < 2 ^ 62) : IntKind.i64.wrap ((i : Int) + 1) = ((i + 1 : Nat) : Int) := by
  rw [IntWalk.i64_in _ (by omega)]; omega

theorem lt_true {i n : Nat} (h : i < n) : ((i : Int) < (n : Int)) = True := by simp; exact h
theorem lt_false {i n : Nat} (h : ¬ i < n) : ((i : Int) < (n : Int)) = False := by simp; omega

/-- A new row is read. -/
theorem holds_hp {H : Heap} {xs : List Blk} {k n esz ty : Nat} {c : Nat} {ex : Bool} {L : List (List AV)} (hx : xs[k]? = some (.row ty esz L 0 0)) (hn : L.length = n) (hc : n ≤ c) (hL : ∀ cs ∈ L, cs.length = esz) :
    Holds (HP H xs) esz (.slice (H.next + k) 0 n c ex 0) L := by
  subst hn
  exact ⟨hL, .inr (.inr ⟨H.next + k, 0, c, ex, 0, ty, L, 0, 0, rfl, by rw [hp_blk]; exact hx, Nat.le_refl _, by simp, by simp, hc⟩)⟩

/-- The slice's row is not of this heap. -/
def FreshS (H : Heap) (v : AV) : Prop := ∀ b off len cap ex g, v = .slice b off len cap ex g → H.blk b = none

theorem freshS_hp {H : Heap} (hF : Free H) {k o n c : Nat} {ex : Bool} {g : Nat} : FreshS H (.slice (H.next + k) o n c ex g) := fun b off len cap ex' g' e => by
  cases e; exact hF _ (by omega)
theorem freshS_nil {H : Heap} : FreshS H .nilslice := fun b off len cap ex g e => by cases e

theorem FreshS.up {G H : Heap} {v : AV} (h : FreshS H v) (hu : Up G H) : FreshS G v := fun b off len cap ex g e => hu.fresh (h b off len cap ex g e)

theorem rebase_aux {G Hb H : Heap} {b : Nat} {x : Blk} (hG : Up G Hb) (hu : Up Hb H) (h2 : Hb.blk b = some x) (h4 : G.blk b = none) :
    ∃ G' : Heap, G'.blk b = none ∧ Up G G' ∧ Up G' H ∧ (∀ u s L', Holds H s u L' → FreshS Hb u → Holds G' s u L') := by
  refine ⟨⟨fun c => if c = b then none else H.blk c, H.next⟩, by simp, fun c x hc => ?_, fun c x hc => ?_, fun u s L' hl hf => ?_⟩
  · have hne : c ≠ b := fun e => by rw [e, h4] at hc; cases hc
    simp only; rw [if_neg hne]; exact hu _ _ (hG _ _ hc)
  · simp only at hc; split at hc
    · cases hc
    · exact hc
  · obtain ⟨k0, k | k | ⟨b', off, cap, ex, g', ty', els, gen, wgen', k1, k2, k3⟩⟩ := hl
    · exact ⟨k0, .inl k⟩
    · exact ⟨k0, .inr (.inl k)⟩
    · have hne : b' ≠ b := fun e => by have := hf _ _ _ _ _ _ k1; rw [e, h2] at this; cases this
      exact ⟨k0, .inr (.inr ⟨b', off, cap, ex, g', ty', els, gen, wgen', k1, by simp only; rw [if_neg hne]; exact k2, k3⟩)⟩

/-- Another base for a slice that grows: all but its own row. -/
theorem Own.rebase {G Hb H : Heap} {ty esz : Nat} {v : AV} {L : List (List AV)} (h : Own G Hb ty esz v L) (hG : Up G Hb) (hu : Up Hb H) :
    ∃ G', Up G G' ∧ Up G' H ∧ Own G' H ty esz v L ∧ (∀ u s L', Holds H s u L' → FreshS Hb u → Holds G' s u L') := by
  obtain ⟨h0, h | ⟨b, g, wgen, h1, h2, h3, h4⟩ | ⟨b, g, ty', gen, wgen, h1, h2, h3, h4⟩⟩ := h
  · exact ⟨H, hG.trans hu, Up.refl H, ⟨h0, .inl h⟩, fun u s L' hu' _ => hu'⟩
  · obtain ⟨G', k1, k2, k3, k4⟩ := rebase_aux hG hu h2 h4
    exact ⟨G', k2, k3, ⟨h0, .inr (.inl ⟨b, g, wgen, h1, hu _ _ h2, h3, k1⟩)⟩, k4⟩
  · obtain ⟨G', k1, k2, k3, k4⟩ := rebase_aux hG hu h2 h4
    exact ⟨G', k2, k3, ⟨h0, .inr (.inr ⟨b, g, ty', gen, wgen, h1, hu _ _ h2, h3, k1⟩)⟩, k4⟩

theorem Own.base {G G' H : Heap} {ty esz : Nat} {v : AV} {L : List (List AV)} (h : Own G' H ty esz v L) (hu : Up G G') : Own G H ty esz v L := by
  obtain ⟨h0, h | ⟨b, g, wgen, h1, h2, h3, h4⟩ | ⟨b, g, ty', gen, wgen, h1, h2, h3, h4⟩⟩ := h
  · exact ⟨h0, .inl h⟩
  · exact ⟨h0, .inr (.inl ⟨b, g, wgen, h1, h2, h3, hu.fresh h4⟩)⟩
  · exact ⟨h0, .inr (.inr ⟨b, g, ty', gen, wgen, h1, h2, h3, hu.fresh h4⟩)⟩

theorem Own.freshS {G H : Heap} {ty esz : Nat} {v : AV} {L : List (List AV)} (h : Own G H ty esz v L) : FreshS G v := fun b off len cap ex g e => by
  obtain ⟨h0, ⟨_, h | h⟩ | ⟨b', g', wgen, h1, h2, h3, h4⟩ | ⟨b', g', ty', gen, wgen, h1, h2, h3, h4⟩⟩ := h
  · rw [h] at e; cases e
  · rw [h] at e; cases e
  · rw [h1] at e; cases e; exact h4
  · rw [h1] at e; cases e; exact h4

/-- A row that has just been built. -/
theorem own_hp {G H : Heap} {xs : List Blk} {k n esz ty ty' : Nat} {L : List (List AV)} (hF : Free H) (hU : Up G H) (hx : xs[k]? = some (.row ty' esz L 0 0)) (hn : L.length = n) (hL : ∀ cs ∈ L, cs.length = esz ∧ cs.all AV.isCell = true) :
    Own G (HP H xs) ty esz (.slice (H.next + k) 0 n n true 0) L := by
  subst hn
  exact ⟨hL, .inr (.inr ⟨H.next + k, 0, ty', 0, 0, rfl, by rw [hp_blk]; exact hx, ⟨Nat.le_refl _, rfl⟩, hU.fresh (hF _ (by omega))⟩)⟩

variable {Kp : Kept} {n : Nat} {ks : List KItem} {env : Env} {Q : Ex → Env → Heap → Prop} {ops : Array Oper} {l : List (Oper × Bool)}

/-- The end of a round, with a condition that holds when the loop is left. -/
def RoundR (I : Env → Heap → Prop) (μ : Env → Heap → Nat) (m : Nat) (R : Ex → Env → Heap → Prop) (ex : Ex) (env : Env) (H : Heap) : Prop :=
  match ex with
  | .normal => I env H ∧ μ env H < m
  | ex => R ex env H

theorem roundR_normal {I : Env → Heap → Prop} {μ : Env → Heap → Nat} {m : Nat} {R : Ex → Env → Heap → Prop} {env : Env} {H : Heap} : RoundR I μ m R .normal env H = (I env H ∧ μ env H < m) := rfl
theorem roundR_exit {I : Env → Heap → Prop} {μ : Env → Heap → Nat} {m i : Nat} {R : Ex → Env → Heap → Prop} {env : Env} {H : Heap} : RoundR I μ m R (.exit i) env H = R (.exit i) env H := rfl
theorem roundR_ret {I : Env → Heap → Prop} {μ : Env → Heap → Nat} {m : Nat} {R : Ex → Env → Heap → Prop} {env : Env} {H : Heap} : RoundR I μ m R .ret env H = R .ret env H := rfl

theorem loopStepR {c : Code} {H : Heap} (I : Env → Heap → Prop) (μ : Env → Heap → Nat) (R : Ex → Env → Heap → Prop) (h0 : I env H)
    (round : ∀ env H, I env H → After P n [.code c] .normal env H (RoundR I μ (μ env H) R)) (after : ∀ ex env H, R ex env H → After P n ks ex env H Q) : LoopStep P n c ks env H Q :=
  loopStep I μ h0 fun env H hI => by
    have := round env H hI
    simp only [After] at this ⊢
    refine WC_mono c (fun ex env H h => ?_) this
    cases ex
    · exact h
    · exact after _ _ _ h
    · exact after _ _ _ h

theorem opStep_append {G H : Heap} {d : Option Tmp} {t u e esz bytes : Nat} (hb : appB P t u e esz bytes = true) {v x : AV} {L new : List (List AV)} (hO : Own G H e esz v L) (hF : Free H) (hU : Up G H) (hx : Holds H esz x new)
    (hnew : ∀ cs ∈ new, cs.all AV.isCell = true) (hsz : (L.length + new.length) * bytes ≤ maxBytes) (hsz' : L.length + new.length ≤ maxBytes)
    (h : ∀ u K, Own G K e esz u (L ++ new) → Up G K → Free K → AfterOps P Kp n ops l ks (env.put d u) K Q) : OpStep P Kp n ops d false (evBuiltin P H .append #[t, u] [v, x]) l ks env H Q := by
  obtain ⟨r, K, h1, h2, h3, h4, h5, _⟩ := hO.append hF hU (fun cs hc => ⟨hx.1 cs hc, hnew cs hc⟩) hsz hsz'
  rw [append_ev hb hx.len? hx.elems, h1, opStep_some]
  exact ⟨h5, h r K h2 h3 h4⟩

end
end Go.Ev
end
