import Derived.Test.YtjjmdbhgmecpjaaGreatDoorEvJ
import Derived.Laws.MakeOwn
set_option linter.unusedVariables false
set_option linter.unusedSimpArgs false
namespace Go.Ev
section
variable {P : Program} {C : Mem} {w0 : World} {E : Emb} {H : Heap} {w : World}

theorem foldl_set_list (off : Nat) : ∀ (vs : List Value) (k : Nat) (arr : Array Value), off + k + vs.length ≤ arr.size →
    ((vs.zipIdx k).foldl (fun (cs : Array Value) (p : Value × Nat) => cs.setIfInBounds (off + p.2) p.1) arr).toList = arr.toList.take (off + k) ++ vs ++ arr.toList.drop (off + k + vs.length)
  | [], k, arr, _ => by simp
  | v :: vs, k, arr, h => by
    simp only [List.zipIdx_cons, List.foldl_cons]
    rw [foldl_set_list off vs (k + 1) (arr.setIfInBounds (off + k) v) (by simp at h ⊢; omega)]
    have := list_seg_step arr.toList (off + k) v vs (by simp at h ⊢; omega)
    simpa [Nat.add_assoc] using this

/-- The parts of a composite value. -/
inductive RepP (C : Mem) (E : Emb) : List (Nat × AV) → List (Nat × Value) → Prop
  | nil : RepP C E [] []
  | cons (i : Nat) (a : AV) (v : Value) (as : List (Nat × AV)) (vs : List (Nat × Value)) (h : Rep C E a v) (h' : RepP C E as vs) : RepP C E ((i, a) :: as) ((i, v) :: vs)

theorem repP_map {ρ : Operand → AV} {ev : Operand → Value} (hρ : ∀ x, Rep C E (ρ x) (ev x)) : ∀ l : List (Nat × Operand), RepP C E (l.map fun p => (p.1, ρ p.2)) (l.map fun p => (p.1, ev p.2))
  | [] => .nil
  | (i, x) :: l => .cons i _ _ _ _ (hρ x) (repP_map hρ l)

theorem fill_ok {place : Nat → Option (Nat × Nat)} {parts : List (Nat × AV)} {pv : List (Nat × Value)} (hp : RepP C E parts pv) : ∀ {cells r : List AV} {arr : Array Value}, RepL C E cells arr.toList → fillA place cells parts = some r →
    ∃ arr', Instr.fill place arr pv = some arr' ∧ RepL C E r arr'.toList := by
  induction hp with
  | nil => intro cells r arr hr h; simp [fillA] at h; subst h; exact ⟨arr, by simp [Instr.fill], hr⟩
  | cons i a v as vs h h' ih =>
    intro cells r arr hr hf
    simp only [fillA] at hf
    cases hpl : place i with
    | none => simp [hpl] at hf
    | some os =>
      obtain ⟨off, size⟩ := os
      simp only [hpl] at hf
      split at hf
      · rename_i hc
        obtain ⟨hu, hl, hle⟩ := hc
        have hcv := rep_cells h hu
        have hvl : v.cells.size = size := by have := hcv.length; simp at this; omega
        have hal : arr.size = cells.length := by have := hr.length; simpa using this
        have hset := foldl_set_list off v.cells.toList 0 arr (by simp; omega)
        have hr2 : RepL C E (splice cells off a.cells) ((v.cells.zipIdx.foldl (fun (cs : Array Value) (p : Value × Nat) => cs.setIfInBounds (off + p.2) p.1) arr)).toList := by
          have e : v.cells.zipIdx.foldl (fun (cs : Array Value) (p : Value × Nat) => cs.setIfInBounds (off + p.2) p.1) arr = (v.cells.toList.zipIdx).foldl (fun (cs : Array Value) (p : Value × Nat) => cs.setIfInBounds (off + p.2) p.1) arr := by
            rw [← Array.foldl_toList, Array.toList_zipIdx]
          rw [e, hset]
          unfold splice
          have hl2 : v.cells.toList.length = a.cells.length := hcv.length
          rw [← hl2]
          simp only [Nat.add_zero]
          exact repL_append (repL_append (repL_take off hr) hcv) (repL_drop _ hr)
        obtain ⟨arr', h1, h2⟩ := ih hr2 hf
        refine ⟨arr', ?_, h2⟩
        simp only [Instr.fill, hpl]
        rw [if_neg (by simp [hvl]; omega)]
        exact h1
      · cases hf

theorem zero_rep {t : TypeId} {z : AV} (h : zeroOf P t = some z) : ∃ i v, P.info? t = some i ∧ i.zero = some v ∧ Rep C E z v := by
  unfold zeroOf at h
  cases hi : P.info? t with
  | none => simp [hi] at h
  | some i =>
    simp only [hi, Option.bind_some] at h
    cases hz : i.zero with
    | none => simp [hz] at h
    | some v =>
      simp only [hz, Option.map_some, Option.some.injEq] at h
      exact ⟨i, v, rfl, hz, h ▸ rep_avOf v⟩

theorem places_some : ∀ (fs : List Field), fs.all (fun f => (szOf P f.type).isSome) = true → ∃ pl : List (Nat × Nat), fs.mapM (fun (f : Field) => (P.info? f.type).map fun i => (f.offset, i.size)) = some pl ∧
    ∀ i : Nat, pl[i]? = (fs[i]?).bind fun (f : Field) => (szOf P f.type).map fun s => (f.offset, s)
  | [], _ => ⟨[], by simp, by simp⟩
  | f :: fs, h => by
    simp only [List.all_cons, Bool.and_eq_true] at h
    obtain ⟨pl, h1, h2⟩ := places_some fs h.2
    have h3 := h.1
    unfold szOf at h3
    cases hi : P.info? f.type with
    | none => simp [hi] at h3
    | some it =>
      refine ⟨(f.offset, it.size) :: pl, by simp [List.mapM_cons, hi, h1], fun i => ?_⟩
      cases i with
      | zero => simp [szOf, hi]
      | succ i => simpa using h2 i

theorem build_ok {t : TypeId} {parts : List (Nat × AV)} {pv : Array (Nat × Value)} {r : AV} (hp : RepP C E parts pv.toList) (h : evBuild P t parts = some r) :
    ∃ z, (Instr.build t pv).run P w = .ok z w ∧ Rep C E r z := by
  unfold evBuild at h
  split at h
  · rename_i z fs hz hu
    split at h
    · cases h
    · rename_i hun
      split at h
      · rename_i hall
        obtain ⟨it, zv, hi, hzv, hrep⟩ := zero_rep (C := C) (E := E) hz
        obtain ⟨pl, h1, h2⟩ := places_some fs.toList (by rw [← Array.all_toList] at hall; exact hall)
        cases hf : fillA (fun i => (fs[i]?).bind fun (f : Field) => (szOf P f.type).map fun s => (f.offset, s)) z.cells parts with
        | none => simp [hf] at h
        | some cs =>
          simp only [hf, Option.map_some, Option.some.injEq] at h
          subst h
          obtain ⟨arr', g1, g2⟩ := fill_ok hp (arr := zv.cells) (rep_cells hrep (by simpa using hun)) hf
          have hpl : (fun (i : Nat) => (fs[i]?).bind fun (f : Field) => (szOf P f.type).map fun s => (f.offset, s)) = (fun (i : Nat) => pl.toArray[i]?) := by
            funext i
            have := h2 i
            simp only [List.getElem?_toArray, this, Array.getElem?_toList]
          rw [hpl] at g1
          refine ⟨.agg arr', run_build w t pv arr' (by simp only [Program.built, hi, hu, hzv, h1]; exact g1), ?_⟩
          have := Rep.agg (C := C) (E := E) _ _ g2
          simpa using this
      · cases h
  · rename_i z n e hz hu
    split at h
    · cases h
    · rename_i hun
      obtain ⟨it, zv, hi, hzv, hrep⟩ := zero_rep (C := C) (E := E) hz
      cases hs : szOf P e with
      | none => simp [hs] at h
      | some s =>
        simp only [hs, Option.bind_some] at h
        cases hf : fillA (fun i => some (i * s, s)) z.cells parts with
        | none => simp [hf] at h
        | some cs =>
          simp only [hf, Option.map_some, Option.some.injEq] at h
          subst h
          obtain ⟨arr', g1, g2⟩ := fill_ok hp (arr := zv.cells) (rep_cells hrep (by simpa using hun)) hf
          unfold szOf at hs
          cases hie : P.info? e with
          | none => simp [hie] at hs
          | some ie =>
            simp [hie] at hs
            subst hs
            refine ⟨.agg arr', run_build w t pv arr' (by simp only [Program.built, hi, hu, hzv, hie]; exact g1), ?_⟩
            have := Rep.agg (C := C) (E := E) _ _ g2
            simpa using this
  · cases h

theorem flatten_set : ∀ (els : List (List AV)) (i esz : Nat) (c : List AV), (∀ cs ∈ els, cs.length = esz) → i < els.length → c.length = esz → (els.set i c).flatten = splice els.flatten (i * esz) c
  | [], _, _, _, _, h, _ => by simp at h
  | e :: els, 0, esz, c, hl, _, hc => by
    have := hl e (by simp)
    simp [splice, hc]
    rw [List.drop_append_of_le_length (by omega), List.drop_of_length_le (by omega)]
    simp
  | e :: els, i + 1, esz, c, hl, h, hc => by
    have he := hl e (by simp)
    have ih := flatten_set els i esz c (fun cs hcs => hl cs (by simp [hcs])) (by simpa using h) hc
    simp only [List.set_cons_succ, List.flatten_cons, ih, splice]
    rw [show (i + 1) * esz = e.length + i * esz by rw [Nat.add_mul]; omega]
    rw [List.take_length_add_append, show e.length + i * esz + c.length = e.length + (i * esz + c.length) by omega, List.drop_length_add_append]
    simp

theorem fillE_ok {esz : Nat} {parts : List (Nat × AV)} {pv : List (Nat × Value)} (hp : RepP C E parts pv) : ∀ {els r : List (List AV)} {arr : Array Value}, (∀ cs ∈ els, cs.length = esz) → RepL C E els.flatten arr.toList → fillE esz els parts = some r →
    ∃ arr', Instr.fill (fun i => some (i * esz, esz)) arr pv = some arr' ∧ RepL C E r.flatten arr'.toList ∧ (∀ cs ∈ r, cs.length = esz) ∧ r.length = els.length := by
  induction hp with
  | nil => intro els r arr hl hr h; simp [fillE] at h; subst h; exact ⟨arr, by simp [Instr.fill], hr, hl, rfl⟩
  | cons i a v as vs h h' ih =>
    intro els r arr hl hr hf
    simp only [fillE] at hf
    split at hf
    · rename_i hc
      obtain ⟨hu, hla, hi⟩ := hc
      have hcv := rep_cells h hu
      have hvl : v.cells.size = esz := by have := hcv.length; simp at this; omega
      have hfl := flatten_len hl
      have hal : arr.size = els.length * esz := by have := hr.length; rw [hfl] at this; simpa using this
      have hie : i * esz + esz ≤ els.length * esz := by
        have : (i + 1) * esz ≤ els.length * esz := Nat.mul_le_mul_right _ hi
        rw [Nat.add_mul] at this; omega
      have hset := foldl_set_list (i * esz) v.cells.toList 0 arr (by simp; omega)
      have hr2 : RepL C E (els.set i a.cells).flatten ((v.cells.zipIdx.foldl (fun (cs : Array Value) (p : Value × Nat) => cs.setIfInBounds (i * esz + p.2) p.1) arr)).toList := by
        have e : v.cells.zipIdx.foldl (fun (cs : Array Value) (p : Value × Nat) => cs.setIfInBounds (i * esz + p.2) p.1) arr = (v.cells.toList.zipIdx).foldl (fun (cs : Array Value) (p : Value × Nat) => cs.setIfInBounds (i * esz + p.2) p.1) arr := by
          rw [← Array.foldl_toList, Array.toList_zipIdx]
        rw [e, hset, flatten_set els i esz a.cells hl hi hla]
        unfold splice
        have hl2 : v.cells.toList.length = a.cells.length := hcv.length
        rw [← hl2]
        simp only [Nat.add_zero]
        exact repL_append (repL_append (repL_take _ hr) hcv) (repL_drop _ hr)
      obtain ⟨arr', h1, h2, h3, h4⟩ := ih (els := els.set i a.cells) (fun cs hcs => by
        rcases List.mem_or_eq_of_mem_set hcs with hm | rfl
        · exact hl cs hm
        · exact hla) hr2 hf
      refine ⟨arr', ?_, h2, h3, by simpa using h4⟩
      simp only [Instr.fill]
      rw [if_neg (by simp [hvl]; omega)]
      exact h1
    · cases hf

theorem made_rep {zc : List AV} {zv : Array Value} (hz : RepL C E zc zv.toList) (n : Nat) : RepL C E (List.replicate n zc).flatten (madeCells zv (n * zv.size)).toList := by
  have hl : zc.length = zv.size := by have := hz.length; simp at this; omega
  have hlen : ∀ cs ∈ List.replicate n zc, cs.length = zv.size := fun cs hc => by rw [(List.mem_replicate.1 hc).2, hl]
  refine RepL.of_get (by rw [flatten_len hlen]; simp [madeCells]) (fun q a v ha hv => ?_)
  obtain ⟨i, j, cs, h1, h2, h3, h4⟩ := flatten_get hlen q a ha
  obtain rfl : cs = zc := by
    rw [List.getElem?_replicate] at h2
    split at h2
    · cases h2; rfl
    · cases h2
  obtain ⟨u, hu, hr⟩ := hz.get j a h3
  have hmod : q % zv.size = j := by rw [h1, Nat.mul_comm, Nat.mul_add_mod, Nat.mod_eq_of_lt h4]
  have : v = u := by
    simp only [madeCells, Array.toList_map, Array.toList_range, List.getElem?_map] at hv
    cases hq : (List.range (n * zv.size))[q]? with
    | none => simp [hq] at hv
    | some q' =>
      have hq' : q' = q := by
        have := List.getElem?_eq_some_iff.1 hq
        obtain ⟨_, e⟩ := this
        simpa using e.symm
      subst hq'
      simp only [hq, Option.map_some, Option.some.injEq] at hv
      rw [← hv, hmod]
      simp only [Array.getElem?_toList] at hu
      rw [getElem!_def, hu]
  rw [this]
  exact hr

theorem elemOfSlice_eq {t e : TypeId} (h : elemOfSlice P t = some e) : P.underlying t = some (.slice e) := by
  unfold elemOfSlice at h
  split at h
  · rename_i e' he; cases h; exact he
  · cases h

theorem buildSlice_ok (hw : WRel C w0 E H w) (hfree : H.blk H.next = none) {t : TypeId} {len : Nat} {parts : List (Nat × AV)} {pv : Array (Nat × Value)} {r : AV} {H' : Heap} (hp : RepP C E parts pv.toList) (h : evBuildSlice P H t len parts = some (r, H')) :
    ∃ z E' w', (Instr.buildSlice t len pv).run P w = .ok z w' ∧ E.le E' ∧ WRel C w0 E' H' w' ∧ Rep C E' r z := by
  unfold evBuildSlice at h
  cases he : elemOfSlice P t with
  | none => simp [he] at h
  | some e =>
    have ht := elemOfSlice_eq he
    simp only [he, Option.bind_some] at h
    split at h
    · rename_i s z hs hz
      split at h
      · rename_i hc
        obtain ⟨hc1, hc2, hc3⟩ := hc
        cases hf : fillE s (List.replicate len z.cells) parts with
        | none => simp [hf] at h
        | some els =>
          simp only [hf, Option.map_some, Option.some.injEq, Prod.mk.injEq] at h
          obtain ⟨rfl, rfl⟩ := h
          obtain ⟨it, zv, hi, hzv, hrep⟩ := zero_rep (C := C) (E := E) hz
          have hzc := rep_cells hrep hc2
          have hzs : zv.cells.size = s := by have := hzc.length; simp at this; omega
          have hmade := made_rep hzc len
          rw [hzs] at hmade
          obtain ⟨arr', g1, g2, g3, g4⟩ := fillE_ok hp (els := List.replicate len z.cells) (arr := madeCells zv.cells (len * s)) (fun cs hcs => by rw [(List.mem_replicate.1 hcs).2, hc3]) hmade hf
          have hlen : els.length = len := by simpa using g4
          have hal : arr'.size = len * s := by have := g2.length; rw [flatten_len g3, hlen] at this; simpa using this
          obtain ⟨E', e1, e2, e3⟩ := newRow_ok (ty := e) hw hfree (Chg.refl w _) rfl (els := els) (vals := arr'.toList) (zs := #[]) (rc := len) g2 g3 (by omega) (by simp [hal]) (k := len) (cap := len) (ex := true) (Nat.le_refl _) (by omega) (fun _ => rfl)
          refine ⟨_, E', _, ?_, e1, e2, e3⟩
          have hsz : it.size = s := by unfold szOf at hs; simp [hi] at hs; exact hs
          have hle : ¬ (16777216 < len * s) := by omega
          by_cases h0 : len * s = 0
          · have hm : (madeCells zv.cells (len * s)) = #[] := by rw [h0]; simp [madeCells]
            rw [hm] at g1
            simp [Instr.buildSlice, run_underlying ht, sizeOf, typeInfo, hi, hsz, hle, h0, g1, newRow, Array.range_zero']
          · simp only [madeCells] at g1
            simp [Instr.buildSlice, run_underlying ht, sizeOf, typeInfo, zeroValue, hi, hzv, hsz, hle, h0, g1, newRow]
      · cases h
    · cases h

theorem makeSlice_ok (hw : WRel C w0 E H w) (hfree : H.blk H.next = none) {t : TypeId} {l c r : AV} {lv cv : Value} {H' : Heap} (hl : Rep C E l lv) (hc : Rep C E c cv) (h : evMakeSlice P H t l c = some (r, H')) :
    ∃ z E' w', (Instr.makeSlice t lv cv).run P w = .ok z w' ∧ E.le E' ∧ WRel C w0 E' H' w' ∧ Rep C E' r z := by
  unfold evMakeSlice at h
  cases he : elemOfSlice P t with
  | none => simp [he] at h
  | some e =>
    have ht := elemOfSlice_eq he
    simp only [he, Option.bind_some] at h
    split at h
    · rename_i it z k l k' c hi hz
      obtain rfl := rep_int hl
      obtain rfl := rep_int hc
      split at h
      · rename_i hcond
        obtain ⟨c1, c2, c3, c4, c5, c6⟩ := hcond
        cases h
        obtain ⟨it', zv, hi', hzv, hrep⟩ := zero_rep (C := C) (E := E) hz
        rw [hi] at hi'; cases hi'
        have hzc := rep_cells hrep c5
        have hzs : zv.cells.size = it.size := by have := hzc.length; simp at this; omega
        have hmade := made_rep hzc c.toNat
        rw [hzs] at hmade
        have hrun := run_make (P := P) w t e it zv ht hi hzv k k' l c c1 c2 (by omega) c3
        have hll : ∀ cs ∈ List.replicate c.toNat z.cells, cs.length = it.size := fun cs hcs => by rw [(List.mem_replicate.1 hcs).2, c6]
        obtain ⟨E', e1, e2, e3⟩ := newRow_ok (ty := e) hw hfree (Chg.refl w _) rfl (els := List.replicate c.toNat z.cells) (vals := (madeCells zv.cells (c.toNat * it.size)).toList) (zs := #[]) (rc := c.toNat) hmade hll (by simp) (by
          have := hmade.length; rw [flatten_len hll] at this; simpa using this) (k := l.toNat) (cap := c.toNat) (ex := true) (by omega) (by simp) (fun _ => rfl)
        refine ⟨_, E', _, hrun, e1, ?_, e3⟩
        simpa using e2
      · cases h
    · cases h

end
end Go.Ev
