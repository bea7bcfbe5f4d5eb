import Derived.Test.YtjjmdbhgmecpjaaGreatDoorEvI
set_option linter.unusedVariables false
set_option linter.unusedSimpArgs false
namespace Go.Ev
section
variable {P : Program} {C : Mem} {w0 : World} {E : Emb} {H : Heap} {w : World}

/-- A new row of elements, with room behind it. -/
theorem newRow_ok (hw : WRel C w0 E H w) (hfree : H.blk H.next = none) {w1 : World} (hc1 : Chg w w1 (fun _ _ => False)) (hs1 : w1.heap.size = w.heap.size) {ty esz : Nat} {els : List (List AV)} {vals : List Value} {zs : Array Value} {rc : Nat} (hr : RepL C E els.flatten vals)
    (hl : ∀ cs ∈ els, cs.length = esz) (hrc : els.length ≤ rc) (hz : vals.length + zs.size = rc * esz) {k cap : Nat} {ex : Bool} (hk : k ≤ cap) (hcap : cap ≤ els.length) (hex : ex = true → rc = cap) :
    ∃ E', E.le E' ∧ WRel C w0 E' (H.push (.row ty esz els 0 0)) (w1.alloc (.cells (vals.toArray ++ zs) ty)) ∧
      Rep C E' (.slice H.next 0 k cap ex 0) (.slice (some ⟨w.heap.size, 0, none⟩) k rc) := by
  have hvl : vals.length = els.length * esz := by rw [hr.length, flatten_len hl]
  let L : Loc := ⟨w.heap.size, 0, 0, els.length, esz, rc * esz⟩
  have hnew := hw.newRow hfree (w' := w1.alloc (.cells (vals.toArray ++ zs) ty)) (hc1.trans (Chg.alloc w1 _ _)) ty esz els L rfl (by simp [hs1]) rfl rfl rfl hl (by simp only [L, Nat.zero_add, Nat.sub_zero]; exact Nat.mul_le_mul_right _ hrc)
    (fun o ho => by
      simp only [L] at ho ⊢
      rw [← hs1]
      refine ⟨?_, World.frozen?_alloc_new _ _ _ _⟩
      rw [World.cell?_alloc_new, Array.getElem?_eq_getElem (by simp; omega)]; rfl)
    (fun i j cs c hi h3 h4 => by
      obtain ⟨z, hz, hr'⟩ := hr.get _ _ (flatten_at hl i j cs c h3 h4)
      refine ⟨z, ?_, hr'⟩
      simp only [L]
      rw [← hs1, World.cell?_alloc_new, Nat.zero_add, Array.getElem?_append_left (by have := (List.getElem?_eq_some_iff.1 hz).1; simpa using this)]
      simpa using hz)
  refine ⟨_, hnew.1, hnew.2, ?_⟩
  exact .slice _ 0 k cap ex 0 L _ rc (Emb.set_same _ _ _ _) (by simp [L]) (by simp [L]; omega) hk (by omega) hex (fun _ => by simp [L]) (by simp [L])

theorem setAll_length {els new : List (List AV)} {i : Nat} (h : i + new.length ≤ els.length) : (setAll els i new).length = els.length := by
  simp [setAll]; omega

theorem setAll_get {els new : List (List AV)} {i j : Nat} (h : i + new.length ≤ els.length) : (setAll els i new)[j]? = if i ≤ j ∧ j < i + new.length then new[j - i]? else els[j]? := by
  unfold setAll
  rw [List.append_assoc]
  by_cases h1 : j < i
  · rw [List.getElem?_append_left (by simp; omega), if_neg (by omega), List.getElem?_take, if_pos h1]
  · rw [List.getElem?_append_right (by simp; omega)]
    have e : j - (els.take i).length = j - i := by simp; omega
    rw [e]
    by_cases h2 : j < i + new.length
    · rw [if_pos ⟨by omega, h2⟩, List.getElem?_append_left (by omega)]
    · rw [if_neg (by omega), List.getElem?_append_right (by omega), List.getElem?_drop]
      congr 1
      omega

theorem size_zeroCells' (z : Array Value) (n : Nat) : (Builtin.zeroCells z n).size = n * z.size := by simp [Builtin.zeroCells]

/-- Elements written into a row's newest generation, from element k on. -/
theorem setAll_ok (hw : WRel C w0 E H w) {b ty esz : Nat} {els new : List (List AV)} {gen wgen : Nat} {vals : List Value} {G : Loc} (hb : H.blk b = some (.row ty esz els gen wgen)) (hG : E.loc b gen = some G) {k : Nat} (hlo : G.lo ≤ k)
    (hk : k + new.length ≤ els.length) (hr : RepL C E new.flatten vals) (hl : ∀ cs ∈ new, cs.length = esz) (hcell : new.all (fun cs => cs.all AV.isCell) = true) :
    (storeCells ⟨G.blk, G.co + (k - G.lo) * esz, none⟩ vals).run P w = .ok () (w.setCells G.blk (G.co + (k - G.lo) * esz) vals) ∧
    WRel C w0 E (H.set b (.row ty esz (setAll els k new) gen gen)) (w.setCells G.blk (G.co + (k - G.lo) * esz) vals) := by
  obtain ⟨G', hG', hlocok, hext⟩ := hw.newest hb
  rw [hG] at hG'; cases hG'
  have hrow := hw.row _ _ _ _ _ _ hb
  have hvl : vals.length = new.length * esz := by rw [hr.length, flatten_len hl]
  generalize hoff : G.co + (k - G.lo) * esz = off
  have hroom := hlocok.room
  have hin : ∀ j, j < vals.length → off + j < G.size := fun j hj => by
    have h1 : (k - G.lo + new.length) * esz ≤ (G.ext - G.lo) * esz := Nat.mul_le_mul_right _ (by omega)
    rw [Nat.add_mul] at h1
    omega
  have hc : ∀ j, j < vals.length → (w.cell? ⟨G.blk, off + j, none⟩).isSome = true := fun j hj => (hlocok.shape _ (hin j hj)).1
  have hone : ∀ v ∈ vals, v.oneCell' = true := repL_oneCell hr (by
    rw [List.all_eq_true] at hcell ⊢
    intro c hc'
    obtain ⟨cs, h1, h2⟩ := List.mem_flatten.1 hc'
    exact (List.all_eq_true.1 (hcell cs h1)) c h2)
  refine ⟨run_storeCells_cells (P := P) G.blk off vals 0 w (by simpa using hc) (fun j hj => by simpa using (hlocok.shape _ (hin j hj)).2) hone, ?_⟩
  have hlen' : ∀ (i : Nat) (cs : List AV), (setAll els k new)[i]? = some cs → cs.length = esz := fun i cs h => by
    rw [setAll_get hk] at h
    split at h
    · exact hl cs (List.mem_of_getElem? h)
    · exact hrow.len cs (List.mem_of_getElem? h)
  refine hw.write (Chg.setCells w G.blk off vals hc) hb hG (fun x y ⟨e1, e2, e3⟩ => ⟨e1, ?_⟩) (setAll_length hk) (fun cs hcs => ?_) (fun i j cs c e1 e2 e3 e4 => ?_)
  · subst e1
    have := hc (y - off) (by omega)
    rwa [show off + (y - off) = y by omega] at this
  · obtain ⟨i, hi⟩ := List.getElem?_of_mem hcs
    exact hlen' i cs hi
  · have hj : j < esz := by
      have := hlen' i cs e3
      have := (List.getElem?_eq_some_iff.1 e4).1
      omega
    rw [setAll_get hk] at e3
    split at e3
    · rename_i hki
      obtain ⟨z, hz, hr'⟩ := hr.get _ _ (flatten_at hl (i - k) j cs c e3 e4)
      refine ⟨z, ?_, hr'⟩
      have hlt := (List.getElem?_eq_some_iff.1 hz).1
      have := World.cell?_setCells_in G.blk vals off w hc ((i - k) * esz + j) hlt
      rw [show off + ((i - k) * esz + j) = G.co + (i - G.lo) * esz + j by
        rw [← hoff, show i - G.lo = (k - G.lo) + (i - k) by omega, Nat.add_mul]; omega] at this
      rw [this, ← hz, List.getElem?_eq_getElem hlt]
    · rename_i hki
      obtain ⟨z, hz, hr'⟩ := hlocok.cell i j cs c e1 e2 e3 e4
      refine ⟨z, ?_, hr'⟩
      rw [World.cell?_setCells_out]
      · exact hz
      · intro _ _
        simp only
        apply Classical.byContradiction
        intro hcon
        have hk2 : ∃ p q, p < new.length ∧ q < esz ∧ (i - G.lo) * esz + j = ((k - G.lo) + p) * esz + q := by
          refine ⟨((i - G.lo) * esz + j - (k - G.lo) * esz) / esz, ((i - G.lo) * esz + j - (k - G.lo) * esz) % esz, ?_, Nat.mod_lt _ (by omega), ?_⟩
          · rw [Nat.div_lt_iff_lt_mul (by omega)]; omega
          · have := Nat.div_add_mod ((i - G.lo) * esz + j - (k - G.lo) * esz) esz
            rw [Nat.add_mul]
            rw [Nat.mul_comm] at this
            omega
        obtain ⟨p, q, hp, hq, heq⟩ := hk2
        have := (place_inj hj hq heq).1
        omega

/-- append. -/
theorem append_ok (hw : WRel C w0 E H w) {t u ty e : TypeId} {i : TypeInfo} {z : Value} {d : TypeDesc} (ht : P.underlying t = some (.slice e)) (hu : P.underlying u = some d) (hd : ∀ k, d ≠ .int k) (hi : P.info? e = some i) (hz : i.zero = some z)
    (hzs : z.cells.size = i.size) {s x r : AV} {sv xv : Value} {n : Nat} {new : List (List AV)} {H' : Heap} (hfree : H.blk H.next = none ∨ H'.next = H.next) (hn : x.len? = some n) (he : H.elems i.size n x = some new)
    (ha : H.append e i.size i.bytes s new = some (r, H')) (hs : Rep C E s sv) (hx : Rep C E x xv) :
    ∃ y E' w', (Builtin.append_ #[t, u] ty #[sv, xv]).run P w = .ok y w' ∧ E.le E' ∧ WRel C w0 E' H' w' ∧ Rep C E' r y := by
  obtain ⟨vs, hvs, hnl, hlen, hfc⟩ := elems_ok (P := P) hw he hx
  have hlx := len_ok (P := P) hn hx w
  have hf := hfc w (fun _ => rfl)
  have hfd := hfc w.drew (fun _ => rfl)
  have hvl : vs.length = n * i.size := by rw [hvs.length, flatten_len hlen, hnl]
  have hnil : n = 0 → vs = [] := fun h0 => List.eq_nil_of_length_eq_zero (by rw [hvl, h0, Nat.zero_mul])
  unfold Heap.append at ha
  split at ha
  case isFalse => cases ha
  rename_i hcell
  have made : ∀ (base : Option Addr) (sLen sCap : Nat) (old : List (List AV)) (olds : List Value), old.length = sLen → (∀ cs ∈ old, cs.length = i.size) → RepL C E old.flatten olds →
      (Builtin.firstCells i.size sLen (.slice base sLen sCap)).run P w.drew = .ok olds.toArray w.drew → sCap < sLen + n → (sLen + n) * i.bytes ≤ 140737488355328 → sLen + n ≤ 140737488355328 → H.blk H.next = none →
      ∃ y E' w', (Builtin.append_ #[t, u] ty #[.slice base sLen sCap, xv]).run P w = .ok y w' ∧ E.le E' ∧ WRel C w0 E' (H.push (.row e i.size (old ++ new) 0 0)) w' ∧ Rep C E' (.slice H.next 0 (sLen + n) (sLen + n) false 0) y := by
    intro base sLen sCap old olds h1 h2 h3 h4 h5 h6 h7 hfree
    have hrun := run_append_new (P := P) (ty := ty) ht hu hd hi hz hlx hfd h4 h5 h6 h7
    have hge := grownCap_ge w (sLen + n) sCap e
    have hol : olds.length = sLen * i.size := by rw [h3.length, flatten_len h2, h1]
    have hll : ∀ cs ∈ old ++ new, cs.length = i.size := fun cs hc => by
      rcases List.mem_append.1 hc with hc | hc
      · exact h2 cs hc
      · exact hlen cs hc
    obtain ⟨E', g1, g2, g3⟩ := newRow_ok (ty := e) hw hfree (Chg.drew w _) rfl (els := old ++ new) (vals := olds ++ vs) (zs := Builtin.zeroCells z.cells (grownCap w (sLen + n) sCap e - (sLen + n))) (rc := grownCap w (sLen + n) sCap e)
      (by rw [List.flatten_append]; exact repL_append h3 hvs) hll (by simp; omega) (by
        rw [size_zeroCells', hzs, List.length_append, hol, hvl, ← Nat.add_mul, ← Nat.add_mul]; congr 1; omega) (k := sLen + n) (cap := sLen + n) (ex := false) (Nat.le_refl _) (by simp; omega) (by simp)
    refine ⟨_, E', _, hrun, g1, ?_, g3⟩
    have : (olds ++ vs).toArray ++ Builtin.zeroCells z.cells (grownCap w (sLen + n) sCap e - (sLen + n)) = olds.toArray ++ vs.toArray ++ Builtin.zeroCells z.cells (grownCap w (sLen + n) sCap e - (sLen + n)) := by simp
    rw [this] at g2
    exact g2
  split at ha
  · cases hs
    split at ha
    · rename_i h0
      cases ha
      have h0' : n = 0 := by omega
      subst h0'
      refine ⟨_, E, w, run_append_none (P := P) ht hu hd hi hlx (by rw [hf, hnil rfl]), Emb.le_refl _, hw, .nilslice⟩
    · split at ha
      · rename_i hb
        cases ha
        unfold maxBytes at hb
        have := made none 0 0 [] [] rfl (by simp) .nil (by simp [Builtin.firstCells]) (by omega) (by rw [Nat.zero_add, ← hnl]; exact hb.1) (by omega) (hfree.resolve_right (by simp [Heap.push]))
        simpa [hnl] using this
      · cases ha
  · cases hs with
    | eslice a =>
      split at ha
      · rename_i h0
        cases ha
        have h0' : n = 0 := by omega
        subst h0'
        refine ⟨_, E, w, run_append_fits (P := P) ht hu hd hi hlx hf (by omega) (w' := w) (by rw [hnil rfl]; simp [storeCells]), Emb.le_refl _, hw, .eslice a⟩
      · split at ha
        · rename_i hb
          cases ha
          unfold maxBytes at hb
          have := made (some a) 0 0 [] [] rfl (by simp) .nil (by simp [Builtin.firstCells, loadCells, loadCellsFrom]) (by omega) (by rw [Nat.zero_add, ← hnl]; exact hb.1) (by omega) (hfree.resolve_right (by simp [Heap.push]))
          simpa [hnl] using this
        · cases ha
  · rename_i sz es
    split at ha
    · rename_i h0
      cases ha
      have h0' : n = 0 := by omega
      subst h0'
      have hs' := hs
      cases hs with
      | lst _ _ blk co len rc ad hE h1 h2 h6 =>
        exact ⟨_, E, w, run_append_fits (P := P) ht hu hd hi hlx hf (by omega) (w' := w) (by rw [hnil rfl]; simp [storeCells]), Emb.le_refl _, hw, hs'⟩
    · cases ha
  · rename_i b off len cap ex g
    have hs' := hs
    cases hs with
    | slice _ _ _ _ _ _ L a rc hL h1 h2 h3 h4 h5 h6 h7 =>
      split at ha
      · rename_i h0
        cases ha
        have h0' : n = 0 := by omega
        subst h0'
        exact ⟨_, E, w, run_append_fits (P := P) ht hu hd hi hlx hf (by omega) (w' := w) (by rw [hnil rfl]; simp [storeCells]), Emb.le_refl _, hw, hs'⟩
      · rename_i hnew0
        split at ha
        · rename_i ty' sz els gen wgen hb
          split at ha
          · rename_i hg
            obtain ⟨hg, rfl, hby, hml⟩ := hg
            unfold maxBytes at hby hml
            rw [hnl] at hby hml
            obtain ⟨L', hL', hl⟩ := (hw.row _ _ _ _ _ _ hb).loc g hg ((hw.dom _ _ _ hL).2.2 _ _ _ _ _ hb)
            rw [hL] at hL'; cases hL'
            have hlenE := (hw.row _ _ _ _ _ _ hb).len
            have hext := hl.ext
            have hLsz := hl.sz
            split at ha
            · rename_i hfit
              split at ha
              · rename_i hgg
                subst hgg
                cases ha
                have had := h6 (by omega)
                subst had
                have hst := setAll_ok (P := P) hw hb hL (k := off + len) (by omega) (by omega) hvs hlen hcell
                refine ⟨_, E, _, run_append_fits (P := P) ht hu hd hi hlx hf (by omega) (w' := w.setCells L.blk (L.co + (off + len - L.lo) * i.size) vs) ?_, Emb.le_refl _, hst.2, ?_⟩
                · rw [Addr.add_lit, hLsz, show L.co + (off - L.lo) * i.size + len * i.size = L.co + (off + len - L.lo) * i.size by
                    rw [show off + len - L.lo = (off - L.lo) + len by omega, Nat.add_mul]; omega]
                  exact hst.1
                · rw [← hnl]
                  exact .slice b off (len + new.length) cap ex g L _ rc hL h1 h2 hfit h4 h5 h6 h7
              · cases ha
            · rename_i hnfit
              have holdE : H.elems i.size len (.slice b off len cap ex g) = some ((els.drop off).take len) := by
                simp [Heap.elems, hb, hg]
              obtain ⟨olds, ho1, ho2, ho3, ho4⟩ := elems_ok (P := P) hw holdE hs'
              split at ha
              · rename_i hex
                cases ha
                have := made (some a) len rc _ olds ho2 ho3 ho1 (ho4 w.drew (fun _ => rfl)) (by have := h5 hex; omega) hby hml (hfree.resolve_right (by simp [Heap.push]))
                rw [hnl]
                exact this
              · rename_i hex
                split at ha
                · rename_i hfr
                  obtain ⟨rfl, hfr⟩ := hfr
                  cases ha
                  rw [hnl]
                  by_cases hroom : len + n ≤ rc
                  · -- in place
                    have had := h6 (by omega)
                    subst had
                    have hGext := (hw.row _ _ _ _ _ _ hb).last L hL
                    generalize hoff : L.co + (off + len - L.lo) * i.size = o0
                    have hsp : L.co + (off - L.lo) * i.size + len * i.size = o0 := by
                      rw [← hoff, show off + len - L.lo = (off - L.lo) + len by omega, Nat.add_mul]; omega
                    have hend : L.co + (L.ext - L.lo) * i.size = o0 := by rw [← hoff]; congr 3; omega
                    have hin : ∀ j, j < vs.length → o0 + j < L.size := fun j hj => by
                      have hh : (off - L.lo + (len + n)) * i.size ≤ (off - L.lo + rc) * i.size := Nat.mul_le_mul_right _ (by omega)
                      rw [hLsz] at h7
                      rw [Nat.add_mul, Nat.add_mul] at hh
                      omega
                    have hc : ∀ j, j < vs.length → (w.cell? ⟨L.blk, o0 + j, none⟩).isSome = true := fun j hj => (hl.shape _ (hin j hj)).1
                    have hone : ∀ v ∈ vs, v.oneCell' = true := repL_oneCell hvs (by
                      rw [List.all_eq_true] at hcell ⊢
                      intro c hc'
                      obtain ⟨cs, g1, g2⟩ := List.mem_flatten.1 hc'
                      exact (List.all_eq_true.1 (hcell cs g1)) c g2)
                    have hst := run_storeCells_cells (P := P) L.blk o0 vs 0 w (by simpa using hc) (fun j hj => by simpa using (hl.shape _ (hin j hj)).2) hone
                    have hchg := Chg.setCells w L.blk o0 vs hc
                    let L2 : Loc := ⟨L.blk, L.co, L.lo, L.ext + n, i.size, L.size⟩
                    have hlocok : LocOk C E (w.setCells L.blk o0 vs) w0.heap.size L2 i.size (els ++ new) := by
                      refine ⟨rfl, by have := hl.lo; simp only [L2]; omega, by simp only [L2]; simp; omega, hl.base, Nat.lt_of_lt_of_le hl.lt hchg.size, ?_, fun o ho => ⟨hchg.some _ _ hl.lt (hl.shape o ho).1, by rw [hchg.frozen _ _ hl.lt]; exact (hl.shape o ho).2⟩, ?_⟩
                      · simp only [L2]
                        have hh : (off - L.lo + (len + n)) * i.size ≤ (off - L.lo + rc) * i.size := Nat.mul_le_mul_right _ (by omega)
                        rw [hLsz] at h7
                        rw [show L.ext + n - L.lo = off - L.lo + (len + n) by omega]
                        omega
                      · intro i' j cs c e1 e2 e3 e4
                        simp only [L2] at e1 e2 ⊢
                        by_cases hi' : i' < els.length
                        · rw [List.getElem?_append_left hi'] at e3
                          obtain ⟨zz, hzz, hrr⟩ := hl.cell i' j cs c e1 (by omega) e3 e4
                          refine ⟨zz, ?_, hrr⟩
                          rw [World.cell?_setCells_out]
                          · exact hzz
                          · intro _ _
                            left
                            simp only
                            have hj : j < i.size := by
                              have := hlenE cs (List.mem_of_getElem? e3)
                              have := (List.getElem?_eq_some_iff.1 e4).1
                              omega
                            have hh : (i' - L.lo + 1) * i.size ≤ (L.ext - L.lo) * i.size := Nat.mul_le_mul_right _ (by omega)
                            rw [Nat.add_mul] at hh
                            omega
                        · rw [List.getElem?_append_right (by omega)] at e3
                          obtain ⟨zz, hzz, hrr⟩ := hvs.get _ _ (flatten_at hlen _ j cs c e3 e4)
                          refine ⟨zz, ?_, hrr⟩
                          have hlt := (List.getElem?_eq_some_iff.1 hzz).1
                          have := World.cell?_setCells_in L.blk vs o0 w hc _ hlt
                          rw [show o0 + ((i' - els.length) * i.size + j) = L.co + (i' - L.lo) * i.size + j by
                            rw [← hend, show i' - L.lo = (L.ext - L.lo) + (i' - els.length) by omega, Nat.add_mul]; omega] at this
                          rw [this, ← hzz, List.getElem?_eq_getElem hlt]
                    have hgrow := hw.grow hchg (L := L2) hb hL (fun x y ⟨e1, e2, e3⟩ => ⟨e1, by
                        subst e1
                        have := hc (y - o0) (by omega)
                        rwa [show o0 + (y - o0) = y by omega] at this, by omega⟩) hlen (.inl ⟨rfl, by
                        simp only [L2]
                        have : (L.ext - L.lo) * i.size ≤ (L.ext + n - L.lo) * i.size := Nat.mul_le_mul_right _ (by omega)
                        omega⟩) hlocok (by simp only [L2]; simp; omega)
                    refine ⟨_, _, _, run_append_fits (P := P) ht hu hd hi hlx hf hroom (w' := w.setCells L.blk o0 vs) ?_, hgrow.1, hgrow.2, ?_⟩
                    · rw [Addr.add_lit, hLsz, hsp]; simpa using hst
                    · refine .slice b off (len + n) (len + n) false (g + 1) L2 _ rc (Emb.set_same _ _ _ _) (by simp only [L2]; omega) (by simp only [L2]; omega) (Nat.le_refl _) hroom (by simp) (fun _ => ?_) ?_
                      · simp only [L2]; rw [hLsz]
                      · simp only [L2]; rw [hLsz] at h7; exact h7
                  · -- in a block of its own
                    have hrun := run_append_new (P := P) (ty := ty) ht hu hd hi hz hlx hfd (ho4 w.drew (fun _ => rfl)) (sCap := rc) (base := some a) (by omega) hby hml
                    generalize hgc : grownCap w (len + n) rc e = gc at hrun
                    have hge : len + n ≤ gc := hgc ▸ grownCap_ge w (len + n) rc e
                    have hol : olds.length = len * i.size := by rw [ho1.length, flatten_len ho3, ho2]
                    let cells : Array Value := olds.toArray ++ vs.toArray ++ Builtin.zeroCells z.cells (gc - (len + n))
                    have hcs : cells.size = gc * i.size := by
                      simp only [cells, Array.size_append, List.size_toArray, size_zeroCells', hzs, hol, hvl, ← Nat.add_mul]
                      congr 1; omega
                    let L2 : Loc := ⟨w.heap.size, 0, off, off + len + n, i.size, gc * i.size⟩
                    have hchg : Chg w (w.drew.alloc (.cells cells e)) (fun _ _ => False) := (Chg.drew w _).trans (Chg.alloc w.drew _ _)
                    have hboth : RepL C E (((els.drop off).take len) ++ new).flatten (olds ++ vs) := by rw [List.flatten_append]; exact repL_append ho1 hvs
                    have hbothl : ∀ cs ∈ ((els.drop off).take len) ++ new, cs.length = i.size := fun cs hc => by
                      rcases List.mem_append.1 hc with hc | hc
                      · exact ho3 cs hc
                      · exact hlen cs hc
                    have hdrop : (els.drop off).take len = els.drop off := List.take_of_length_le (by simp; omega)
                    have hlocok : LocOk C E (w.drew.alloc (.cells cells e)) w0.heap.size L2 i.size (els ++ new) := by
                      refine ⟨rfl, by simp only [L2]; omega, by simp only [L2]; simp; omega, by simp only [L2]; exact hw.below.size, by simp [L2], ?_, fun o ho => ?_, ?_⟩
                      · simp only [L2, Nat.zero_add]; exact Nat.mul_le_mul_right _ (by omega)
                      · simp only [L2] at ho ⊢
                        refine ⟨?_, World.frozen?_alloc_new w.drew _ _ _⟩
                        have := World.cell?_alloc_new w.drew cells e o
                        rw [World.size_drew] at this
                        rw [this, Array.getElem?_eq_getElem (by omega)]; rfl
                      · intro i' j cs c e1 e2 e3 e4
                        simp only [L2] at e1 e2 ⊢
                        have e3' : (((els.drop off).take len) ++ new)[i' - off]? = some cs := by
                          rw [hdrop, ← List.drop_append_of_le_length (by omega), List.getElem?_drop, show off + (i' - off) = i' by omega]
                          exact e3
                        obtain ⟨zz, hzz, hrr⟩ := hboth.get _ _ (flatten_at hbothl _ j cs c e3' e4)
                        refine ⟨zz, ?_, hrr⟩
                        have := World.cell?_alloc_new w.drew cells e ((i' - off) * i.size + j)
                        rw [World.size_drew] at this
                        rw [Nat.zero_add, this]
                        have hlt := (List.getElem?_eq_some_iff.1 hzz).1
                        simp only [cells]
                        rw [Array.getElem?_append_left (by simpa using hlt)]
                        rw [← hzz]
                        simp
                    have hgrow := hw.grow hchg (L := L2) hb hL (fun x y hf => hf.elim) hlen (.inr (by simp [L2])) hlocok (by simp only [L2]; simp; omega)
                    refine ⟨_, _, _, hrun, hgrow.1, hgrow.2, ?_⟩
                    refine .slice b off (len + n) (len + n) false (g + 1) L2 _ gc (Emb.set_same _ _ _ _) (by simp only [L2]; omega) (by simp only [L2]; omega) (Nat.le_refl _) hge (by simp) (fun _ => ?_) ?_
                    · simp only [L2]; simp
                    · simp only [L2]; simp
                · cases ha
          · cases ha
        · cases ha
  · cases ha

end
end Go.Ev
