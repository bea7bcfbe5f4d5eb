import Derived.Test.YtjjmdbhgmecpjaaGreatDoorEvG
set_option linter.unusedVariables false
set_option linter.unusedSimpArgs false
namespace Go.Ev
section
variable {P : Program} {C : Mem} {w0 : World} {E : Emb} {H : Heap} {w : World}

/-- What an abstract read finds lies in memory. -/
theorem load_cells (hw : WRel C w0 E H w) {a : AV} {u : Value} {n : Nat} {cs : List AV} (h : H.load a n = some cs) (hu : Rep C E a u) :
    ∃ ad vs, u = .pointer (some ad) ∧ cs.length = n ∧ RepL C E cs vs ∧ ∀ j v, vs[j]? = some v → w.cell? (ad.add j) = some v := by
  unfold Heap.load at h
  split at h
  · rename_i cs' o
    split at h
    · rename_i hle
      cases h
      cases hu with
      | iptr _ _ blk co off hm h3 =>
        obtain ⟨vs, h1, h2⟩ := choose_cells (C := C) (E := E) (w := w) (blk := blk) ((cs'.drop o).take n) off (fun j c hj => by
          rw [List.getElem?_take] at hj
          split at hj
          · rw [List.getElem?_drop] at hj
            obtain ⟨v, hv, hr⟩ := hm.get (o + j) c hj
            exact ⟨v, by subst h3; rw [Nat.add_assoc]; exact (hw.mem _ _ _ hv).2, hr⟩
          · cases hj)
        exact ⟨_, vs, rfl, by simp; omega, h1, fun j v hj => by rw [Addr.add_lit]; exact h2 j v hj⟩
    · cases h
  · rename_i b i o g
    split at h
    · rename_i ty esz els gen wgen hb
      split at h
      · rename_i hg
        split at h
        · rename_i cs' hi
          cases h
          cases hu with
          | ptr _ _ _ _ L off hL h1 h2 h3 =>
            obtain ⟨L', hL', hl⟩ := (hw.row _ _ _ _ _ _ hb).loc g hg.1 ((hw.dom _ _ _ hL).2.2 _ _ _ _ _ hb)
            rw [hL] at hL'; cases hL'
            have hcl := (hw.row _ _ _ _ _ _ hb).len cs' (List.mem_of_getElem? hi)
            obtain ⟨vs, r1, r2⟩ := choose_cells (C := C) (E := E) (w := w) (blk := L.blk) ((cs'.drop o).take n) off (fun j c hj => by
              rw [List.getElem?_take] at hj
              split at hj
              · rw [List.getElem?_drop] at hj
                obtain ⟨v, hv, hr⟩ := hl.cell i (o + j) cs' c h1 h2 hi hj
                exact ⟨v, by subst h3; rw [hl.sz, Nat.add_assoc]; exact hv, hr⟩
              · cases hj)
            exact ⟨_, vs, rfl, by simp; omega, r1, fun j v hj => by rw [Addr.add_lit]; exact r2 j v hj⟩
        · cases h
      · cases h
    · cases h
  · cases h

theorem run_loadCells' {ad : Addr} {vs : List Value} (h : ∀ j v, vs[j]? = some v → w.cell? (ad.add j) = some v) {n : Nat} (hn : vs.length = n) : (loadCells ad n).run P w = .ok vs.toArray w := by
  subst hn; exact run_loadCells_list w ad vs h

theorem load_agg (hw : WRel C w0 E H w) {t : TypeId} {a : AV} {u : Value} {n : Nat} {cs : List AV} (ha : aggOf P t = some true) (hs : szOf P t = some n) (h : H.load a n = some cs) (hu : Rep C E a u) :
    ∃ z, (Instr.loadAt t u).run P w = .ok z w ∧ Rep C E (.agg cs) z := by
  obtain ⟨ad, vs, rfl, hl, hr, hc⟩ := load_cells hw h hu
  refine ⟨.agg vs.toArray, ?_, .agg _ _ hr⟩
  have := run_loadCells' (P := P) hc (n := n) (by rw [hr.length, hl])
  simp [Instr.loadAt, Instr.sureAddr, loadVar, run_isAgg' w ha, run_sizeOf' w hs, this]

theorem load_one (hw : WRel C w0 E H w) {t : TypeId} {a r : AV} {u : Value} (ha : aggOf P t = some false) (h : H.load a 1 = some [r]) (hu : Rep C E a u) :
    ∃ z, (Instr.loadAt t u).run P w = .ok z w ∧ Rep C E r z := by
  obtain ⟨ad, vs, rfl, hl, hr, hc⟩ := load_cells hw h hu
  cases hr with
  | cons _ v _ _ h1 h2 =>
    refine ⟨v, ?_, h1⟩
    have := hc 0 v rfl
    have h0 : ad.add 0 = ad := by simp [Addr.add]
    rw [h0] at this
    simp [Instr.loadAt, Instr.sureAddr, loadVar, run_isAgg' w ha, this]

theorem rep_oneCell {a : AV} {v : Value} (h : Rep C E a v) (hc : a.isCell = true) : v.oneCell' = true := by
  cases h <;> simp_all [AV.isCell, Value.oneCell']

theorem repL_oneCell : ∀ {as : List AV} {vs : List Value}, RepL C E as vs → as.all AV.isCell = true → ∀ v ∈ vs, v.oneCell' = true
  | _, _, .nil, _, v, hv => by cases hv
  | _, _, .cons a u as vs h h', hc, v, hv => by
    simp only [List.all_cons, Bool.and_eq_true] at hc
    rcases List.mem_cons.1 hv with rfl | hv
    · exact rep_oneCell h hc.1
    · exact repL_oneCell h' hc.2 v hv

/-- A cell of a row: element i, cell j, in numbers. -/
theorem cell_lt {i ext lo esz j co size : Nat} (h1 : lo ≤ i) (h2 : i < ext) (hj : j < esz) (hr : co + (ext - lo) * esz ≤ size) : co + (i - lo) * esz + j < size := by
  have : (i - lo + 1) * esz ≤ (ext - lo) * esz := Nat.mul_le_mul_right _ (by omega)
  rw [Nat.add_mul] at this
  omega

theorem place_inj {i i' esz j j' : Nat} (hj : j < esz) (hj' : j' < esz) (h : i * esz + j = i' * esz + j') : i = i' ∧ j = j' := by
  have e1 : (i * esz + j) / esz = i := by rw [Nat.mul_comm, Nat.mul_add_div (by omega), Nat.div_eq_of_lt hj, Nat.add_zero]
  have e2 : (i' * esz + j') / esz = i' := by rw [Nat.mul_comm, Nat.mul_add_div (by omega), Nat.div_eq_of_lt hj', Nat.add_zero]
  have : i = i' := by rw [← e1, ← e2, h]
  subst this
  exact ⟨rfl, by omega⟩

theorem splice_length {cs vs : List AV} {o : Nat} (h : o + vs.length ≤ cs.length) : (splice cs o vs).length = cs.length := by
  simp [splice]; omega

theorem splice_get {cs vs : List AV} {o j : Nat} (h : o + vs.length ≤ cs.length) : (splice cs o vs)[j]? = if o ≤ j ∧ j < o + vs.length then vs[j - o]? else cs[j]? := by
  unfold splice
  rw [List.append_assoc]
  by_cases h1 : j < o
  · rw [List.getElem?_append_left (by simp; omega), if_neg (by omega), List.getElem?_take, if_pos h1]
  · rw [List.getElem?_append_right (by simp; omega)]
    have e : j - (cs.take o).length = j - o := by simp; omega
    rw [e]
    by_cases h2 : j < o + vs.length
    · rw [if_pos ⟨by omega, h2⟩, List.getElem?_append_left (by omega)]
    · rw [if_neg (by omega), List.getElem?_append_right (by omega), List.getElem?_drop]
      congr 1
      omega

theorem store_ok (hw : WRel C w0 E H w) {t : TypeId} {a x : AV} {u v : Value} {H' : Heap} (hs : szOf P t = some x.cells.length) (hx : x.isUndef = false) (h : H.store a x.cells = some H') (hu : Rep C E a u) (hv : Rep C E x v) :
    ∃ w', (Instr.storeAt t u v).run P w = .ok () w' ∧ WRel C w0 E H' w' := by
  have hcs := rep_cells hv hx
  generalize hX : x.cells = xs at *
  unfold Heap.store at h
  split at h
  · rename_i b i o g
    split at h
    · rename_i ty esz els gen wgen hb
      split at h
      · rename_i hg
        obtain ⟨rfl, hle, hall⟩ := hg
        split at h
        · rename_i cs hi
          cases h
          cases hu with
          | ptr _ _ _ _ L off hL h1 h2 h3 =>
            obtain ⟨G, hG, hlo, hext⟩ := hw.newest hb
            rw [hL] at hG; cases hG
            have hcl := (hw.row _ _ _ _ _ _ hb).len cs (List.mem_of_getElem? hi)
            have hlen : v.cells.toList.length = xs.length := hcs.length
            have hsz := hlo.sz
            have hoff : ∀ j, j < v.cells.toList.length → off + j < L.size := fun j hj => by
              have := cell_lt (j := o + j) h1 h2 (by omega) hlo.room
              subst h3
              rw [hsz]
              omega
            have hc : ∀ j, j < v.cells.toList.length → (w.cell? ⟨L.blk, off + j, none⟩).isSome = true := fun j hj => (hlo.shape _ (hoff j hj)).1
            have hrun := run_storeCells_cells (P := P) L.blk off v.cells.toList 0 w (by simpa using hc) (fun j hj => by simpa using (hlo.shape _ (hoff j hj)).2) (repL_oneCell hcs hall)
            refine ⟨w.setCells L.blk off v.cells.toList, ?_, ?_⟩
            · have h1' : v.cells.size = xs.length := by simpa using hlen
              simp [Instr.storeAt, Instr.sureAddr, storeVar, run_sizeOf' w hs, h1', hrun]
            · refine hw.write (Chg.setCells w L.blk off v.cells.toList hc) hb hL (fun x y ⟨e1, e2, e3⟩ => ⟨e1, ?_⟩) (by simp) (fun cs' hcs' => ?_) (fun i' j cs' c e1 e2 e3 e4 => ?_)
              · subst e1
                have := hc (y - off) (by omega)
                rwa [show off + (y - off) = y by omega] at this
              · rcases List.mem_or_eq_of_mem_set hcs' with hm | rfl
                · exact (hw.row _ _ _ _ _ _ hb).len cs' hm
                · rw [splice_length (by omega)]; exact hcl
              · have hj : j < esz := by
                  have hl' : cs'.length = esz := by
                    rw [List.getElem?_set] at e3
                    split at e3
                    · split at e3
                      · cases e3; rw [splice_length (by omega)]; exact hcl
                      · cases e3
                    · exact (hw.row _ _ _ _ _ _ hb).len cs' (List.mem_of_getElem? e3)
                  have := (List.getElem?_eq_some_iff.1 e4).1
                  omega
                rw [List.getElem?_set] at e3
                split at e3
                · rename_i hii
                  subst hii
                  split at e3
                  · cases e3
                    rw [splice_get (by omega)] at e4
                    split at e4
                    · rename_i hin
                      obtain ⟨z, hz, hr⟩ := hcs.get _ _ e4
                      refine ⟨z, ?_, hr⟩
                      have hlt := (List.getElem?_eq_some_iff.1 hz).1
                      have := World.cell?_setCells_in L.blk v.cells.toList off w hc (j - o) hlt
                      rw [show off + (j - o) = L.co + (i - L.lo) * esz + j by subst h3; rw [hsz]; omega] at this
                      rw [this, ← hz, List.getElem?_eq_getElem hlt]
                    · rename_i hout
                      obtain ⟨z, hz, hr⟩ := hlo.cell i j cs c e1 e2 hi e4
                      refine ⟨z, ?_, hr⟩
                      rw [World.cell?_setCells_out]
                      · exact hz
                      · intro _ _
                        simp only
                        subst h3
                        rw [hsz, hlen]
                        omega
                  · cases e3
                · rename_i hne
                  obtain ⟨z, hz, hr⟩ := hlo.cell i' j cs' c e1 e2 e3 e4
                  refine ⟨z, ?_, hr⟩
                  rw [World.cell?_setCells_out]
                  · exact hz
                  · intro _ _
                    simp only
                    subst h3
                    rw [hsz, hlen]
                    apply Classical.byContradiction
                    intro hcon
                    have hk : ∃ q, q < xs.length ∧ (i' - L.lo) * esz + j = (i - L.lo) * esz + (o + q) := ⟨(i' - L.lo) * esz + j - ((i - L.lo) * esz + o), by omega, by omega⟩
                    obtain ⟨q, hq, heq⟩ := hk
                    have := (place_inj hj (by omega) heq).1
                    omega
        · cases h
      · cases h
    · cases h
  · cases h

/-- A new variable. -/
theorem newVar_ok (hw : WRel C w0 E H w) (hfree : H.blk H.next = none) {t : TypeId} {x : AV} {v : Value} (hx : x.isUndef = false) (hv : Rep C E x v) :
    ∃ E' ad w', (newVar t v).run P w = .ok ad w' ∧ E.le E' ∧ WRel C w0 E' (H.push (.row t x.cells.length [x.cells] 0 0)) w' ∧ Rep C E' (.ptr H.next 0 0 0) (.pointer (some ad)) := by
  have hcs := rep_cells hv hx
  have hlen : v.cells.size = x.cells.length := by have := hcs.length; simpa using this
  let L : Loc := ⟨w.heap.size, 0, 0, 1, x.cells.length, x.cells.length⟩
  have hnew := hw.newRow hfree (w' := w.alloc (.cells v.cells t)) (Chg.alloc w _ _) t x.cells.length [x.cells] L rfl (by simp) rfl rfl rfl (by simp) (by simp [L])
    (fun o ho => by
      simp only [L] at ho ⊢
      refine ⟨?_, World.frozen?_alloc_new _ _ _ _⟩
      rw [World.cell?_alloc_new, Array.getElem?_eq_getElem (by omega)]; rfl)
    (fun i j cs c hi h3 h4 => by
      have : i = 0 := by simpa using hi
      subst this
      simp at h3; subst h3
      obtain ⟨z, hz, hr⟩ := hcs.get j c h4
      refine ⟨z, ?_, hr⟩
      simp only [L]
      rw [World.cell?_alloc_new]
      simpa using hz)
  refine ⟨_, ⟨w.heap.size, 0, none⟩, _, by simp [newVar, newRow], hnew.1, hnew.2, ?_⟩
  exact .ptr _ 0 0 0 L 0 (Emb.set_same _ _ _ _) (by simp [L]) (by simp [L]) (by simp [L])

end
end Go.Ev
