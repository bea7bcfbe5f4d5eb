import Derived.Test.YtjjmdbhgmecpjaaGreatDoorEvB
set_option linter.unusedSimpArgs false
set_option linter.unusedVariables false
namespace Go.Ev
open Go.RowKit

theorem Heap.set_same (H : Heap) (b : Nat) (x : Blk) : (H.set b x).blk b = some x := by simp [Heap.set]
theorem Heap.set_other (H : Heap) (b : Nat) (x : Blk) {i : Nat} (h : i ≠ b) : (H.set b x).blk i = H.blk i := by simp [Heap.set, h]

theorem LocOk.append {C : Mem} {E : Emb} {w : World} {base : Nat} {L : Loc} {esz : Nat} {els : List (List AV)} (h : LocOk C E w base L esz els) (new : List (List AV)) : LocOk C E w base L esz (els ++ new) where
  sz := h.sz
  lo := h.lo
  ext := by have := h.ext; simp; omega
  base := h.base
  lt := h.lt
  room := h.room
  shape := h.shape
  cell := fun i j cs c h1 h2 h3 h4 => by
    refine h.cell i j cs c h1 h2 ?_ h4
    rw [List.getElem?_append_left (by have := h.ext; omega)] at h3
    exact h3

theorem Heap.set_ne {H : Heap} {b c : Nat} {x : Blk} (h : H.blk c ≠ none) : (H.set b x).blk c ≠ none := by
  by_cases hc : c = b
  · subst hc; rw [Heap.set_same]; simp
  · rw [Heap.set_other _ _ _ hc]; exact h

/-- Where the newest generation of a row lies. -/
theorem WRel.newest {C : Mem} {w0 : World} {E : Emb} {H : Heap} {w : World} (h : WRel C w0 E H w) {b : Nat} {ty esz : Nat} {els : List (List AV)} {gen wgen : Nat} (hb : H.blk b = some (.row ty esz els gen wgen)) :
    ∃ G, E.loc b gen = some G ∧ LocOk C E w w0.heap.size G esz els ∧ G.ext = els.length := by
  have hr := h.row _ _ _ _ _ _ hb
  obtain ⟨G, hG, hl⟩ := hr.loc gen hr.le (Nat.le_refl _)
  exact ⟨G, hG, hl, hr.last G hG⟩

theorem map_not_cells {w : World} {m : Nat} {es : Array MapEntry} {cl o : Nat} (h : w.heap[m]? = some (.map es cl)) : w.cell? ⟨m, o, none⟩ = none := by
  simp [World.cell?, h]

/-- What is left of the relation where only cells of one row's block turn: everything but that row. -/
theorem WRel.others {C : Mem} {w0 : World} {E E' : Emb} {H : Heap} {w w' : World} {S : Nat → Nat → Prop} (h : WRel C w0 E H w) (hc : Chg w w' S) (hE : E.le E') {b : Nat} {G : Loc} {g0 : Nat} (hG : E.loc b g0 = some G)
    (hbase : w0.heap.size ≤ G.blk) (hS : ∀ x o, S x o → x = G.blk ∧ (w.cell? ⟨x, o, none⟩).isSome = true) :
    Below w0.heap.size w0 w' ∧ (∀ x o v, C x o = some v → x < w'.heap.size ∧ w'.cell? ⟨x, o, none⟩ = some v) ∧
    (∀ c ty esz els gen wgen, c ≠ b → H.blk c = some (.row ty esz els gen wgen) → RowOk C E' w' w0.heap.size c esz els gen wgen) ∧
    (∀ c es cl, H.blk c = some (.map es cl) → ∃ m es', E'.mloc c = some m ∧ w0.heap.size ≤ m ∧ w'.heap[m]? = some (.map es' cl) ∧ RepK C E' es es'.toList) := by
  refine ⟨below_chg h.below hc (fun x o hs => by rw [(hS x o hs).1]; exact hbase), fun x o v hv => ?_, fun c ty esz els gen wgen hne hb => ?_, fun c es cl hb => ?_⟩
  · obtain ⟨h1, h2⟩ := h.mem x o v hv
    refine ⟨Nat.lt_of_lt_of_le h1 hc.size, ?_⟩
    rw [hc.cell x o h1 (fun hs => h.memsep b g0 G o v hG (by rw [← (hS x o hs).1]; exact hv))]
    exact h2
  · refine (h.row _ _ _ _ _ _ hb).chg hc hE (fun g L _ _ hL o _ _ hs => hne ?_)
    exact h.sep _ _ _ _ _ _ hL hG (hS _ _ hs).1
  · obtain ⟨m, es', h1, h2, h3, h4⟩ := h.map c es cl hb
    refine ⟨m, es', hE.2 _ _ h1, h2, ?_, h4.mono (Mem.le_refl _) hE⟩
    rw [hc.block m (h.mdom c m h1).2 (fun o hs => ?_)]
    · exact h3
    · have := (hS m o hs).2
      rw [map_not_cells h3] at this
      cases this

/-- A row's newest generation is written. -/
theorem WRel.write {C : Mem} {w0 : World} {E : Emb} {H : Heap} {w w' : World} {S : Nat → Nat → Prop} (h : WRel C w0 E H w) (hc : Chg w w' S) {b : Nat} {ty esz : Nat} {els els' : List (List AV)} {gen wgen : Nat} {G : Loc}
    (hb : H.blk b = some (.row ty esz els gen wgen)) (hG : E.loc b gen = some G) (hS : ∀ x o, S x o → x = G.blk ∧ (w.cell? ⟨x, o, none⟩).isSome = true)
    (hlen : els'.length = els.length) (hl : ∀ cs ∈ els', cs.length = esz)
    (hcell : ∀ i j cs c, G.lo ≤ i → i < G.ext → els'[i]? = some cs → cs[j]? = some c → ∃ v, w'.cell? ⟨G.blk, G.co + (i - G.lo) * esz + j, none⟩ = some v ∧ Rep C E c v) :
    WRel C w0 E (H.set b (.row ty esz els' gen gen)) w' := by
  obtain ⟨G', hG', hlo, hext⟩ := h.newest hb
  rw [hG] at hG'; cases hG'
  obtain ⟨o1, o2, o3, o4⟩ := h.others hc (Emb.le_refl E) hG hlo.base hS
  constructor
  · exact o1
  · exact o2
  · intro c g L hL
    obtain ⟨d1, d2, d3⟩ := h.dom c g L hL
    refine ⟨Heap.set_ne d1, Nat.lt_of_lt_of_le d2 hc.size, fun ty' esz' els'' gen' wgen' hb' => ?_⟩
    by_cases hcb : c = b
    · subst hcb
      rw [Heap.set_same] at hb'; cases hb'
      exact d3 _ _ _ _ _ hb
    · rw [Heap.set_other _ _ _ hcb] at hb'
      exact d3 _ _ _ _ _ hb'
  · exact fun c m hm => ⟨Heap.set_ne (h.mdom c m hm).1, Nat.lt_of_lt_of_le (h.mdom c m hm).2 hc.size⟩
  · intro c ty' esz' els'' gen' wgen' hb'
    by_cases hcb : c = b
    · subst hcb
      rw [Heap.set_same] at hb'; cases hb'
      refine ⟨hl, Nat.le_refl _, fun g h1 h2 => ?_, fun L hL => ?_, fun g L L' h1 h2 hL hL' _ => ?_⟩
      · obtain rfl : g = gen := by omega
        refine ⟨G, hG, hlo.sz, hlo.lo, by rw [hlen]; exact hlo.ext, hlo.base, Nat.lt_of_lt_of_le hlo.lt hc.size, hlo.room, fun o ho => ?_, hcell⟩
        exact ⟨hc.some _ _ hlo.lt (hlo.shape o ho).1, by rw [hc.frozen _ _ hlo.lt]; exact (hlo.shape o ho).2⟩
      · rw [hG] at hL; cases hL; rw [hlen]; exact hext
      · obtain rfl : g = gen := by omega
        rw [hL] at hL'; cases hL'; exact Nat.le_refl _
    · rw [Heap.set_other _ _ _ hcb] at hb'
      exact o3 _ _ _ _ _ _ hcb hb'
  · intro c es cl hb'
    by_cases hcb : c = b
    · subst hcb; rw [Heap.set_same] at hb'; cases hb'
    · rw [Heap.set_other _ _ _ hcb] at hb'
      exact o4 c es cl hb'
  · exact h.sep
  · exact h.msep
  · exact h.memsep

/-- A row grows at its end: in place, or in a block of its own. -/
theorem WRel.grow {C : Mem} {w0 : World} {E : Emb} {H : Heap} {w w' : World} {S : Nat → Nat → Prop} (h : WRel C w0 E H w) (hc : Chg w w' S) {b : Nat} {ty esz : Nat} {els new : List (List AV)} {gen wgen : Nat} {G L : Loc}
    (hb : H.blk b = some (.row ty esz els gen wgen)) (hG : E.loc b gen = some G)
    (hS : ∀ x o, S x o → x = G.blk ∧ (w.cell? ⟨x, o, none⟩).isSome = true ∧ G.co + (G.ext - G.lo) * esz ≤ o)
    (hnew : ∀ cs ∈ new, cs.length = esz)
    (hblk : (L.blk = G.blk ∧ G.co + (G.ext - G.lo) * esz ≤ L.co + (L.ext - L.lo) * esz) ∨ w.heap.size ≤ L.blk)
    (hL : LocOk C E w' w0.heap.size L esz (els ++ new)) (hext : L.ext = (els ++ new).length) :
    E.le (E.set b (gen + 1) L) ∧ WRel C w0 (E.set b (gen + 1) L) (H.set b (.row ty esz (els ++ new) (gen + 1) wgen)) w' := by
  obtain ⟨G', hG', hlo, hGext⟩ := h.newest hb
  rw [hG] at hG'; cases hG'
  have hrow := h.row _ _ _ _ _ _ hb
  have hnone : E.loc b (gen + 1) = none := by
    cases hx : E.loc b (gen + 1) with
    | none => rfl
    | some L' => have := (h.dom _ _ _ hx).2.2 _ _ _ _ _ hb; omega
  have hle := Emb.le_set (L := L) hnone
  refine ⟨hle, ?_⟩
  obtain ⟨o1, o2, o3, o4⟩ := h.others hc hle hG hlo.base (fun x o hs => ⟨(hS x o hs).1, (hS x o hs).2.1⟩)
  have hset : ∀ c g L', (E.set b (gen + 1) L).loc c g = some L' → (c = b ∧ g = gen + 1 ∧ L' = L) ∨ E.loc c g = some L' := fun c g L' hx => by
    simp only [Emb.set] at hx
    split at hx
    · rename_i hh; cases hx; exact .inl ⟨hh.1, hh.2, rfl⟩
    · exact .inr hx
  have hb0 := (h.dom b gen G hG).1
  constructor
  · exact o1
  · exact o2
  · intro c g L' hx
    rcases hset c g L' hx with ⟨rfl, rfl, rfl⟩ | hx
    · refine ⟨Heap.set_ne hb0, hL.lt, fun ty' esz' els'' gen' wgen' hb' => ?_⟩
      rw [Heap.set_same] at hb'; cases hb'
      exact Nat.le_refl _
    · obtain ⟨d1, d2, d3⟩ := h.dom c g L' hx
      refine ⟨Heap.set_ne d1, Nat.lt_of_lt_of_le d2 hc.size, fun ty' esz' els'' gen' wgen' hb' => ?_⟩
      by_cases hcb : c = b
      · subst hcb
        rw [Heap.set_same] at hb'; cases hb'
        have := d3 _ _ _ _ _ hb
        omega
      · rw [Heap.set_other _ _ _ hcb] at hb'
        exact d3 _ _ _ _ _ hb'
  · exact fun c m hm => ⟨Heap.set_ne (h.mdom c m hm).1, Nat.lt_of_lt_of_le (h.mdom c m hm).2 hc.size⟩
  · intro c ty' esz' els'' gen' wgen' hb'
    by_cases hcb : c = b
    · subst hcb
      rw [Heap.set_same] at hb'; cases hb'
      have hold : ∀ g, wgen ≤ g → g ≤ gen → ∃ L', E.loc c g = some L' ∧ LocOk C (E.set c (gen + 1) L) w' w0.heap.size L' esz (els ++ new) := fun g h1 h2 => by
        obtain ⟨L', hL', hl'⟩ := hrow.loc g h1 h2
        refine ⟨L', hL', (hl'.chg hc hle (fun o ho1 ho2 hs => ?_) hrow.len).append new⟩
        have hs' := hS _ _ hs
        have := hrow.ends g L' G h1 h2 hL' hG hs'.1
        omega
      refine ⟨fun cs hcs => ?_, by have := hrow.le; omega, fun g h1 h2 => ?_, fun L' hL' => ?_, fun g L1 L2 h1 h2 hL1 hL2 h12 => ?_⟩
      · rcases List.mem_append.1 hcs with hcs | hcs
        · exact hrow.len cs hcs
        · exact hnew cs hcs
      · by_cases hg : g = gen + 1
        · subst hg
          exact ⟨L, Emb.set_same _ _ _ _, hL.chg (Chg.refl w' (fun _ _ => False)) hle (fun _ _ _ hf => hf) (fun cs hcs => by
            rcases List.mem_append.1 hcs with hcs | hcs
            · exact hrow.len cs hcs
            · exact hnew cs hcs)⟩
        · obtain ⟨L', hL', hl'⟩ := hold g h1 (by omega)
          exact ⟨L', hle.1 _ _ _ hL', hl'⟩
      · rw [Emb.set_same] at hL'; cases hL'; exact hext
      · rw [Emb.set_same] at hL2; cases hL2
        by_cases hg : g = gen + 1
        · subst hg; rw [Emb.set_same] at hL1; cases hL1; exact Nat.le_refl _
        · rcases hset _ _ _ hL1 with ⟨_, hh, _⟩ | hL1'
          · exact absurd hh hg
          · rcases hblk with ⟨e1, e2⟩ | hge
            · have := hrow.ends g L1 G h1 (by omega) hL1' hG (by rw [h12, e1])
              omega
            · have := (h.dom _ _ _ hL1').2.1
              omega
    · rw [Heap.set_other _ _ _ hcb] at hb'
      exact o3 _ _ _ _ _ _ hcb hb'
  · intro c es cl hb'
    by_cases hcb : c = b
    · subst hcb; rw [Heap.set_same] at hb'; cases hb'
    · rw [Heap.set_other _ _ _ hcb] at hb'
      exact o4 c es cl hb'
  · intro c g L1 c' g' L2 hx hy hxy
    rcases hset c g L1 hx with ⟨rfl, rfl, rfl⟩ | hx' <;> rcases hset c' g' L2 hy with ⟨rfl, rfl, rfl⟩ | hy'
    · rfl
    · rcases hblk with ⟨e1, _⟩ | hge
      · exact h.sep _ _ _ _ _ _ hG hy' (by rw [← e1, hxy])
      · have := (h.dom _ _ _ hy').2.1; omega
    · rcases hblk with ⟨e1, _⟩ | hge
      · exact h.sep _ _ _ _ _ _ hx' hG (by rw [hxy, e1])
      · have := (h.dom _ _ _ hx').2.1; omega
    · exact h.sep _ _ _ _ _ _ hx' hy' hxy
  · exact h.msep
  · intro c g L' o v hx hv
    rcases hset c g L' hx with ⟨rfl, rfl, rfl⟩ | hx
    · rcases hblk with ⟨e1, _⟩ | hge
      · exact h.memsep _ _ _ _ _ hG (e1 ▸ hv)
      · have := (h.mem _ _ _ hv).1; omega
    · exact h.memsep _ _ _ _ _ hx hv

/-! ### Reading -/

/-- These values, in these cells. -/
theorem choose_cells {C : Mem} {E : Emb} {w : World} {blk : Nat} : ∀ (as : List AV) (off : Nat), (∀ j c, as[j]? = some c → ∃ v, w.cell? ⟨blk, off + j, none⟩ = some v ∧ Rep C E c v) →
    ∃ vs, RepL C E as vs ∧ ∀ j v, vs[j]? = some v → w.cell? ⟨blk, off + j, none⟩ = some v
  | [], _, _ => ⟨[], .nil, fun j v h => by simp at h⟩
  | a :: as, off, h => by
    obtain ⟨v, hv, hr⟩ := h 0 a (by simp)
    obtain ⟨vs, h1, h2⟩ := choose_cells as (off + 1) (fun j c hj => by
      obtain ⟨u, hu, hr⟩ := h (j + 1) c (by simpa using hj)
      exact ⟨u, by rw [show off + 1 + j = off + (j + 1) by omega]; exact hu, hr⟩)
    refine ⟨v :: vs, .cons a v as vs hr h1, fun j u hj => ?_⟩
    cases j with
    | zero => simp at hj; subst hj; exact hv
    | succ j => rw [show off + (j + 1) = off + 1 + j by omega]; exact h2 j u (by simpa using hj)

theorem RepL.length {C : Mem} {E : Emb} : ∀ {as : List AV} {vs : List Value}, RepL C E as vs → vs.length = as.length
  | _, _, .nil => rfl
  | _, _, .cons _ _ _ _ _ h => by simp [RepL.length h]

theorem RepL.get {C : Mem} {E : Emb} : ∀ {as : List AV} {vs : List Value}, RepL C E as vs → ∀ (j : Nat) (a : AV), as[j]? = some a → ∃ v, vs[j]? = some v ∧ Rep C E a v
  | _, _, .nil, j, a, h => by simp at h
  | _, _, .cons b v as vs h h', 0, a, e => by simp at e; subst e; exact ⟨v, rfl, h⟩
  | _, _, .cons b v as vs h h', j + 1, a, e => by simpa using RepL.get h' j a (by simpa using e)

theorem RepL.of_get {C : Mem} {E : Emb} : ∀ {as : List AV} {vs : List Value}, vs.length = as.length → (∀ (j : Nat) a v, as[j]? = some a → vs[j]? = some v → Rep C E a v) → RepL C E as vs
  | [], [], _, _ => .nil
  | a :: as, v :: vs, hl, h => .cons a v as vs (h 0 a v rfl rfl) (RepL.of_get (by simpa using hl) (fun j x y hx hy => h (j + 1) x y (by simpa using hx) (by simpa using hy)))

theorem RepM.get {C : Mem} {E : Emb} : ∀ {blk co : Nat} {as : List AV}, RepM C E blk co as → ∀ (j : Nat) (a : AV), as[j]? = some a → ∃ v, C blk (co + j) = some v ∧ Rep C E a v
  | _, _, _, .nil _ _, j, a, h => by simp at h
  | _, _, _, .cons blk co b as v hv h h', 0, a, e => by simp at e; subst e; exact ⟨v, hv, h⟩
  | _, _, _, .cons blk co b as v hv h h', j + 1, a, e => by
    obtain ⟨u, hu, hr⟩ := RepM.get h' j a (by simpa using e)
    exact ⟨u, by rw [show co + (j + 1) = co + 1 + j by omega]; exact hu, hr⟩

theorem RepE.get {C : Mem} {E : Emb} : ∀ {blk co sz : Nat} {es : List (List AV)}, RepE C E blk co sz es → ∀ (i : Nat) (cs : List AV), es[i]? = some cs → cs.length = sz ∧ RepM C E blk (co + i * sz) cs
  | _, _, _, _, .nil _ _ _, i, cs, h => by simp at h
  | _, _, _, _, .cons blk co sz c es hl h h', 0, cs, e => by simp at e; subst e; exact ⟨hl, by simpa using h⟩
  | _, _, _, _, .cons blk co sz c es hl h h', i + 1, cs, e => by
    obtain ⟨h1, h2⟩ := RepE.get h' i cs (by simpa using e)
    refine ⟨h1, ?_⟩
    rw [show co + (i + 1) * sz = co + sz + i * sz by rw [Nat.add_mul]; omega]
    exact h2

end Go.Ev
