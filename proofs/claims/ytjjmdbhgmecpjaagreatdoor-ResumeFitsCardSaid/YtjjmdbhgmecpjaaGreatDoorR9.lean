import Derived.Test.YtjjmdbhgmecpjaaGreatDoorR8
set_option linter.unusedVariables false
set_option linter.unusedSimpArgs false
set_option maxRecDepth 100000
namespace Go.Proofs.T
open Go.Ev

/-! ### From readings to cells -/
section
variable {P : Program}

theorem shp_bool {n : Nat} {t : TypeId} {xs : List AV} (hu : P.underlying t = some .bool) (h : Shp P n t xs) : ∃ b, xs = [.bool b] := by
  cases n with
  | zero => exact h.elim
  | succ n => simpa [Shp, hu] using h
theorem shp_int {n : Nat} {t : TypeId} {k : IntKind} {xs : List AV} (hu : P.underlying t = some (.int k)) (h : Shp P n t xs) : ∃ x, xs = [.int k x] ∧ k.min ≤ x ∧ x ≤ k.max := by
  cases n with
  | zero => exact h.elim
  | succ n => simpa [Shp, hu] using h
theorem shp_str {n : Nat} {t : TypeId} {xs : List AV} (hu : P.underlying t = some .string) (h : Shp P n t xs) : ∃ s, xs = [.str s] := by
  cases n with
  | zero => exact h.elim
  | succ n => simp [Shp, hu] at h; obtain ⟨l, h1, _⟩ := h; exact ⟨l, h1⟩
theorem shp_slice {n : Nat} {t e : TypeId} {c b : Nat} {xs : List AV} (hu : P.underlying t = some (.slice e)) (hc : P.cellsOf e = c) (hb : P.bytesOf e = b) (hc0 : 0 < c) (h : Shp P n t xs) :
    ∃ m v L, xs = [v] ∧ (∀ H, Holds H c v L) ∧ L.length * b ≤ reachBytes ∧ (∀ x ∈ L, Shp P m e x) ∧ n = m + 1 ∧ AV.isCell v = true := by
  cases n with
  | zero => exact h.elim
  | succ n =>
    simp only [Shp, hu, hc, hb] at h
    rcases h with h | ⟨h, _⟩ | ⟨es, h1, h2, h3⟩
    · exact ⟨n, .nilslice, [], h, fun H => Holds.nil, by simp, by simp, rfl, rfl⟩
    · omega
    · exact ⟨n, .lst c es, es, h1, fun H => Holds.lst fun x hx => (h3 x hx).1, h2, fun x hx => (h3 x hx).2, rfl, rfl⟩
theorem shp_struct {n : Nat} {t : TypeId} {fs : Array Field} {c : Nat} {xs : List AV} (hu : P.underlying t = some (.struct fs)) (hc : P.cellsOf t = c) (h : Shp P n t xs) :
    ∃ m, n = m + 1 ∧ xs.length = c ∧ ∀ f ∈ fs.toList, Shp P m f.type ((xs.drop f.offset).take (P.cellsOf f.type)) := by
  cases n with
  | zero => exact h.elim
  | succ n =>
    simp only [Shp, hu, hc] at h
    exact ⟨n, rfl, h.1, h.2⟩

theorem contig_all {tot : Nat} {xs : List AV} (hl : xs.length = tot) : ∀ (fs : List Field) (off : Nat), contig P fs off tot = true → (∀ f ∈ fs, ((xs.drop f.offset).take (P.cellsOf f.type)).all AV.isCell = true) → (xs.drop off).all AV.isCell = true
  | [], off, h, _ => by
    simp only [contig, beq_iff_eq] at h
    rw [List.drop_eq_nil_of_le (by omega)]; rfl
  | f :: fs, off, h, hc => by
    simp only [contig, Bool.and_eq_true, beq_iff_eq] at h
    obtain ⟨h1, h2⟩ := h
    have e : xs.drop off = (xs.drop off).take (P.cellsOf f.type) ++ xs.drop (off + P.cellsOf f.type) := by
      rw [← List.drop_drop, List.take_append_drop]
    rw [e, List.all_append, contig_all hl fs _ h2 (fun g hg => hc g (List.mem_cons_of_mem _ hg)), Bool.and_true]
    have := hc f List.mem_cons_self
    rw [h1] at this; exact this

/-- Types whose cells are all told. -/
def okT (P : Program) : Nat → TypeId → Bool
  | 0, _ => false
  | n + 1, t =>
    match P.underlying t with
    | some .bool | some (.int _) | some .string => true
    | some (.slice e) => decide (0 < P.cellsOf e)
    | some (.struct fs) => contig P fs.toList 0 (P.cellsOf t) && fs.toList.all fun f => okT P n f.type
    | _ => false

theorem shp_cells : ∀ (d : Nat) {n : Nat} {t : TypeId} {xs : List AV}, okT P d t = true → Shp P n t xs → xs.all AV.isCell = true
  | 0, n, t, xs, h, _ => by simp [okT] at h
  | d + 1, n, t, xs, h, hs => by
    simp only [okT] at h
    split at h
    · rename_i hu; obtain ⟨b, rfl⟩ := shp_bool hu hs; rfl
    · rename_i hu; obtain ⟨b, rfl, _⟩ := shp_int hu hs; rfl
    · rename_i hu; obtain ⟨b, rfl⟩ := shp_str hu hs; rfl
    · rename_i e hu
      obtain ⟨m, v, L, rfl, _, _, _, _, hv⟩ := shp_slice hu rfl rfl (by simpa using h) hs
      simp [hv]
    · rename_i fs hu
      simp only [Bool.and_eq_true, List.all_eq_true] at h
      obtain ⟨m, rfl, hl, hf⟩ := shp_struct hu rfl hs
      have := contig_all hl fs.toList 0 h.1 (fun f hf' => shp_cells d (h.2 f hf') (hf f hf'))
      simpa using this
    · cases h

theorem cell_of_take {cs : List AV} {i : Nat} {a : AV} (h : (cs.drop i).take 1 = [a]) : cs[i]? = some a := by
  have := congrArg (·[0]?) h
  simpa [List.getElem?_take] using this
end

theorem cells3 : Tryz.prog.cellsOf 3 = 1 := by kernel_rfl
theorem cells9 : Tryz.prog.cellsOf 9 = 1 := by kernel_rfl
theorem cells26 : Tryz.prog.cellsOf 26 = 1 := by kernel_rfl
theorem cells40 : Tryz.prog.cellsOf 40 = 1 := by kernel_rfl
theorem cells42 : Tryz.prog.cellsOf 42 = 5 := by kernel_rfl
theorem cells44 : Tryz.prog.cellsOf 44 = 10 := by kernel_rfl
theorem cells46 : Tryz.prog.cellsOf 46 = 24 := by kernel_rfl
theorem bytes9 : Tryz.prog.bytesOf 9 = 16 := by kernel_rfl
theorem bytes42 : Tryz.prog.bytesOf 42 = 80 := by kernel_rfl
theorem bytes46 : Tryz.prog.bytesOf 46 = 272 := by kernel_rfl
theorem lay_all (t : TypeId) (h : t < Tryz.prog.types.size) : layB Tryz.prog t = true ∧ kidB Tryz.prog Tryz.prog.types.size t = true := by
  have : (List.range Tryz.prog.types.size).all (fun t => layB Tryz.prog t && kidB Tryz.prog Tryz.prog.types.size t) = true := by kernel_rfl
  have := List.all_eq_true.1 this t (by simpa using h)
  simpa using this
theorem und46 : Tryz.prog.underlying 46 = some (.struct #[{ name := "ID", type := 3, offset := 0, embedded := false, tag := "", pkgPath := "", byteOffset := 0 },
 { name := "Kind", type := 3, offset := 1, embedded := false, tag := "", pkgPath := "", byteOffset := 8 },
 { name := "Time", type := 3, offset := 2, embedded := false, tag := "", pkgPath := "", byteOffset := 16 },
 { name := "Seq", type := 3, offset := 3, embedded := false, tag := "", pkgPath := "", byteOffset := 24 },
 { name := "Ref", type := 3, offset := 4, embedded := false, tag := "", pkgPath := "", byteOffset := 32 },
 { name := "N", type := 3, offset := 5, embedded := false, tag := "", pkgPath := "", byteOffset := 40 },
 { name := "Code", type := 3, offset := 6, embedded := false, tag := "", pkgPath := "", byteOffset := 48 },
 { name := "Name", type := 9, offset := 7, embedded := false, tag := "", pkgPath := "", byteOffset := 56 },
 { name := "Key", type := 9, offset := 8, embedded := false, tag := "", pkgPath := "", byteOffset := 72 },
 { name := "Data", type := 42, offset := 9, embedded := false, tag := "", pkgPath := "", byteOffset := 88 },
 { name := "Opts", type := 44, offset := 14, embedded := false, tag := "", pkgPath := "", byteOffset := 168 }]) := by kernel_rfl
theorem und42 : Tryz.prog.underlying 42 = some (.struct #[{ name := "Kind", type := 3, offset := 0, embedded := false, tag := "", pkgPath := "", byteOffset := 0 },
 { name := "Int", type := 3, offset := 1, embedded := false, tag := "", pkgPath := "", byteOffset := 8 },
 { name := "Text", type := 9, offset := 2, embedded := false, tag := "", pkgPath := "", byteOffset := 16 },
 { name := "Items", type := 26, offset := 3, embedded := false, tag := "", pkgPath := "", byteOffset := 32 },
 { name := "Keys", type := 40, offset := 4, embedded := false, tag := "", pkgPath := "", byteOffset := 56 }]) := by kernel_rfl
theorem und44 : Tryz.prog.underlying 44 = some (.struct #[{ name := "Queue", type := 9, offset := 0, embedded := false, tag := "", pkgPath := "", byteOffset := 0 },
 { name := "ToStart", type := 3, offset := 1, embedded := false, tag := "", pkgPath := "", byteOffset := 16 },
 { name := "ToClose", type := 3, offset := 2, embedded := false, tag := "", pkgPath := "", byteOffset := 24 },
 { name := "Total", type := 3, offset := 3, embedded := false, tag := "", pkgPath := "", byteOffset := 32 },
 { name := "Beat", type := 3, offset := 4, embedded := false, tag := "", pkgPath := "", byteOffset := 40 },
 { name := "First", type := 3, offset := 5, embedded := false, tag := "", pkgPath := "", byteOffset := 48 },
 { name := "Coef", type := 3, offset := 6, embedded := false, tag := "", pkgPath := "", byteOffset := 56 },
 { name := "Most", type := 3, offset := 7, embedded := false, tag := "", pkgPath := "", byteOffset := 64 },
 { name := "Attempts", type := 3, offset := 8, embedded := false, tag := "", pkgPath := "", byteOffset := 72 },
 { name := "Fatal", type := 40, offset := 9, embedded := false, tag := "", pkgPath := "", byteOffset := 80 }]) := by kernel_rfl
theorem tw24 {α : Type} {l : List α} (h : l.length = 24) : ∃ x0 x1 x2 x3 x4 x5 x6 x7 x8 x9 x10 x11 x12 x13 x14 x15 x16 x17 x18 x19 x20 x21 x22 x23, l = [x0, x1, x2, x3, x4, x5, x6, x7, x8, x9, x10, x11, x12, x13, x14, x15, x16, x17, x18, x19, x20, x21, x22, x23] := by
  match l, h with
  | [x0, x1, x2, x3, x4, x5, x6, x7, x8, x9, x10, x11, x12, x13, x14, x15, x16, x17, x18, x19, x20, x21, x22, x23], _ => exact ⟨x0, x1, x2, x3, x4, x5, x6, x7, x8, x9, x10, x11, x12, x13, x14, x15, x16, x17, x18, x19, x20, x21, x22, x23, rfl⟩
theorem vt_succ : ∀ (n : Nat) {cs : List AV}, VT n cs → VT (n + 1) cs
  | 0, cs, h => h.elim
  | n + 1, cs, ⟨k, i, s, v, w, L, M, e, h1, h2, h3, h4⟩ => ⟨k, i, s, v, w, L, M, e, h1, h2, fun c hc => vt_succ n (h3 c hc), h4⟩
theorem strs_of {m : Nat} {L : List (List AV)} (h : ∀ x ∈ L, Shp Tryz.prog m 9 x) : StrL L := fun c hc => shp_str und9 (h c hc)
theorem vt_of : ∀ (n : Nat) (cs : List AV), Shp Tryz.prog n 42 cs → VT n cs := by
  intro n
  induction n using Nat.strongRecOn with
  | _ n ih =>
    intro cs h
    obtain ⟨m, rfl, hl, hf⟩ := shp_struct und42 cells42 h
    have f0 := hf _ (List.mem_of_getElem? (i := 0) rfl)
    have f1 := hf _ (List.mem_of_getElem? (i := 1) rfl)
    have f2 := hf _ (List.mem_of_getElem? (i := 2) rfl)
    have f3 := hf _ (List.mem_of_getElem? (i := 3) rfl)
    have f4 := hf _ (List.mem_of_getElem? (i := 4) rfl)
    simp only [cells3, cells9, cells26, cells40] at f0 f1 f2 f3 f4
    obtain ⟨x0, h0, _⟩ := shp_int und3 f0
    obtain ⟨x1, h1, _⟩ := shp_int und3 f1
    obtain ⟨s, h2⟩ := shp_str und9 f2
    obtain ⟨m3, v3, L3, a3, b3, c3, d3, e3, _⟩ := shp_slice und26 cells42 bytes42 (by decide) f3
    obtain ⟨m4, v4, L4, a4, b4, c4, d4, e4, _⟩ := shp_slice und40 cells9 bytes9 (by decide) f4
    obtain ⟨y0, y1, y2, y3, y4, rfl⟩ := five hl
    simp at h0 h1 h2 a3 a4
    subst h0 h1 h2 a3 a4
    subst e3
    refine ⟨x0, x1, s, y3, y4, L3, L4, rfl, b3, ?_, fun c hc => vt_succ _ (ih m3 (by omega) c (d3 c hc)), b4, ?_, strs_of d4⟩
    · simp only [reachBytes] at c3; omega
    · simp only [reachBytes] at c4; omega
theorem pt_of {n : Nat} {cs : List AV} (h : Shp Tryz.prog n 44 cs) : PT cs := by
  obtain ⟨m, rfl, hl, hf⟩ := shp_struct und44 cells44 h
  have f0 := hf _ (List.mem_of_getElem? (i := 0) rfl)
  have f1 := hf _ (List.mem_of_getElem? (i := 1) rfl)
  have f2 := hf _ (List.mem_of_getElem? (i := 2) rfl)
  have f3 := hf _ (List.mem_of_getElem? (i := 3) rfl)
  have f4 := hf _ (List.mem_of_getElem? (i := 4) rfl)
  have f5 := hf _ (List.mem_of_getElem? (i := 5) rfl)
  have f6 := hf _ (List.mem_of_getElem? (i := 6) rfl)
  have f7 := hf _ (List.mem_of_getElem? (i := 7) rfl)
  have f8 := hf _ (List.mem_of_getElem? (i := 8) rfl)
  have f9 := hf _ (List.mem_of_getElem? (i := 9) rfl)
  simp only [cells3, cells9, cells40] at f0 f1 f2 f3 f4 f5 f6 f7 f8 f9
  obtain ⟨s0, h0⟩ := shp_str und9 f0
  obtain ⟨i1, h1, _⟩ := shp_int und3 f1
  obtain ⟨i2, h2, _⟩ := shp_int und3 f2
  obtain ⟨i3, h3, _⟩ := shp_int und3 f3
  obtain ⟨i4, h4, _⟩ := shp_int und3 f4
  obtain ⟨i5, h5, _⟩ := shp_int und3 f5
  obtain ⟨i6, h6, _⟩ := shp_int und3 f6
  obtain ⟨i7, h7, _⟩ := shp_int und3 f7
  obtain ⟨i8, h8, _⟩ := shp_int und3 f8
  obtain ⟨m9, w, M, a, b, c, d, _, _⟩ := shp_slice und40 cells9 bytes9 (by decide) f9
  obtain ⟨y0, y1, y2, y3, y4, y5, y6, y7, y8, y9, rfl⟩ := ten hl
  simp at h0 h1 h2 h3 h4 h5 h6 h7 h8 a
  subst h0 h1 h2 h3 h4 h5 h6 h7 h8 a
  refine ⟨s0, i1, i2, i3, i4, i5, i6, i7, i8, y9, M, rfl, b, ?_, strs_of d⟩
  simp only [reachBytes] at c; omega
theorem evt_of {n : Nat} {cs : List AV} (h : Shp Tryz.prog n 46 cs) : EvT cs := by
  obtain ⟨m, rfl, hl, hf⟩ := shp_struct und46 cells46 h
  have f0 := hf _ (List.mem_of_getElem? (i := 0) rfl)
  have f1 := hf _ (List.mem_of_getElem? (i := 1) rfl)
  have f2 := hf _ (List.mem_of_getElem? (i := 2) rfl)
  have f3 := hf _ (List.mem_of_getElem? (i := 3) rfl)
  have f4 := hf _ (List.mem_of_getElem? (i := 4) rfl)
  have f5 := hf _ (List.mem_of_getElem? (i := 5) rfl)
  have f6 := hf _ (List.mem_of_getElem? (i := 6) rfl)
  have f7 := hf _ (List.mem_of_getElem? (i := 7) rfl)
  have f8 := hf _ (List.mem_of_getElem? (i := 8) rfl)
  have f9 := hf _ (List.mem_of_getElem? (i := 9) rfl)
  have f10 := hf _ (List.mem_of_getElem? (i := 10) rfl)
  simp only [cells3, cells9, cells42, cells44] at f0 f1 f2 f3 f4 f5 f6 f7 f8 f9 f10
  obtain ⟨i0, h0, _⟩ := shp_int und3 f0
  obtain ⟨i1, h1, _⟩ := shp_int und3 f1
  obtain ⟨i2, h2, _⟩ := shp_int und3 f2
  obtain ⟨i3, h3, _⟩ := shp_int und3 f3
  obtain ⟨i4, h4, _⟩ := shp_int und3 f4
  obtain ⟨i5, h5, _⟩ := shp_int und3 f5
  obtain ⟨i6, h6, _⟩ := shp_int und3 f6
  obtain ⟨s7, h7⟩ := shp_str und9 f7
  obtain ⟨s8, h8⟩ := shp_str und9 f8
  have hd := vt_of _ _ f9
  have ho := pt_of f10
  obtain ⟨x0, x1, x2, x3, x4, x5, x6, x7, x8, x9, x10, x11, x12, x13, x14, x15, x16, x17, x18, x19, x20, x21, x22, x23, rfl⟩ := tw24 hl
  simp at h0 h1 h2 h3 h4 h5 h6 h7 h8
  subst h0 h1 h2 h3 h4 h5 h6 h7 h8
  exact ⟨i0, i1, i2, i3, i4, i5, i6, s7, s8, _, _, m, rfl, hd, ho⟩
end Go.Proofs.T
