import Derived.Test.YtakelljpblahbaaS13
set_option linter.unusedVariables false
set_option linter.unusedSimpArgs false
set_option maxRecDepth 100000
namespace Go.Proofs.T
open Go.Ev

/-! ### From readings to cells -/
section
variable {P : Program}

theorem shp_bool {n : Nat} {t : TypeId} {xs : List AV} (hu : P.underlying t = some .bool) (h : Shp P n t xs) : ∃ b, xs = [.bool b] := by
  cases n with
  | zero => exact h.elim
  | succ n => simpa [Shp, hu] using h
theorem shp_int {n : Nat} {t : TypeId} {k : IntKind} {xs : List AV} (hu : P.underlying t = some (.int k)) (h : Shp P n t xs) : ∃ x, xs = [.int k x] ∧ k.min ≤ x ∧ x ≤ k.max := by
  cases n with
  | zero => exact h.elim
  | succ n => simpa [Shp, hu] using h
theorem shp_str {n : Nat} {t : TypeId} {xs : List AV} (hu : P.underlying t = some .string) (h : Shp P n t xs) : ∃ s, xs = [.str s] := by
  cases n with
  | zero => exact h.elim
  | succ n => simp [Shp, hu] at h; obtain ⟨l, h1, _⟩ := h; exact ⟨l, h1⟩
theorem shp_slice {n : Nat} {t e : TypeId} {c b : Nat} {xs : List AV} (hu : P.underlying t = some (.slice e)) (hc : P.cellsOf e = c) (hb : P.bytesOf e = b) (hc0 : 0 < c) (h : Shp P n t xs) :
    ∃ m v L, xs = [v] ∧ (∀ H, Holds H c v L) ∧ L.length * b ≤ reachBytes ∧ (∀ x ∈ L, Shp P m e x) ∧ n = m + 1 ∧ AV.isCell v = true := by
  cases n with
  | zero => exact h.elim
  | succ n =>
    simp only [Shp, hu, hc, hb] at h
    rcases h with h | ⟨h, _⟩ | ⟨es, h1, h2, h3⟩
    · exact ⟨n, .nilslice, [], h, fun H => Holds.nil, by simp, by simp, rfl, rfl⟩
    · omega
    · exact ⟨n, .lst c es, es, h1, fun H => Holds.lst fun x hx => (h3 x hx).1, h2, fun x hx => (h3 x hx).2, rfl, rfl⟩
theorem shp_struct {n : Nat} {t : TypeId} {fs : Array Field} {c : Nat} {xs : List AV} (hu : P.underlying t = some (.struct fs)) (hc : P.cellsOf t = c) (h : Shp P n t xs) :
    ∃ m, n = m + 1 ∧ xs.length = c ∧ ∀ f ∈ fs.toList, Shp P m f.type ((xs.drop f.offset).take (P.cellsOf f.type)) := by
  cases n with
  | zero => exact h.elim
  | succ n =>
    simp only [Shp, hu, hc] at h
    exact ⟨n, rfl, h.1, h.2⟩

theorem contig_all {tot : Nat} {xs : List AV} (hl : xs.length = tot) : ∀ (fs : List Field) (off : Nat), contig P fs off tot = true → (∀ f ∈ fs, ((xs.drop f.offset).take (P.cellsOf f.type)).all AV.isCell = true) → (xs.drop off).all AV.isCell = true
  | [], off, h, _ => by
    simp only [contig, beq_iff_eq] at h
    rw [List.drop_eq_nil_of_le (by omega)]; rfl
  | f :: fs, off, h, hc => by
    simp only [contig, Bool.and_eq_true, beq_iff_eq] at h
    obtain ⟨h1, h2⟩ := h
    have e : xs.drop off = (xs.drop off).take (P.cellsOf f.type) ++ xs.drop (off + P.cellsOf f.type) := by
      rw [← List.drop_drop, List.take_append_drop]
    rw [e, List.all_append, contig_all hl fs _ h2 (fun g hg => hc g (List.mem_cons_of_mem _ hg)), Bool.and_true]
    have := hc f List.mem_cons_self
    rw [h1] at this; exact this

/-- Types whose cells are all told. -/
def okT (P : Program) : Nat → TypeId → Bool
  | 0, _ => false
  | n + 1, t =>
    match P.underlying t with
    | some .bool | some (.int _) | some .string => true
    | some (.slice e) => decide (0 < P.cellsOf e)
    | some (.struct fs) => contig P fs.toList 0 (P.cellsOf t) && fs.toList.all fun f => okT P n f.type
    | _ => false

theorem shp_cells : ∀ (d : Nat) {n : Nat} {t : TypeId} {xs : List AV}, okT P d t = true → Shp P n t xs → xs.all AV.isCell = true
  | 0, n, t, xs, h, _ => by simp [okT] at h
  | d + 1, n, t, xs, h, hs => by
    simp only [okT] at h
    split at h
    · rename_i hu; obtain ⟨b, rfl⟩ := shp_bool hu hs; rfl
    · rename_i hu; obtain ⟨b, rfl, _⟩ := shp_int hu hs; rfl
    · rename_i hu; obtain ⟨b, rfl⟩ := shp_str hu hs; rfl
    · rename_i e hu
      obtain ⟨m, v, L, rfl, _, _, _, _, hv⟩ := shp_slice hu rfl rfl (by simpa using h) hs
      simp [hv]
    · rename_i fs hu
      simp only [Bool.and_eq_true, List.all_eq_true] at h
      obtain ⟨m, rfl, hl, hf⟩ := shp_struct hu rfl hs
      have := contig_all hl fs.toList 0 h.1 (fun f hf' => shp_cells d (h.2 f hf') (hf f hf'))
      simpa using this
    · cases h

theorem cell_of_take {cs : List AV} {i : Nat} {a : AV} (h : (cs.drop i).take 1 = [a]) : cs[i]? = some a := by
  have := congrArg (·[0]?) h
  simpa [List.getElem?_take] using this
end

theorem lay_all (t : TypeId) (h : t < Try.prog.types.size) : layB Try.prog t = true ∧ kidB Try.prog Try.prog.types.size t = true := by
  have : (List.range Try.prog.types.size).all (fun t => layB Try.prog t && kidB Try.prog Try.prog.types.size t) = true := by kernel_rfl
  have := List.all_eq_true.1 this t (by simpa using h)
  simpa using this

/-- A field of a struct type: its offset and its type. -/
def fieldAt (P : Program) (t i : Nat) : Option (Nat × Nat) :=
  match P.underlying t with
  | some (.struct fs) => (fs.toList[i]?).map fun f => (f.offset, f.type)
  | _ => none

theorem shp_at {P : Program} {n t : Nat} {cs : List AV} (i : Nat) {off ty c : Nat} (hf : fieldAt P t i = some (off, ty)) (hc : P.cellsOf ty = c) (h : Shp P n t cs) : ∃ m, n = m + 1 ∧ Shp P m ty ((cs.drop off).take c) := by
  unfold fieldAt at hf
  split at hf
  · rename_i fs hu
    obtain ⟨m, rfl, hl, hs⟩ := shp_struct hu rfl h
    simp only [Option.map_eq_some_iff] at hf
    obtain ⟨f, hf, he⟩ := hf
    have := hs f (List.mem_of_getElem? hf)
    simp only [Prod.mk.injEq] at he
    obtain ⟨rfl, rfl⟩ := he
    exact ⟨m, rfl, hc ▸ this⟩
  · cases hf

theorem shp_len {P : Program} {n t : Nat} {cs : List AV} {i : Nat} {p : Nat × Nat} {c : Nat} (hf : fieldAt P t i = some p) (hc : P.cellsOf t = c) (h : Shp P n t cs) : cs.length = c := by
  unfold fieldAt at hf
  split at hf
  · rename_i fs hu
    obtain ⟨m, rfl, hl, hs⟩ := shp_struct hu hc h
    exact hl
  · cases hf


theorem cells3 : Try.prog.cellsOf 3 = 1 := by kernel_rfl
theorem cells9 : Try.prog.cellsOf 9 = 1 := by kernel_rfl
theorem cells49 : Try.prog.cellsOf 49 = 3 := by kernel_rfl
theorem bytes49 : Try.prog.bytesOf 49 = 32 := by kernel_rfl

theorem act_of {n : Nat} {cs : List AV} (h : Shp Try.prog n 49 cs) : ∃ kd key m, cs = [.int .i64 kd, .str key, .int .i64 m] := by
  have hl := shp_len (i := 0) (by kernel_rfl : fieldAt Try.prog 49 0 = some (0, 3)) cells49 h
  obtain ⟨_, rfl, f0⟩ := shp_at 0 (by kernel_rfl : fieldAt Try.prog 49 0 = some (0, 3)) cells3 h
  obtain ⟨_, _, f1⟩ := shp_at 1 (by kernel_rfl : fieldAt Try.prog 49 1 = some (1, 9)) cells9 h
  obtain ⟨_, _, f2⟩ := shp_at 2 (by kernel_rfl : fieldAt Try.prog 49 2 = some (2, 3)) cells3 h
  obtain ⟨x0, e0, _⟩ := shp_int und3 f0
  obtain ⟨s1, e1⟩ := shp_str und9 f1
  obtain ⟨x2, e2, _⟩ := shp_int und3 f2
  refine ⟨x0, s1, x2, ?_⟩
  match cs, hl with
  | [a, b, c], _ =>
    simp only [List.drop_succ_cons, List.drop_zero, List.take_succ_cons, List.take_zero, List.cons.injEq, and_true] at e0 e1 e2
    subst e0 e1 e2
    rfl

/-- The cells of a call. -/
def ActL (S : List (List AV)) : Prop := ∀ c ∈ S, ∃ kd key n, c = [.int .i64 kd, .str key, .int .i64 n]

theorem acts_of {m : Nat} {L : List (List AV)} (h : ∀ x ∈ L, Shp Try.prog m 49 x) : ActL L := fun cs hc => act_of (h cs hc)
theorem putL_len {sz : Int} {key : List Nat} {n : Int} {L : Stored} (h : (L.length : Int) ≤ sz) : ((putL sz key n L).length : Int) ≤ sz := by
  have := without_len key L
  unfold putL
  split
  · rw [List.length_tail]; simp; omega
  · omega
theorem without_len' {sz : Int} (key : List Nat) {L : Stored} (h : (L.length : Int) ≤ sz) : ((without key L).length : Int) ≤ sz := by
  have := without_len key L; omega
theorem use_len' {sz : Int} {key : List Nat} {n : Int} {L : Stored} (hl : lk key L = some n) (h : (L.length : Int) ≤ sz) : ((without key L ++ [(key, n)]).length : Int) ≤ sz := by
  have := use_len hl; omega
end Go.Proofs.T
