import Derived.Test.YtlllflmjpclobaaU24
import Derived.Test.YtlllflmjpclobaaU13
set_option linter.unusedVariables false
set_option linter.unusedSimpArgs false
set_option maxRecDepth 100000
namespace Go.Proofs.T
open Go.Ev

/-- A field of a struct type: its offset and its type. -/
def fieldAt (P : Program) (t i : Nat) : Option (Nat × Nat) :=
  match P.underlying t with
  | some (.struct fs) => (fs.toList[i]?).map fun f => (f.offset, f.type)
  | _ => none

theorem shp_at {P : Program} {n t : Nat} {cs : List AV} (i : Nat) {off ty c : Nat} (hf : fieldAt P t i = some (off, ty)) (hc : P.cellsOf ty = c) (h : Shp P n t cs) : ∃ m, n = m + 1 ∧ Shp P m ty ((cs.drop off).take c) := by
  unfold fieldAt at hf
  split at hf
  · rename_i fs hu
    obtain ⟨m, rfl, hl, hs⟩ := shp_struct hu rfl h
    simp only [Option.map_eq_some_iff] at hf
    obtain ⟨f, hf, he⟩ := hf
    have := hs f (List.mem_of_getElem? hf)
    simp only [Prod.mk.injEq] at he
    obtain ⟨rfl, rfl⟩ := he
    exact ⟨m, rfl, hc ▸ this⟩
  · cases hf

theorem shp_len {P : Program} {n t : Nat} {cs : List AV} {i : Nat} {p : Nat × Nat} {c : Nat} (hf : fieldAt P t i = some p) (hc : P.cellsOf t = c) (h : Shp P n t cs) : cs.length = c := by
  unfold fieldAt at hf
  split at hf
  · rename_i fs hu
    obtain ⟨m, rfl, hl, hs⟩ := shp_struct hu hc h
    exact hl
  · cases hf

theorem cells51 : Try.prog.cellsOf 51 = 9 := by kernel_rfl
theorem bytes51 : Try.prog.bytesOf 51 = 96 := by kernel_rfl
theorem cells35 : Try.prog.cellsOf 35 = 1 := by kernel_rfl
theorem cells37 : Try.prog.cellsOf 37 = 34 := by kernel_rfl
theorem okT37 : okT Try.prog 8 37 = true := by kernel_rfl

theorem task_of {n : Nat} {cs : List AV} (h : Shp Try.prog n 51 cs) : ∃ id kind ev sq due att wf rn q, cs = task id kind ev sq due att wf rn q := by
  have hl := shp_len (i := 0) (by kernel_rfl : fieldAt Try.prog 51 0 = some (0, 3)) cells51 h
  obtain ⟨_, rfl, f0⟩ := shp_at 0 (by kernel_rfl : fieldAt Try.prog 51 0 = some (0, 3)) cells3 h
  obtain ⟨_, _, f1⟩ := shp_at 1 (by kernel_rfl : fieldAt Try.prog 51 1 = some (1, 3)) cells3 h
  obtain ⟨_, _, f2⟩ := shp_at 2 (by kernel_rfl : fieldAt Try.prog 51 2 = some (2, 3)) cells3 h
  obtain ⟨_, _, f3⟩ := shp_at 3 (by kernel_rfl : fieldAt Try.prog 51 3 = some (3, 3)) cells3 h
  obtain ⟨_, _, f4⟩ := shp_at 4 (by kernel_rfl : fieldAt Try.prog 51 4 = some (4, 3)) cells3 h
  obtain ⟨_, _, f5⟩ := shp_at 5 (by kernel_rfl : fieldAt Try.prog 51 5 = some (5, 3)) cells3 h
  obtain ⟨_, _, f6⟩ := shp_at 6 (by kernel_rfl : fieldAt Try.prog 51 6 = some (6, 9)) cells9 h
  obtain ⟨_, _, f7⟩ := shp_at 7 (by kernel_rfl : fieldAt Try.prog 51 7 = some (7, 9)) cells9 h
  obtain ⟨_, _, f8⟩ := shp_at 8 (by kernel_rfl : fieldAt Try.prog 51 8 = some (8, 9)) cells9 h
  obtain ⟨x0, e0, _⟩ := shp_int und3 f0
  obtain ⟨x1, e1, _⟩ := shp_int und3 f1
  obtain ⟨x2, e2, _⟩ := shp_int und3 f2
  obtain ⟨x3, e3, _⟩ := shp_int und3 f3
  obtain ⟨x4, e4, _⟩ := shp_int und3 f4
  obtain ⟨x5, e5, _⟩ := shp_int und3 f5
  obtain ⟨s6, e6⟩ := shp_str und9 f6
  obtain ⟨s7, e7⟩ := shp_str und9 f7
  obtain ⟨s8, e8⟩ := shp_str und9 f8
  refine ⟨x0, x1, x2, x3, x4, x5, s6, s7, s8, ?_⟩
  match cs, hl with
  | [a, b, c, d, e, f, g, h, i], _ =>
    simp only [List.drop_succ_cons, List.drop_zero, List.take_succ_cons, List.take_zero, List.cons.injEq, and_true] at e0 e1 e2 e3 e4 e5 e6 e7 e8
    subst e0 e1 e2 e3 e4 e5 e6 e7 e8
    rfl

theorem tasks_of {m : Nat} {L : List (List AV)} (h : ∀ x ∈ L, Shp Try.prog m 51 x) : TaskL L := fun cs hc => task_of (h cs hc)

theorem run_of {n : Nat} {cs : List AV} (h : Shp Try.prog n 37 cs) : ∃ wf rn pa nx ver u M, RunIs cs wf rn pa nx ver u ∧ (∀ H, Holds H 9 u M) ∧ TaskL M ∧ M.length * 96 ≤ reachBytes := by
  have hl := shp_len (i := 0) (by kernel_rfl : fieldAt Try.prog 37 0 = some (0, 9)) cells37 h
  obtain ⟨_, rfl, f0⟩ := shp_at 0 (by kernel_rfl : fieldAt Try.prog 37 0 = some (0, 9)) cells9 h
  obtain ⟨_, _, f1⟩ := shp_at 1 (by kernel_rfl : fieldAt Try.prog 37 1 = some (1, 9)) cells9 h
  obtain ⟨_, _, f2⟩ := shp_at 2 (by kernel_rfl : fieldAt Try.prog 37 2 = some (2, 9)) cells9 h
  obtain ⟨_, _, f8⟩ := shp_at 8 (by kernel_rfl : fieldAt Try.prog 37 8 = some (31, 35)) cells35 h
  obtain ⟨_, _, f9⟩ := shp_at 9 (by kernel_rfl : fieldAt Try.prog 37 9 = some (32, 3)) cells3 h
  obtain ⟨_, _, f10⟩ := shp_at 10 (by kernel_rfl : fieldAt Try.prog 37 10 = some (33, 3)) cells3 h
  obtain ⟨s0, e0⟩ := shp_str und9 f0
  obtain ⟨s1, e1⟩ := shp_str und9 f1
  obtain ⟨s2, e2⟩ := shp_str und9 f2
  obtain ⟨x9, e9, _⟩ := shp_int und3 f9
  obtain ⟨x10, e10, _⟩ := shp_int und3 f10
  obtain ⟨m3, v3, L3, a3, b3, c3, d3, _, _⟩ := shp_slice und35 cells51 bytes51 (by decide) f8
  exact ⟨s0, s1, s2, x9, x10, v3, L3, ⟨hl, shp_cells 8 okT37 h, by simpa using e0, e1, e2, a3, e9, e10⟩, b3, tasks_of d3, c3⟩
end Go.Proofs.T
