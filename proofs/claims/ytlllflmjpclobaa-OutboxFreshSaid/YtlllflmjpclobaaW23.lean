import Derived.Test.YtlllflmjpclobaaW21
import Derived.Test.YtlllflmjpclobaaUb
set_option linter.unusedVariables false
set_option linter.unusedSimpArgs false
set_option linter.unusedVariables false
set_option linter.unusedSimpArgs false
set_option maxRecDepth 100000
namespace Go.Proofs.T
open Go.Ev

theorem take_split {α : Type} (l : List α) (i j : Nat) : l.drop i = (l.drop i).take j ++ l.drop (i + j) := by rw [← List.drop_drop]; exact (List.take_append_drop _ _).symm
section
variable {P : Program}
theorem shp_strb {n : Nat} {t : TypeId} {xs : List AV} (hu : P.underlying t = some .string) (h : Shp P n t xs) : ∃ s, xs = [.str s] ∧ s.length < 2 ^ 60 := by
  cases n with
  | zero => exact h.elim
  | succ n => simp [Shp, hu] at h; obtain ⟨l, h1, h2, _⟩ := h; exact ⟨l, h1, by simp only [reachBytes] at h2; omega⟩
end
theorem ValB.mono : ∀ {n m : Nat} {c : List AV}, ValB n c → n ≤ m → ValB m c
  | 0, _, _, h, _ => h.elim
  | n + 1, 0, _, _, h => by omega
  | n + 1, m + 1, _, ⟨k, i, s, v, w, L, M, e, hs, hv, hl, hL, r⟩, h => ⟨k, i, s, v, w, L, M, e, hs, hv, hl, fun c hc => (hL c hc).mono (by omega), r⟩
theorem strb_of {m : Nat} {L : List (List AV)} (h : ∀ x ∈ L, Shp Try.prog m 9 x) : ∀ c ∈ L, ∃ s, c = [.str s] ∧ s.length < 2 ^ 60 := fun c hc => shp_strb und9 (h c hc)
theorem cells4 : Try.prog.cellsOf 4 = 1 := by kernel_rfl
theorem cells51b : Try.prog.cellsOf 51 = 9 := by kernel_rfl
theorem cells60 : Try.prog.cellsOf 60 = 32 := by kernel_rfl
theorem und60 : Try.prog.underlying 60 = some (.struct #[{ name := "Seq", type := 3, offset := 0, embedded := false, tag := "", pkgPath := "", byteOffset := 0 }, { name := "Event", type := 3, offset := 1, embedded := false, tag := "", pkgPath := "", byteOffset := 8 }, { name := "Name", type := 9, offset := 2, embedded := false, tag := "", pkgPath := "", byteOffset := 16 }, { name := "Data", type := 26, offset := 3, embedded := false, tag := "", pkgPath := "", byteOffset := 32 }, { name := "Opts", type := 58, offset := 8, embedded := false, tag := "", pkgPath := "", byteOffset := 112 }, { name := "State", type := 3, offset := 18, embedded := false, tag := "", pkgPath := "", byteOffset := 216 }, { name := "Attempt", type := 3, offset := 19, embedded := false, tag := "", pkgPath := "", byteOffset := 224 }, { name := "Scheduled", type := 3, offset := 20, embedded := false, tag := "", pkgPath := "", byteOffset := 232 }, { name := "Due", type := 3, offset := 21, embedded := false, tag := "", pkgPath := "", byteOffset := 240 }, { name := "Started", type := 3, offset := 22, embedded := false, tag := "", pkgPath := "", byteOffset := 248 }, { name := "LastBeat", type := 3, offset := 23, embedded := false, tag := "", pkgPath := "", byteOffset := 256 }, { name := "Token", type := 3, offset := 24, embedded := false, tag := "", pkgPath := "", byteOffset := 264 }, { name := "Cancel", type := 4, offset := 25, embedded := false, tag := "", pkgPath := "", byteOffset := 272 }, { name := "Details", type := 26, offset := 26, embedded := false, tag := "", pkgPath := "", byteOffset := 280 }, { name := "Failure", type := 9, offset := 31, embedded := false, tag := "", pkgPath := "", byteOffset := 360 }]) := by kernel_rfl
theorem und51b : Try.prog.underlying 51 = some (.struct #[{ name := "ID", type := 3, offset := 0, embedded := false, tag := "", pkgPath := "", byteOffset := 0 }, { name := "Kind", type := 3, offset := 1, embedded := false, tag := "", pkgPath := "", byteOffset := 8 }, { name := "Event", type := 3, offset := 2, embedded := false, tag := "", pkgPath := "", byteOffset := 16 }, { name := "Seq", type := 3, offset := 3, embedded := false, tag := "", pkgPath := "", byteOffset := 24 }, { name := "Due", type := 3, offset := 4, embedded := false, tag := "", pkgPath := "", byteOffset := 32 }, { name := "Attempt", type := 3, offset := 5, embedded := false, tag := "", pkgPath := "", byteOffset := 40 }, { name := "Workflow", type := 9, offset := 6, embedded := false, tag := "", pkgPath := "", byteOffset := 48 }, { name := "Run", type := 9, offset := 7, embedded := false, tag := "", pkgPath := "", byteOffset := 64 }, { name := "Queue", type := 9, offset := 8, embedded := false, tag := "", pkgPath := "", byteOffset := 80 }]) := by kernel_rfl

theorem valB_of : ∀ (n : Nat) (cs : List AV), Shp Try.prog n 26 cs → ValB n cs := by
  intro n
  induction n using Nat.strongRecOn with
  | _ n ih =>
    intro cs h
    obtain ⟨m, rfl, hl, hf⟩ := shp_struct und26 cells26 h
    have f0 := hf _ (List.mem_of_getElem? (i := 0) rfl)
    have f1 := hf _ (List.mem_of_getElem? (i := 1) rfl)
    have f2 := hf _ (List.mem_of_getElem? (i := 2) rfl)
    have f3 := hf _ (List.mem_of_getElem? (i := 3) rfl)
    have f4 := hf _ (List.mem_of_getElem? (i := 4) rfl)
    simp only [cells3, cells4, cells9, cells23, cells24, cells26, cells58] at f0 f1 f2 f3 f4
    obtain ⟨k, e0, _⟩ := shp_int und3 f0
    obtain ⟨i, e1, _⟩ := shp_int und3 f1
    obtain ⟨s, e2, hs2⟩ := shp_strb und9 f2
    obtain ⟨m3, v, L3, h3, e3, b3, s3, q3, _⟩ : ∃ m' v L, (∀ H, Holds H 5 v L) ∧ (cs.drop 3).take 1 = [v] ∧ L.length * 80 ≤ reachBytes ∧ (∀ x ∈ L, Shp Try.prog m' 26 x) ∧ m = m' + 1 ∧ True := by
      obtain ⟨m', v, L, a, b, c, d, e, _⟩ := shp_slice und23 cells26 bytes26 (by decide) f3
      exact ⟨m', v, L, b, a, c, d, e, trivial⟩
    obtain ⟨m4, w, L4, h4, e4, b4, s4, q4, _⟩ : ∃ m' v L, (∀ H, Holds H 1 v L) ∧ (cs.drop 4).take 1 = [v] ∧ L.length * 16 ≤ reachBytes ∧ (∀ x ∈ L, Shp Try.prog m' 9 x) ∧ m = m' + 1 ∧ True := by
      obtain ⟨m', v, L, a, b, c, d, e, _⟩ := shp_slice und24 cells9 bytes9 (by decide) f4
      exact ⟨m', v, L, b, a, c, d, e, trivial⟩
    have g0 : cs.drop 0 = [.int .i64 k] ++ cs.drop 1 := by rw [take_split cs 0 1, e0]
    have g1 : cs.drop 1 = [.int .i64 i] ++ cs.drop 2 := by rw [take_split cs 1 1, e1]
    have g2 : cs.drop 2 = [.str s] ++ cs.drop 3 := by rw [take_split cs 2 1, e2]
    have g3 : cs.drop 3 = [v] ++ cs.drop 4 := by rw [take_split cs 3 1, e3]
    have g4 : cs.drop 4 = [w] ++ cs.drop 5 := by rw [take_split cs 4 1, e4]
    have ge : cs.drop 5 = [] := List.drop_eq_nil_of_le (by omega)
    have hcs : cs = [.int .i64 k, .int .i64 i, .str s, v, w] := by
      rw [← List.drop_zero (l := cs), g0, g1, g2, g3, g4, ge]; first | rfl | simp [ES.cells, actC]
    refine ⟨k, i, s, v, w, L3, L4, hcs, hs2, h3, by simp only [reachBytes] at b3; omega, fun c hc => (ih m3 (by omega) c (s3 c hc)).mono (by omega), h4, by simp only [reachBytes] at b4; omega, strb_of s4⟩
theorem polB_of {n : Nat} {cs : List AV} (h : Shp Try.prog n 58 cs) : ∃ (q : List Nat) (i1 i2 i3 i4 i5 i6 i7 i8 : Int) (w : AV) (M : List (List AV)), cs = [.str q, .int .i64 i1, .int .i64 i2, .int .i64 i3, .int .i64 i4, .int .i64 i5, .int .i64 i6, .int .i64 i7, .int .i64 i8, w] ∧ q.length < 2 ^ 60 ∧ (∀ H, Holds H 1 w M) ∧ M.length * 16 ≤ 140737488355328 ∧ ∀ c ∈ M, ∃ s, c = [.str s] ∧ s.length < 2 ^ 60 := by
  obtain ⟨m, rfl, hl, hf⟩ := shp_struct und58 cells58 h
  have f0 := hf _ (List.mem_of_getElem? (i := 0) rfl)
  have f1 := hf _ (List.mem_of_getElem? (i := 1) rfl)
  have f2 := hf _ (List.mem_of_getElem? (i := 2) rfl)
  have f3 := hf _ (List.mem_of_getElem? (i := 3) rfl)
  have f4 := hf _ (List.mem_of_getElem? (i := 4) rfl)
  have f5 := hf _ (List.mem_of_getElem? (i := 5) rfl)
  have f6 := hf _ (List.mem_of_getElem? (i := 6) rfl)
  have f7 := hf _ (List.mem_of_getElem? (i := 7) rfl)
  have f8 := hf _ (List.mem_of_getElem? (i := 8) rfl)
  have f9 := hf _ (List.mem_of_getElem? (i := 9) rfl)
  simp only [cells3, cells4, cells9, cells23, cells24, cells26, cells58] at f0 f1 f2 f3 f4 f5 f6 f7 f8 f9
  obtain ⟨q, e0, hs0⟩ := shp_strb und9 f0
  obtain ⟨j1, e1, _⟩ := shp_int und3 f1
  obtain ⟨j2, e2, _⟩ := shp_int und3 f2
  obtain ⟨j3, e3, _⟩ := shp_int und3 f3
  obtain ⟨j4, e4, _⟩ := shp_int und3 f4
  obtain ⟨j5, e5, _⟩ := shp_int und3 f5
  obtain ⟨j6, e6, _⟩ := shp_int und3 f6
  obtain ⟨j7, e7, _⟩ := shp_int und3 f7
  obtain ⟨j8, e8, _⟩ := shp_int und3 f8
  obtain ⟨m9, w, L9, h9, e9, b9, s9, q9, _⟩ : ∃ m' v L, (∀ H, Holds H 1 v L) ∧ (cs.drop 9).take 1 = [v] ∧ L.length * 16 ≤ reachBytes ∧ (∀ x ∈ L, Shp Try.prog m' 9 x) ∧ m = m' + 1 ∧ True := by
    obtain ⟨m', v, L, a, b, c, d, e, _⟩ := shp_slice und24 cells9 bytes9 (by decide) f9
    exact ⟨m', v, L, b, a, c, d, e, trivial⟩
  have g0 : cs.drop 0 = [.str q] ++ cs.drop 1 := by rw [take_split cs 0 1, e0]
  have g1 : cs.drop 1 = [.int .i64 j1] ++ cs.drop 2 := by rw [take_split cs 1 1, e1]
  have g2 : cs.drop 2 = [.int .i64 j2] ++ cs.drop 3 := by rw [take_split cs 2 1, e2]
  have g3 : cs.drop 3 = [.int .i64 j3] ++ cs.drop 4 := by rw [take_split cs 3 1, e3]
  have g4 : cs.drop 4 = [.int .i64 j4] ++ cs.drop 5 := by rw [take_split cs 4 1, e4]
  have g5 : cs.drop 5 = [.int .i64 j5] ++ cs.drop 6 := by rw [take_split cs 5 1, e5]
  have g6 : cs.drop 6 = [.int .i64 j6] ++ cs.drop 7 := by rw [take_split cs 6 1, e6]
  have g7 : cs.drop 7 = [.int .i64 j7] ++ cs.drop 8 := by rw [take_split cs 7 1, e7]
  have g8 : cs.drop 8 = [.int .i64 j8] ++ cs.drop 9 := by rw [take_split cs 8 1, e8]
  have g9 : cs.drop 9 = [w] ++ cs.drop 10 := by rw [take_split cs 9 1, e9]
  have ge : cs.drop 10 = [] := List.drop_eq_nil_of_le (by omega)
  have hcs : cs = [.str q, .int .i64 j1, .int .i64 j2, .int .i64 j3, .int .i64 j4, .int .i64 j5, .int .i64 j6, .int .i64 j7, .int .i64 j8, w] := by
    rw [← List.drop_zero (l := cs), g0, g1, g2, g3, g4, g5, g6, g7, g8, g9, ge]; first | rfl | simp [ES.cells, actC]
  exact ⟨q, j1, j2, j3, j4, j5, j6, j7, j8, w, L9, hcs, hs0, h9, by simp only [reachBytes] at b9; omega, strb_of s9⟩
theorem evB_of {n : Nat} {cs : List AV} (h : Shp Try.prog n 63 cs) : ∃ e : ES, cs = e.cells ∧ EB e := by
  obtain ⟨m, rfl, hl, hf⟩ := shp_struct und63 cells63 h
  have f0 := hf _ (List.mem_of_getElem? (i := 0) rfl)
  have f1 := hf _ (List.mem_of_getElem? (i := 1) rfl)
  have f2 := hf _ (List.mem_of_getElem? (i := 2) rfl)
  have f3 := hf _ (List.mem_of_getElem? (i := 3) rfl)
  have f4 := hf _ (List.mem_of_getElem? (i := 4) rfl)
  have f5 := hf _ (List.mem_of_getElem? (i := 5) rfl)
  have f6 := hf _ (List.mem_of_getElem? (i := 6) rfl)
  have f7 := hf _ (List.mem_of_getElem? (i := 7) rfl)
  have f8 := hf _ (List.mem_of_getElem? (i := 8) rfl)
  have f9 := hf _ (List.mem_of_getElem? (i := 9) rfl)
  have f10 := hf _ (List.mem_of_getElem? (i := 10) rfl)
  simp only [cells3, cells4, cells9, cells23, cells24, cells26, cells58] at f0 f1 f2 f3 f4 f5 f6 f7 f8 f9 f10
  obtain ⟨id, e0, _⟩ := shp_int und3 f0
  obtain ⟨k, e1, _⟩ := shp_int und3 f1
  obtain ⟨tm, e2, _⟩ := shp_int und3 f2
  obtain ⟨sq, e3, _⟩ := shp_int und3 f3
  obtain ⟨rf, e4, _⟩ := shp_int und3 f4
  obtain ⟨nn, e5, _⟩ := shp_int und3 f5
  obtain ⟨cd, e6, _⟩ := shp_int und3 f6
  obtain ⟨nm, e7, hs7⟩ := shp_strb und9 f7
  obtain ⟨ky, e8, hs8⟩ := shp_strb und9 f8
  obtain ⟨d, e9⟩ : ∃ x, (cs.drop 9).take 5 = x := ⟨_, rfl⟩
  rw [e9] at f9
  obtain ⟨o, e10⟩ : ∃ x, (cs.drop 14).take 10 = x := ⟨_, rfl⟩
  rw [e10] at f10
  have g0 : cs.drop 0 = [.int .i64 id] ++ cs.drop 1 := by rw [take_split cs 0 1, e0]
  have g1 : cs.drop 1 = [.int .i64 k] ++ cs.drop 2 := by rw [take_split cs 1 1, e1]
  have g2 : cs.drop 2 = [.int .i64 tm] ++ cs.drop 3 := by rw [take_split cs 2 1, e2]
  have g3 : cs.drop 3 = [.int .i64 sq] ++ cs.drop 4 := by rw [take_split cs 3 1, e3]
  have g4 : cs.drop 4 = [.int .i64 rf] ++ cs.drop 5 := by rw [take_split cs 4 1, e4]
  have g5 : cs.drop 5 = [.int .i64 nn] ++ cs.drop 6 := by rw [take_split cs 5 1, e5]
  have g6 : cs.drop 6 = [.int .i64 cd] ++ cs.drop 7 := by rw [take_split cs 6 1, e6]
  have g7 : cs.drop 7 = [.str nm] ++ cs.drop 8 := by rw [take_split cs 7 1, e7]
  have g8 : cs.drop 8 = [.str ky] ++ cs.drop 9 := by rw [take_split cs 8 1, e8]
  have g9 : cs.drop 9 = d ++ cs.drop 14 := by rw [take_split cs 9 5, e9]
  have g10 : cs.drop 14 = o ++ cs.drop 24 := by rw [take_split cs 14 10, e10]
  have ge : cs.drop 24 = [] := List.drop_eq_nil_of_le (by omega)
  have hcs : cs = ES.cells ⟨id, k, tm, sq, rf, nn, cd, nm, ky, d, o⟩ := by
    rw [← List.drop_zero (l := cs), g0, g1, g2, g3, g4, g5, g6, g7, g8, g9, g10, ge]; first | rfl | simp [ES.cells, actC]
  exact ⟨_, hcs, hs7, hs8, ⟨_, valB_of _ _ f9⟩, polB_of f10⟩
theorem task_of {n : Nat} {cs : List AV} (h : Shp Try.prog n 51 cs) : ∃ (tid k ev sq due att : Int) (wf rn q : List Nat), cs = task tid k ev sq due att wf rn q := by
  obtain ⟨m, rfl, hl, hf⟩ := shp_struct und51b cells51b h
  have f0 := hf _ (List.mem_of_getElem? (i := 0) rfl)
  have f1 := hf _ (List.mem_of_getElem? (i := 1) rfl)
  have f2 := hf _ (List.mem_of_getElem? (i := 2) rfl)
  have f3 := hf _ (List.mem_of_getElem? (i := 3) rfl)
  have f4 := hf _ (List.mem_of_getElem? (i := 4) rfl)
  have f5 := hf _ (List.mem_of_getElem? (i := 5) rfl)
  have f6 := hf _ (List.mem_of_getElem? (i := 6) rfl)
  have f7 := hf _ (List.mem_of_getElem? (i := 7) rfl)
  have f8 := hf _ (List.mem_of_getElem? (i := 8) rfl)
  simp only [cells3, cells4, cells9, cells23, cells24, cells26, cells58] at f0 f1 f2 f3 f4 f5 f6 f7 f8
  obtain ⟨tid, e0, _⟩ := shp_int und3 f0
  obtain ⟨k, e1, _⟩ := shp_int und3 f1
  obtain ⟨ev, e2, _⟩ := shp_int und3 f2
  obtain ⟨sq, e3, _⟩ := shp_int und3 f3
  obtain ⟨due, e4, _⟩ := shp_int und3 f4
  obtain ⟨att, e5, _⟩ := shp_int und3 f5
  obtain ⟨wf, e6, hs6⟩ := shp_strb und9 f6
  obtain ⟨rn, e7, hs7⟩ := shp_strb und9 f7
  obtain ⟨q, e8, hs8⟩ := shp_strb und9 f8
  have g0 : cs.drop 0 = [.int .i64 tid] ++ cs.drop 1 := by rw [take_split cs 0 1, e0]
  have g1 : cs.drop 1 = [.int .i64 k] ++ cs.drop 2 := by rw [take_split cs 1 1, e1]
  have g2 : cs.drop 2 = [.int .i64 ev] ++ cs.drop 3 := by rw [take_split cs 2 1, e2]
  have g3 : cs.drop 3 = [.int .i64 sq] ++ cs.drop 4 := by rw [take_split cs 3 1, e3]
  have g4 : cs.drop 4 = [.int .i64 due] ++ cs.drop 5 := by rw [take_split cs 4 1, e4]
  have g5 : cs.drop 5 = [.int .i64 att] ++ cs.drop 6 := by rw [take_split cs 5 1, e5]
  have g6 : cs.drop 6 = [.str wf] ++ cs.drop 7 := by rw [take_split cs 6 1, e6]
  have g7 : cs.drop 7 = [.str rn] ++ cs.drop 8 := by rw [take_split cs 7 1, e7]
  have g8 : cs.drop 8 = [.str q] ++ cs.drop 9 := by rw [take_split cs 8 1, e8]
  have ge : cs.drop 9 = [] := List.drop_eq_nil_of_le (by omega)
  have hcs : cs = task tid k ev sq due att wf rn q := by
    rw [← List.drop_zero (l := cs), g0, g1, g2, g3, g4, g5, g6, g7, g8, ge]; first | rfl | simp [ES.cells, actC]
  exact ⟨tid, k, ev, sq, due, att, wf, rn, q, hcs⟩
theorem act_of {n : Nat} {cs : List AV} (h : Shp Try.prog n 60 cs) : ∃ (s ev : Int) (nm : List Nat) (d o : List AV) (x5 x6 x7 x8 x9 x10 x11 : Int) (cn : Bool) (dt : List AV) (fl : List Nat) (n1 n2 : Nat), cs = actC s ev nm d o x5 x6 x7 x8 x9 x10 x11 cn dt fl ∧ nm.length < 2 ^ 60 ∧ fl.length < 2 ^ 60 ∧ ValB n1 d ∧ ValB n2 dt ∧
    ∃ (q : List Nat) (i1 i2 i3 i4 i5 i6 i7 i8 : Int) (w : AV) (M : List (List AV)), o = [.str q, .int .i64 i1, .int .i64 i2, .int .i64 i3, .int .i64 i4, .int .i64 i5, .int .i64 i6, .int .i64 i7, .int .i64 i8, w] ∧ q.length < 2 ^ 60 ∧ (∀ H, Holds H 1 w M) ∧ M.length * 16 ≤ 140737488355328 ∧ ∀ c ∈ M, ∃ s, c = [.str s] ∧ s.length < 2 ^ 60 := by
  obtain ⟨m, rfl, hl, hf⟩ := shp_struct und60 cells60 h
  have f0 := hf _ (List.mem_of_getElem? (i := 0) rfl)
  have f1 := hf _ (List.mem_of_getElem? (i := 1) rfl)
  have f2 := hf _ (List.mem_of_getElem? (i := 2) rfl)
  have f3 := hf _ (List.mem_of_getElem? (i := 3) rfl)
  have f4 := hf _ (List.mem_of_getElem? (i := 4) rfl)
  have f5 := hf _ (List.mem_of_getElem? (i := 5) rfl)
  have f6 := hf _ (List.mem_of_getElem? (i := 6) rfl)
  have f7 := hf _ (List.mem_of_getElem? (i := 7) rfl)
  have f8 := hf _ (List.mem_of_getElem? (i := 8) rfl)
  have f9 := hf _ (List.mem_of_getElem? (i := 9) rfl)
  have f10 := hf _ (List.mem_of_getElem? (i := 10) rfl)
  have f11 := hf _ (List.mem_of_getElem? (i := 11) rfl)
  have f12 := hf _ (List.mem_of_getElem? (i := 12) rfl)
  have f13 := hf _ (List.mem_of_getElem? (i := 13) rfl)
  have f14 := hf _ (List.mem_of_getElem? (i := 14) rfl)
  simp only [cells3, cells4, cells9, cells23, cells24, cells26, cells58] at f0 f1 f2 f3 f4 f5 f6 f7 f8 f9 f10 f11 f12 f13 f14
  obtain ⟨s, e0, _⟩ := shp_int und3 f0
  obtain ⟨ev, e1, _⟩ := shp_int und3 f1
  obtain ⟨nm, e2, hs2⟩ := shp_strb und9 f2
  obtain ⟨d, e3⟩ : ∃ x, (cs.drop 3).take 5 = x := ⟨_, rfl⟩
  rw [e3] at f3
  obtain ⟨o, e4⟩ : ∃ x, (cs.drop 8).take 10 = x := ⟨_, rfl⟩
  rw [e4] at f4
  obtain ⟨x5, e5, _⟩ := shp_int und3 f5
  obtain ⟨x6, e6, _⟩ := shp_int und3 f6
  obtain ⟨x7, e7, _⟩ := shp_int und3 f7
  obtain ⟨x8, e8, _⟩ := shp_int und3 f8
  obtain ⟨x9, e9, _⟩ := shp_int und3 f9
  obtain ⟨x10, e10, _⟩ := shp_int und3 f10
  obtain ⟨x11, e11, _⟩ := shp_int und3 f11
  obtain ⟨cn, e12⟩ := shp_bool und4 f12
  obtain ⟨dt, e13⟩ : ∃ x, (cs.drop 26).take 5 = x := ⟨_, rfl⟩
  rw [e13] at f13
  obtain ⟨fl, e14, hs14⟩ := shp_strb und9 f14
  have g0 : cs.drop 0 = [.int .i64 s] ++ cs.drop 1 := by rw [take_split cs 0 1, e0]
  have g1 : cs.drop 1 = [.int .i64 ev] ++ cs.drop 2 := by rw [take_split cs 1 1, e1]
  have g2 : cs.drop 2 = [.str nm] ++ cs.drop 3 := by rw [take_split cs 2 1, e2]
  have g3 : cs.drop 3 = d ++ cs.drop 8 := by rw [take_split cs 3 5, e3]
  have g4 : cs.drop 8 = o ++ cs.drop 18 := by rw [take_split cs 8 10, e4]
  have g5 : cs.drop 18 = [.int .i64 x5] ++ cs.drop 19 := by rw [take_split cs 18 1, e5]
  have g6 : cs.drop 19 = [.int .i64 x6] ++ cs.drop 20 := by rw [take_split cs 19 1, e6]
  have g7 : cs.drop 20 = [.int .i64 x7] ++ cs.drop 21 := by rw [take_split cs 20 1, e7]
  have g8 : cs.drop 21 = [.int .i64 x8] ++ cs.drop 22 := by rw [take_split cs 21 1, e8]
  have g9 : cs.drop 22 = [.int .i64 x9] ++ cs.drop 23 := by rw [take_split cs 22 1, e9]
  have g10 : cs.drop 23 = [.int .i64 x10] ++ cs.drop 24 := by rw [take_split cs 23 1, e10]
  have g11 : cs.drop 24 = [.int .i64 x11] ++ cs.drop 25 := by rw [take_split cs 24 1, e11]
  have g12 : cs.drop 25 = [.bool cn] ++ cs.drop 26 := by rw [take_split cs 25 1, e12]
  have g13 : cs.drop 26 = dt ++ cs.drop 31 := by rw [take_split cs 26 5, e13]
  have g14 : cs.drop 31 = [.str fl] ++ cs.drop 32 := by rw [take_split cs 31 1, e14]
  have ge : cs.drop 32 = [] := List.drop_eq_nil_of_le (by omega)
  have hcs : cs = actC s ev nm d o x5 x6 x7 x8 x9 x10 x11 cn dt fl := by
    rw [← List.drop_zero (l := cs), g0, g1, g2, g3, g4, g5, g6, g7, g8, g9, g10, g11, g12, g13, g14, ge]; first | rfl | simp [ES.cells, actC]
  exact ⟨s, ev, nm, d, o, x5, x6, x7, x8, x9, x10, x11, cn, dt, fl, _, _, hcs, hs2, hs14, valB_of _ _ f3, valB_of _ _ f13, polB_of f4⟩
end Go.Proofs.T
