import Derived.Test.YtlllflmjpclobaaU22
set_option linter.unusedVariables false
set_option linter.unusedSimpArgs false
set_option maxRecDepth 100000
namespace Go.Proofs.T
open Go.Ev

/-- A run's cells, those that the laws of chapter 42 look at. -/
structure RunIs (ra : List AV) (wf rn pa : List Nat) (nx ver : Int) (u : AV) : Prop where
  len : ra.length = 34
  cells : ra.all AV.isCell = true
  c0 : ra.take 1 = [.str wf]
  c1 : (ra.drop 1).take 1 = [.str rn]
  c2 : (ra.drop 2).take 1 = [.str pa]
  c31 : (ra.drop 31).take 1 = [u]
  c32 : (ra.drop 32).take 1 = [.int .i64 nx]
  c33 : (ra.drop 33).take 1 = [.int .i64 ver]

theorem RunIs.zero : RunIs zero37 [] [] [] 0 0 .nilslice := by
  constructor <;> (simp only [zero37, ze37]; rfl)

theorem own_isCell {G H : Heap} {ty esz : Nat} {v : AV} {L : List (List AV)} (h : Own G H ty esz v L) : v.isCell = true := by
  obtain ⟨_, ⟨_, rfl | rfl⟩ | ⟨_, _, _, rfl, _⟩ | ⟨_, _, _, _, _, rfl, _⟩⟩ := h <;> rfl

theorem cells_set {cs : List AV} {i : Nat} {u : AV} (h : cs.all AV.isCell = true) (hu : u.isCell = true) : (cs.set i u).all AV.isCell = true := by
  rw [List.all_eq_true] at h ⊢
  intro x hx
  rcases List.mem_or_eq_of_mem_set hx with hx | rfl
  · exact h x hx
  · exact hu

theorem RunIs.set31 {ra : List AV} {wf rn pa : List Nat} {nx ver : Int} {u w : AV} (h : RunIs ra wf rn pa nx ver u) (hw : w.isCell = true) : RunIs (ra.set 31 w) wf rn pa nx ver w := by
  constructor
  · simpa using h.len
  · exact cells_set h.cells hw
  · rw [take_set_ne (by decide)]; exact h.c0
  · rw [cell_set_ne (by decide)]; exact h.c1
  · rw [cell_set_ne (by decide)]; exact h.c2
  · exact cell_set_eq (by rw [h.len]; decide)
  · rw [cell_set_ne (by decide)]; exact h.c32
  · rw [cell_set_ne (by decide)]; exact h.c33

theorem RunIs.set32 {ra : List AV} {wf rn pa : List Nat} {nx nx' ver : Int} {u : AV} (h : RunIs ra wf rn pa nx ver u) : RunIs (ra.set 32 (.int .i64 nx')) wf rn pa nx' ver u := by
  constructor
  · simpa using h.len
  · exact cells_set h.cells rfl
  · rw [take_set_ne (by decide)]; exact h.c0
  · rw [cell_set_ne (by decide)]; exact h.c1
  · rw [cell_set_ne (by decide)]; exact h.c2
  · rw [cell_set_ne (by decide)]; exact h.c31
  · exact cell_set_eq (by rw [h.len]; decide)
  · rw [cell_set_ne (by decide)]; exact h.c33

theorem numb_task {wf rn : List Nat} : ∀ {L : List (List AV)} (nx : Int), TaskL L → TaskL (numb nx wf rn L)
  | [], nx, h => by simp [numb, TaskL]
  | c :: L, nx, h => by
    intro cs hc
    simp only [numb, List.mem_cons] at hc
    rcases hc with rfl | hc
    · obtain ⟨id, k, ev, sq, due, att, wf', rn', q, rfl⟩ := h c (by simp)
      exact ⟨nx, k, ev, sq, due, att, wf, rn, q, rfl⟩
    · exact numb_task (nx + 1) (fun x hx => h x (List.mem_cons_of_mem _ hx)) cs hc

theorem TaskL.append {L M : List (List AV)} (h : TaskL L) (g : TaskL M) : TaskL (L ++ M) := fun cs hc => by
  rcases List.mem_append.1 hc with hc | hc
  · exact h cs hc
  · exact g cs hc

theorem bool_ok {op : BinOp} {t : TypeId} {x y : Operand} {a b : Bool} : eqOk Try.prog op t x y (.bool a) (.bool b) = true := by simp [eqOk]
theorem bool_eqA {a b : Bool} : eqA Try.prog 10000 4 (.bool a) (.bool b) = some (a == b) := by
  rw [show (10000 : Nat) = 9999 + 1 from rfl]; simp [eqA, und4]

/-- Add, and the document's Add: the same. -/
theorem add_both {rc : List AV} {wf rn pa : List Nat} {nx ver : Int} {tv v : AV} {L M : List (List AV)} (hr : RunIs rc wf rn pa nx ver tv)
    (hL : TaskL L) (hM : TaskL M) (hn : L.length ≤ 1000) (hm : M.length ≤ 1000) (hnx : nx ≤ 1000000000) :
    ∃ wf' rn' pa' nx' ver' e N, TaskL N ∧ N.length ≤ 2000 ∧ ∀ (H : Heap), Free H → Holds H 9 v L → Holds H 9 tv M → ∀ (K : AV → Heap → Prop),
      (∀ ra u H', RunIs ra wf' rn' pa' nx' ver' u → Up H H' → Free H' → Holds H' 9 u N → K (.tuple [.agg ra, .int .i64 e]) H') →
      WF Try.prog 15 [.agg rc, v] H K ∧ WF Try.prog 17 [.agg rc, v] H K := by
  cases hb : L.all okKind
  · refine ⟨[], [], [], 0, 0, 11, [], by simp [TaskL], by simp, fun H hF hv htv K hK => ⟨?_, ?_⟩⟩
    · exact f15_ok hr.len hr.cells hr.c0 hr.c1 hr.c31 hr.c32 H hF hv htv hL hM hn hm hnx K (fun h => by rw [hb] at h; cases h) (fun _ H' hU hF' => hK _ _ _ RunIs.zero hU hF' Holds.nil)
    · exact f17_ok hr.len hr.cells hr.c0 hr.c1 hr.c31 hr.c32 H hF hv htv hL hM hn hm hnx K (fun h => by rw [hb] at h; cases h) (fun _ H' hU hF' => hK _ _ _ RunIs.zero hU hF' Holds.nil)
  · refine ⟨wf, rn, pa, (if 1 > nx then 1 else nx) + L.length, ver, 0, M ++ numb (if 1 > nx then 1 else nx) wf rn L, hM.append (numb_task _ hL), by simp [numb_len]; omega, fun H hF hv htv K hK => ⟨?_, ?_⟩⟩
    · exact f15_ok hr.len hr.cells hr.c0 hr.c1 hr.c31 hr.c32 H hF hv htv hL hM hn hm hnx K (fun _ u H' hU hF' hO => hK _ _ _ (hr.set31 (own_isCell hO)).set32 hU hF' hO.holds) (fun h => by rw [hb] at h; cases h)
    · exact f17_ok hr.len hr.cells hr.c0 hr.c1 hr.c31 hr.c32 H hF hv htv hL hM hn hm hnx K (fun _ u H' hU hF' hO => hK _ _ _ (hr.set31 (own_isCell hO)).set32 hU hF' hO.holds) (fun h => by rw [hb] at h; cases h)

/-- Done, and the document's Done: the same. -/
theorem done_both {rc : List AV} {wf rn pa : List Nat} {nx ver : Int} {tv : AV} {M : List (List AV)} (id : Int) (hr : RunIs rc wf rn pa nx ver tv) (hM : TaskL M) (hm : M.length ≤ 1000) :
    ∃ wf' rn' pa' nx' ver' ok N, TaskL N ∧ N.length ≤ 2000 ∧ ∀ (H : Heap), Free H → Holds H 9 tv M → ∀ (K : AV → Heap → Prop),
      (∀ ra u H', RunIs ra wf' rn' pa' nx' ver' u → Up H H' → Free H' → Holds H' 9 u N → K (.tuple [.agg ra, .bool ok]) H') →
      WF Try.prog 14 [.agg rc, .int .i64 id] H K ∧ WF Try.prog 18 [.agg rc, .int .i64 id] H K := by
  rcases idx_cases id M 0 with ⟨hx, _⟩ | ⟨i, hi, hx, _⟩
  · have hf := (rem1_idx id M 0).1 hx
    refine ⟨[], [], [], 0, 0, false, [], by simp [TaskL], by simp, fun H hF htv K hK => ⟨?_, ?_⟩⟩
    · exact f14_ok id hr.len hr.cells hr.c31 H hF htv hM hm K (fun i hi h => by rw [hx] at h; omega) (fun _ H' hU hF' => hK _ _ _ RunIs.zero hU hF' Holds.nil)
    · exact f18_ok id hr.len hr.cells hr.c31 H hF htv hM hm K (fun h => by rw [hf] at h; cases h) (fun _ H' hU hF' => hK _ _ _ RunIs.zero hU hF' Holds.nil)
  · obtain ⟨hf, hrem⟩ := (rem1_idx id M 0).2 i hi hx
    have hlen : (M.take i ++ M.drop (i + 1)).length ≤ 2000 := by simp; omega
    have hT : TaskL (M.take i ++ M.drop (i + 1)) := fun cs hc => by
      rcases List.mem_append.1 hc with hc | hc
      · exact hM cs (List.mem_of_mem_take hc)
      · exact hM cs (List.mem_of_mem_drop hc)
    refine ⟨wf, rn, pa, nx, ver, true, M.take i ++ M.drop (i + 1), hT, hlen, fun H hF htv K hK => ⟨?_, ?_⟩⟩
    · refine f14_ok id hr.len hr.cells hr.c31 H hF htv hM hm K (fun j hj h u H' hU hF' hO => ?_) (fun h => by rw [hx] at h; omega)
      obtain rfl : j = i := by rw [hx] at h; omega
      exact hK _ _ _ (hr.set31 (own_isCell hO)) hU hF' hO.holds
    · refine f18_ok id hr.len hr.cells hr.c31 H hF htv hM hm K (fun _ u H' hU hF' hO => ?_) (fun h => by rw [hf] at h; cases h)
      rw [hrem] at hO
      exact hK _ _ _ (hr.set31 (own_isCell hO)) hU hF' hO.holds
end Go.Proofs.T
