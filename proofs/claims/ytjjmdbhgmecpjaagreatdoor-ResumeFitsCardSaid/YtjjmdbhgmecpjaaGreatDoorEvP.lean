import Derived.Test.YtjjmdbhgmecpjaaGreatDoorEvO
import Derived.Laws.IdiomStrings
set_option linter.unusedVariables false
set_option linter.unusedSimpArgs false
namespace Go.Ev
section
variable {P : Program} {C : Mem} {w0 : World} {E : Emb} {H : Heap} {w : World}

theorem heap_alloc_last (w1 : World) (o : Obj) : (w1.alloc o).heap[w1.heap.size]? = some o := by
  show (w1.heap.push o)[w1.heap.size]? = _
  simp

theorem frozen_alloc_past {w1 : World} {C1 : Array Value} {ty n o : Nat} (h : o < n) : (w1.alloc (.cells C1 ty (n, n + 1))).frozen? ⟨w1.heap.size, o, none⟩ = false := by
  have : (w1.alloc (.cells C1 ty (n, n + 1))).heap[w1.heap.size]? = some (.cells C1 ty (n, n + 1)) := heap_alloc_last _ _
  simp only [World.frozen?, this]
  rw [decide_eq_false (show ¬ n ≤ o by omega)]
  rfl

theorem cell_alloc_frozen {w1 : World} {C1 : Array Value} {ty o : Nat} {fr : Nat × Nat} : (w1.alloc (.cells C1 ty fr)).cell? ⟨w1.heap.size, o, none⟩ = C1[o]? := by
  have : (w1.alloc (.cells C1 ty fr)).heap[w1.heap.size]? = some (.cells C1 ty fr) := heap_alloc_last _ _
  simp only [World.cell?, this]
  rfl

/-- Text to bytes: a new row, with a mark behind its last cell. -/
theorem text_ok (hw : WRel C w0 E H w) (hfree : H.blk H.next = none) {s d e : TypeId} (hs : P.underlying s = some .string) (hd : P.underlying d = some (.slice e)) (he : P.underlying e = some (.int .u8)) {l : List Nat} {xv : Value} (hx : Rep C E (.str l) xv) :
    ∃ y E' w', (convert s d xv).run P w = .ok y w' ∧ E.le E' ∧ WRel C w0 E' (H.push (.row e 1 (l.map fun (c : Nat) => [AV.int .u8 (c : Int)]) 0 0)) w' ∧ Rep C E' (.slice H.next 0 l.length l.length false 0) y := by
  obtain ⟨t, rfl, hl⟩ := rep_str hx
  have hrun := run_bytes_of_string (P := P) w s d e t hs hd he
  generalize hcap : grownCap w t.size 0 e = cap at hrun
  have hge : t.size ≤ cap := hcap ▸ grownCap_ge w t.size 0 e
  have hsz : t.size = l.length := by rw [← hl]; simp only [strOf, List.length_map, Array.length_toList]; rfl
  have hrow : (bytesRow t cap).size = cap := by simp [bytesRow]; have : t.data.size = t.size := rfl; omega
  rw [hrow] at hrun
  let els := l.map fun (c : Nat) => [AV.int .u8 (c : Int)]
  let L : Loc := ⟨w.heap.size, 0, 0, els.length, 1, cap⟩
  have hel : els.length = l.length := by simp [els]
  have hll : ∀ cs ∈ els, cs.length = 1 := fun cs hc => by simp [els] at hc; obtain ⟨c, _, rfl⟩ := hc; rfl
  have hnew := hw.newRow hfree (w' := w.drew.alloc (.cells (bytesRow t cap) e (cap, cap + 1))) ((Chg.drew w _).trans (Chg.alloc w.drew _ _)) e 1 els L rfl (by simp) rfl rfl rfl hll (by simp [L]; omega)
    (fun o ho => by
      simp only [L] at ho ⊢
      refine ⟨?_, frozen_alloc_past ho⟩
      rw [show w.heap.size = w.drew.heap.size from rfl, cell_alloc_frozen, Array.getElem?_eq_getElem (by rw [hrow]; exact ho)]; rfl)
    (fun i j cs c hi h3 h4 => by
      have hi' : i < l.length := by have := (List.getElem?_eq_some_iff.1 h3).1; omega
      obtain ⟨n, hn⟩ : ∃ n, l[i]? = some n := ⟨_, List.getElem?_eq_getElem hi'⟩
      have hcs : cs = [AV.int .u8 (n : Int)] := by simp [els, hn] at h3; exact h3.symm
      subst hcs
      have hj : j = 0 := by have := (List.getElem?_eq_some_iff.1 h4).1; simp at this; exact this
      subst hj
      simp at h4
      subst h4
      refine ⟨.int .u8 n, ?_, .int _ _⟩
      simp only [L, Nat.zero_add, Nat.mul_one, Nat.sub_zero, Nat.add_zero]
      rw [show w.heap.size = w.drew.heap.size from rfl, cell_alloc_frozen]
      have hti : i < t.data.size := by have : t.data.size = t.size := rfl; omega
      rw [bytesRow, Array.getElem?_append_left (by simpa using hti), Array.getElem?_map, Array.getElem?_eq_getElem hti]
      simp only [Option.map_some, Option.some.injEq, Value.int.injEq, true_and]
      rw [← hl] at hn
      simp [strOf, Array.getElem?_eq_getElem hti] at hn
      rw [← hn])
  refine ⟨_, _, _, hrun, hnew.1, hnew.2, ?_⟩
  rw [hsz]
  exact .slice _ 0 l.length l.length false 0 L _ cap (Emb.set_same _ _ _ _) (by simp [L]) (by simp [L, hel]) (Nat.le_refl _) (by omega) (by simp) (fun _ => by simp [L]) (by simp [L])

theorem textOp_ok (hw : WRel C w0 E H w) {s d : TypeId} {x r : AV} {xv : Value} {H' : Heap} (hfree : H.blk H.next = none ∨ H'.next = H.next) (ht : isTextT P s d = true) (h : evText P H d x = some (r, H')) (hx : Rep C E x xv) :
    ∃ y E' w', (convert s d xv).run P w = .ok y w' ∧ E.le E' ∧ WRel C w0 E' H' w' ∧ Rep C E' r y := by
  unfold isTextT at ht
  split at ht
  · rename_i e hs hd
    unfold evText at h
    split at h
    · rename_i e2 l hd2
      split at h
      · rename_i he
        cases h
        exact text_ok hw (hfree.resolve_right (by simp [Heap.push])) hs hd2 he hx
      · cases h
    · cases h
  · cases ht
end
end Go.Ev
