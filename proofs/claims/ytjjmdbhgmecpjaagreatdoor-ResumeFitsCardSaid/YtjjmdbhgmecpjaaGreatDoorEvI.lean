import Derived.Test.YtjjmdbhgmecpjaaGreatDoorEvH
import Derived.Laws.AppendOwn
set_option linter.unusedVariables false
set_option linter.unusedSimpArgs false
namespace Go.Ev
section
variable {P : Program} {C : Mem} {w0 : World} {E : Emb} {H : Heap} {w : World}

theorem flatten_get : ∀ {es : List (List AV)} {esz : Nat}, (∀ cs ∈ es, cs.length = esz) → ∀ (q : Nat) (c : AV), es.flatten[q]? = some c → ∃ i j cs, q = i * esz + j ∧ es[i]? = some cs ∧ cs[j]? = some c ∧ j < esz
  | [], esz, _, q, c, h => by simp at h
  | e :: es, esz, hl, q, c, h => by
    have he := hl e (by simp)
    simp only [List.flatten_cons] at h
    by_cases hq : q < e.length
    · rw [List.getElem?_append_left hq] at h
      exact ⟨0, q, e, by omega, rfl, h, by omega⟩
    · rw [List.getElem?_append_right (by omega)] at h
      obtain ⟨i, j, cs, h1, h2, h3, h4⟩ := flatten_get (fun cs hc => hl cs (by simp [hc])) (q - e.length) c h
      exact ⟨i + 1, j, cs, by rw [Nat.add_mul]; omega, by simpa using h2, h3, h4⟩

theorem flatten_at : ∀ {es : List (List AV)} {esz : Nat}, (∀ cs ∈ es, cs.length = esz) → ∀ (i j : Nat) (cs : List AV) (c : AV), es[i]? = some cs → cs[j]? = some c → es.flatten[i * esz + j]? = some c
  | [], esz, _, i, j, cs, c, h, _ => by simp at h
  | e :: es, esz, hl, 0, j, cs, c, h, h' => by
    simp at h; subst h
    rw [List.flatten_cons, List.getElem?_append_left (by have := (List.getElem?_eq_some_iff.1 h').1; omega)]
    simpa using h'
  | e :: es, esz, hl, i + 1, j, cs, c, h, h' => by
    have he := hl e (by simp)
    rw [List.flatten_cons, List.getElem?_append_right (by rw [Nat.add_mul]; omega)]
    have := flatten_at (es := es) (fun cs hc => hl cs (by simp [hc])) i j cs c (by simpa using h) h'
    rw [show (i + 1) * esz + j - e.length = i * esz + j by rw [Nat.add_mul]; omega]
    exact this

theorem flatten_len : ∀ {es : List (List AV)} {esz : Nat}, (∀ cs ∈ es, cs.length = esz) → es.flatten.length = es.length * esz
  | [], esz, _ => by simp
  | e :: es, esz, hl => by
    rw [List.flatten_cons, List.length_append, flatten_len (fun cs hc => hl cs (by simp [hc])), hl e (by simp), List.length_cons, Nat.add_mul]
    omega

/-- The first elements of what is appended or copied. -/
theorem elems_ok (hw : WRel C w0 E H w) {a : AV} {u : Value} {esz n : Nat} {new : List (List AV)} (h : H.elems esz n a = some new) (hu : Rep C E a u) :
    ∃ vs, RepL C E new.flatten vs ∧ new.length = n ∧ (∀ cs ∈ new, cs.length = esz) ∧ ∀ w' : World, (∀ a, w'.cell? a = w.cell? a) → (Builtin.firstCells esz n u).run P w' = .ok vs.toArray w' := by
  unfold Heap.elems at h
  split at h
  · split at h
    · rename_i hn
      cases h; subst hn
      cases hu
      exact ⟨[], .nil, rfl, by simp, fun w' _ => by simp [Builtin.firstCells]⟩
    · cases h
  · split at h
    · rename_i hn
      cases h; subst hn
      cases hu
      exact ⟨[], .nil, rfl, by simp, fun w' _ => by simp [Builtin.firstCells, loadCells, loadCellsFrom]⟩
    · cases h
  · rename_i b off len cap ex g
    split at h
    · rename_i ty sz els gen wgen hb
      split at h
      · rename_i hg
        obtain ⟨hg, rfl, hn⟩ := hg
        cases h
        cases hu with
        | slice _ _ _ _ _ _ L ad rc hL h1 h2 h3 h4 h5 h6 h7 =>
          obtain ⟨L', hL', hl⟩ := (hw.row _ _ _ _ _ _ hb).loc g hg ((hw.dom _ _ _ hL).2.2 _ _ _ _ _ hb)
          rw [hL] at hL'; cases hL'
          have hlen := (hw.row _ _ _ _ _ _ hb).len
          have hext := hl.ext
          have hsub : ∀ cs ∈ (els.drop off).take n, cs.length = sz := fun cs hc => hlen cs (List.mem_of_mem_drop (List.mem_of_mem_take hc))
          have hnl : ((els.drop off).take n).length = n := by simp; omega
          obtain ⟨vs, r1, r2⟩ := choose_cells (C := C) (E := E) (w := w) (blk := L.blk) ((els.drop off).take n).flatten (L.co + (off - L.lo) * sz) (fun q c hq => by
            obtain ⟨i, j, cs, e1, e2, e3, e4⟩ := flatten_get hsub q c hq
            rw [List.getElem?_take] at e2
            split at e2
            · rw [List.getElem?_drop] at e2
              obtain ⟨v, hv, hr⟩ := hl.cell (off + i) j cs c (by omega) (by omega) e2 e3
              refine ⟨v, ?_, hr⟩
              rw [show off + i - L.lo = (off - L.lo) + i by omega, Nat.add_mul] at hv
              rw [e1]
              rw [show L.co + (off - L.lo) * sz + (i * sz + j) = L.co + ((off - L.lo) * sz + i * sz) + j by omega]
              exact hv
            · cases e2)
          refine ⟨vs, r1, hnl, hsub, fun w' hw' => ?_⟩
          have hvl : vs.length = n * sz := by rw [r1.length, flatten_len hsub, hnl]
          rcases Nat.eq_zero_or_pos rc with h0 | h0
          · have : n = 0 := by omega
            subst this
            have : vs = [] := List.eq_nil_of_length_eq_zero (by simpa using hvl)
            subst this
            simp [Builtin.firstCells, loadCells, loadCellsFrom]
          · have had := h6 h0
            subst had
            exact run_firstCells_some w' sz n _ _ _ vs hvl (fun j v hj => by rw [hw', Addr.add_lit, hl.sz]; exact r2 j v hj)
      · cases h
    · cases h
  · rename_i sz es
    split at h
    · rename_i hg
      obtain ⟨rfl, hn⟩ := hg
      cases h
      cases hu with
      | lst _ _ blk co len rc ad hE h1 h2 h6 =>
        have hsub : ∀ cs ∈ es.take n, cs.length = sz := fun cs hc => by
          obtain ⟨i, hi⟩ := List.getElem?_of_mem (List.mem_of_mem_take hc)
          exact (hE.get i cs hi).1
        have hnl : (es.take n).length = n := by simp; omega
        obtain ⟨vs, r1, r2⟩ := choose_cells (C := C) (E := E) (w := w) (blk := blk) (es.take n).flatten co (fun q c hq => by
          obtain ⟨i, j, cs, e1, e2, e3, e4⟩ := flatten_get hsub q c hq
          rw [List.getElem?_take] at e2
          split at e2
          · obtain ⟨_, hm⟩ := hE.get i cs e2
            obtain ⟨v, hv, hr⟩ := hm.get j c e3
            exact ⟨v, by rw [e1, ← Nat.add_assoc]; exact (hw.mem _ _ _ hv).2, hr⟩
          · cases e2)
        refine ⟨vs, r1, hnl, hsub, fun w' hw' => ?_⟩
        have hvl : vs.length = n * sz := by rw [r1.length, flatten_len hsub, hnl]
        rcases Nat.eq_zero_or_pos rc with h0 | h0
        · have : n = 0 := by omega
          subst this
          have : vs = [] := List.eq_nil_of_length_eq_zero (by simpa using hvl)
          subst this
          simp [Builtin.firstCells, loadCells, loadCellsFrom]
        · have had := h6 h0
          subst had
          exact run_firstCells_some w' sz n _ _ _ vs hvl (fun j v hj => by rw [hw', Addr.add_lit]; exact r2 j v hj)
    · cases h
  · rename_i s
    split at h
    · rename_i hg
      obtain ⟨rfl, hn⟩ := hg
      cases h
      obtain ⟨s', rfl, rfl⟩ := rep_str hu
      have hone : ∀ cs ∈ (((strOf s').take n).map fun (c : Nat) => [AV.int .u8 (c : Int)]), cs.length = 1 := by
        intro cs hc; obtain ⟨c, _, rfl⟩ := List.mem_map.1 hc; rfl
      refine ⟨(s'.data.toList.take n).map fun b => Value.int .u8 b.toNat, ?_, by simp; omega, hone, fun w' hw' => ?_⟩
      · have : ∀ l : List UInt8, RepL C E (((l.map UInt8.toNat).map fun (c : Nat) => [AV.int .u8 (c : Int)]).flatten) (l.map fun b => Value.int .u8 b.toNat) := by
          intro l
          induction l with
          | nil => exact .nil
          | cons b l ih => simpa using RepL.cons _ _ _ _ (.int _ _) ih
        have h2 := this (s'.data.toList.take n)
        unfold strOf
        rw [← List.map_take]
        exact h2
      · simp only [Builtin.firstCells, Sem.run_pure]
        congr 1
        apply Array.ext'
        simp [List.map_take]
    · cases h
  · cases h

theorem len_ok {a : AV} {u : Value} {n : Nat} (h : a.len? = some n) (hu : Rep C E a u) (w' : World) : (Builtin.lenOf u).run P w' = .ok n w' := by
  unfold AV.len? at h
  split at h <;> first | (cases h; done) | skip
  all_goals cases h
  · cases hu; simp [Builtin.lenOf]
  · cases hu; simp [Builtin.lenOf]
  · cases hu; simp [Builtin.lenOf]
  · cases hu with
    | lst _ _ blk co len rc ad hE h1 h2 h6 => subst h1; simp [Builtin.lenOf]
  · obtain ⟨s, rfl, rfl⟩ := rep_str hu; simp [Builtin.lenOf, strOf_length]

section run
variable {t u ty e : TypeId} {i : TypeInfo} {z : Value} {d : TypeDesc} {x : Value} {n : Nat} {news : List Value}

set_option maxHeartbeats 8000000 in
theorem run_append_fits (ht : P.underlying t = some (.slice e)) (hu : P.underlying u = some d) (hd : ∀ k, d ≠ .int k) (hi : P.info? e = some i) (hx : (Builtin.lenOf x).run P w = .ok n w)
    (hf : (Builtin.firstCells i.size n x).run P w = .ok news.toArray w) {a : Addr} {sLen sCap : Nat} (hfit : sLen + n ≤ sCap) {w' : World} (hst : (storeCells (a.add (sLen * i.size)) news).run P w = .ok () w') :
    (Builtin.append_ #[t, u] ty #[.slice (some a) sLen sCap, x]).run P w = .ok (.slice (some a) (sLen + n) sCap) w' := by
  cases d <;> first | (exact absurd rfl (hd _)) | simp [Builtin.append_, run_underlying ht, run_underlying hu, sizeOf, typeInfo, hi, hx, hf, hfit, hst]

set_option maxHeartbeats 8000000 in
theorem run_append_none (ht : P.underlying t = some (.slice e)) (hu : P.underlying u = some d) (hd : ∀ k, d ≠ .int k) (hi : P.info? e = some i) (hx : (Builtin.lenOf x).run P w = .ok 0 w)
    (hf : (Builtin.firstCells i.size 0 x).run P w = .ok #[] w) : (Builtin.append_ #[t, u] ty #[.slice none 0 0, x]).run P w = .ok (.slice none 0 0) w := by
  cases d <;> first | (exact absurd rfl (hd _)) | simp [Builtin.append_, run_underlying ht, run_underlying hu, sizeOf, typeInfo, hi, hx, hf]

set_option maxHeartbeats 8000000 in
theorem run_append_new (ht : P.underlying t = some (.slice e)) (hu : P.underlying u = some d) (hd : ∀ k, d ≠ .int k) (hi : P.info? e = some i) (hz : i.zero = some z) (hx : (Builtin.lenOf x).run P w = .ok n w)
    (hf : (Builtin.firstCells i.size n x).run P w.drew = .ok news.toArray w.drew) {base : Option Addr} {sLen sCap : Nat} {olds : List Value}
    (ho : (Builtin.firstCells i.size sLen (.slice base sLen sCap)).run P w.drew = .ok olds.toArray w.drew) (hfit : sCap < sLen + n) (hb : (sLen + n) * i.bytes ≤ 140737488355328) (hl : sLen + n ≤ 140737488355328) :
    (Builtin.append_ #[t, u] ty #[.slice base sLen sCap, x]).run P w =
      .ok (.slice (some ⟨w.heap.size, 0, none⟩) (sLen + n) (grownCap w (sLen + n) sCap e))
        (w.drew.alloc (.cells (olds.toArray ++ news.toArray ++ Builtin.zeroCells z.cells (grownCap w (sLen + n) sCap e - (sLen + n))) e)) := by
  have hn : ¬ (sLen + n ≤ sCap) := by omega
  have h63' : ¬ (9223372036854775807 < ((sLen : Int) + (n : Int))) := by omega
  have h48' : ¬ (281474976710656 < Builtin.nextslicecap (sLen + n) sCap * i.bytes) := by
    have := growslice_fits (bytes := i.bytes) hfit hb
    omega
  cases d <;> first
    | (exact absurd rfl (hd _))
    | (simp [Builtin.append_, run_underlying ht, run_underlying hu, sizeOf, typeInfo, zeroValue, hi, hz, hx, hn, h63', h48', Question.forced, hf, ho, newRow, grownCap]
       done)
    | (simp [Builtin.append_, run_underlying ht, run_underlying hu, sizeOf, typeInfo, zeroValue, hi, hz, hx, hn, h63', h48', Question.forced, hf, ho, newRow, grownCap]
       congr 2
       apply Array.ext'
       simp [List.append_assoc])
end run

end
end Go.Ev
