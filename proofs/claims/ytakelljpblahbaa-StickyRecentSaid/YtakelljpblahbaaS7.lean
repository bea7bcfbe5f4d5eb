import Derived.Test.YtakelljpblahbaaS6
set_option linter.unusedVariables false
set_option linter.unusedSimpArgs false
set_option maxRecDepth 100000
namespace Go.Proofs.T
open Go.Ev

/-! ### A map's entries, by their keys -/
abbrev Ents := List (List Nat × AV × Nat)
def ent (M : Ents) : List (AV × AV × Nat) := M.map fun e => (.str e.1, e.2.1, e.2.2)
def fk (l : List Nat) : Ents → Nat → Option (Nat × AV × Nat)
  | [], _ => none
  | (k, x, n) :: M, i => if l = k then some (i, x, n) else fk l M (i + 1)
def vl (l : List Nat) (M : Ents) : Option AV := (fk l M 0).map (·.2.1)

theorem findK_ent (l : List Nat) : ∀ (M : Ents) (i : Nat), findK l (ent M) i = some (fk l M i)
  | [], i => rfl
  | (k, x, n) :: M, i => by
    simp only [ent, List.map_cons, findK, fk]
    split
    · rfl
    · exact findK_ent l M (i + 1)

theorem fk_shift (l : List Nat) : ∀ (M : Ents) (i : Nat), fk l M (i + 1) = (fk l M i).map fun r => (r.1 + 1, r.2)
  | [], i => rfl
  | (k, x, n) :: M, i => by
    simp only [fk]
    split
    · rfl
    · exact fk_shift l M (i + 1)

theorem vl_cons (l : List Nat) (k : List Nat) (x : AV) (n : Nat) (M : Ents) : vl l ((k, x, n) :: M) = if l = k then some x else vl l M := by
  simp only [vl, fk]
  split
  · rfl
  · rw [fk_shift]; simp [Option.map_map, Function.comp_def]

theorem vl_none {l : List Nat} : ∀ {M : Ents}, vl l M = none ↔ l ∉ M.map Prod.fst
  | [] => by simp [vl, fk]
  | (k, x, n) :: M => by
    rw [vl_cons]
    by_cases h : l = k
    · simp [h]
    · simp only [h, if_false, List.map_cons, List.mem_cons, false_or]; exact vl_none

theorem fk_none {l : List Nat} {M : Ents} : fk l M 0 = none ↔ vl l M = none := by simp [vl]

theorem fk_some {l : List Nat} : ∀ {M : Ents} {i : Nat} {x : AV} {n : Nat}, fk l M 0 = some (i, x, n) → M[i]? = some (l, x, n) ∧ vl l M = some x
  | (k, y, m) :: M, i, x, n, h => by
    simp only [fk] at h
    by_cases hk : l = k
    · rw [if_pos hk] at h
      simp only [Option.some.injEq, Prod.mk.injEq] at h
      obtain ⟨rfl, rfl, rfl⟩ := h
      exact ⟨by rw [hk]; rfl, by rw [vl_cons, if_pos hk]⟩
    · rw [if_neg hk, fk_shift] at h
      simp only [Option.map_eq_some_iff] at h
      obtain ⟨⟨i', x', n'⟩, h1, h2⟩ := h
      simp only [Prod.mk.injEq] at h2
      obtain ⟨rfl, rfl, rfl⟩ := h2
      obtain ⟨q1, q2⟩ := fk_some h1
      exact ⟨by simpa using q1, by rw [vl_cons, if_neg hk, q2]⟩

theorem vl_set {l : List Nat} {x : AV} {n : Nat} (k : List Nat) : ∀ {M : Ents} {i : Nat} {x0 : AV} {n0 : Nat}, fk l M 0 = some (i, x0, n0) → vl k (M.set i (l, x, n)) = if k = l then some x else vl k M
  | (k', y, m) :: M, i, x0, n0, h => by
    simp only [fk] at h
    by_cases hk : l = k'
    · rw [if_pos hk] at h
      simp only [Option.some.injEq, Prod.mk.injEq] at h
      obtain ⟨rfl, rfl, rfl⟩ := h
      rw [List.set_cons_zero, vl_cons, vl_cons, hk]
      by_cases hkl : k = k' <;> simp [hkl]
    · rw [if_neg hk, fk_shift] at h
      simp only [Option.map_eq_some_iff] at h
      obtain ⟨⟨i', x', n'⟩, h1, h2⟩ := h
      simp only [Prod.mk.injEq] at h2
      obtain ⟨rfl, rfl, rfl⟩ := h2
      rw [List.set_cons_succ, vl_cons, vl_cons, vl_set k h1]
      by_cases hkl : k = k'
      · have : k ≠ l := fun e => hk (by rw [← e, hkl])
        rw [if_pos hkl, if_neg this, if_pos hkl]
      · rw [if_neg hkl, if_neg hkl]

theorem vl_snoc {l : List Nat} {x : AV} {n : Nat} (k : List Nat) : ∀ {M : Ents}, vl l M = none → vl k (M ++ [(l, x, n)]) = if k = l then some x else vl k M
  | [], _ => by rw [List.nil_append, vl_cons]
  | (k', y, m) :: M, h => by
    rw [vl_cons] at h
    split at h
    · cases h
    · rename_i hk
      rw [List.cons_append, vl_cons, vl_cons, vl_snoc k h]
      by_cases hkl : k = k'
      · have : k ≠ l := fun e => hk (by rw [← e, hkl])
        rw [if_pos hkl, if_neg this, if_pos hkl]
      · rw [if_neg hkl, if_neg hkl]

theorem vl_erase {l : List Nat} (k : List Nat) : ∀ {M : Ents} {i : Nat} {x0 : AV} {n0 : Nat}, (M.map Prod.fst).Nodup → fk l M 0 = some (i, x0, n0) → vl k (M.eraseIdx i) = if k = l then none else vl k M
  | (k', y, m) :: M, i, x0, n0, hnd, h => by
    simp only [List.map_cons, List.nodup_cons] at hnd
    simp only [fk] at h
    by_cases hk : l = k'
    · rw [if_pos hk] at h
      simp only [Option.some.injEq, Prod.mk.injEq] at h
      obtain ⟨rfl, rfl, rfl⟩ := h
      rw [List.eraseIdx_cons_zero, vl_cons, hk]
      by_cases hkl : k = k'
      · rw [if_pos hkl, hkl]; exact vl_none.2 hnd.1
      · simp [hkl]
    · rw [if_neg hk, fk_shift] at h
      simp only [Option.map_eq_some_iff] at h
      obtain ⟨⟨i', x', n'⟩, h1, h2⟩ := h
      simp only [Prod.mk.injEq] at h2
      obtain ⟨rfl, rfl, rfl⟩ := h2
      rw [List.eraseIdx_cons_succ, vl_cons, vl_cons, vl_erase k hnd.2 h1]
      by_cases hkl : k = k'
      · have : k ≠ l := fun e => hk (by rw [← e, hkl])
        rw [if_pos hkl, if_neg this, if_pos hkl]
      · rw [if_neg hkl, if_neg hkl]

theorem ent_set (M : Ents) (i : Nat) (l : List Nat) (x : AV) (n : Nat) : (ent M).set i (.str l, x, n) = ent (M.set i (l, x, n)) := by simp [ent, List.map_set]
theorem ent_snoc (M : Ents) (l : List Nat) (x : AV) (n : Nat) : ent M ++ [(.str l, x, n)] = ent (M ++ [(l, x, n)]) := by simp [ent]
theorem ent_erase : ∀ (M : Ents) (i : Nat), (ent M).eraseIdx i = ent (M.eraseIdx i)
  | [], i => rfl
  | e :: M, 0 => rfl
  | e :: M, i + 1 => by
    have := ent_erase M i
    simp only [ent, List.map_cons, List.eraseIdx_cons_succ] at this ⊢
    rw [this]

theorem nodup_set {M : Ents} {l : List Nat} {i : Nat} {x0 x : AV} {n0 n : Nat} (h : (M.map Prod.fst).Nodup) (hf : fk l M 0 = some (i, x0, n0)) : ((M.set i (l, x, n)).map Prod.fst).Nodup := by
  have := (fk_some hf).1
  have e : (M.set i (l, x, n)).map Prod.fst = M.map Prod.fst := by
    rw [List.map_set]
    apply List.ext_getElem?
    intro j
    rw [List.getElem?_set]
    split
    · rename_i hij
      subst hij
      split
      · simp [this]
      · rename_i hlt; rw [List.getElem?_eq_none (by omega)]
    · rfl
  rw [e]; exact h
theorem nodup_snoc {M : Ents} {l : List Nat} {x : AV} {n : Nat} (h : (M.map Prod.fst).Nodup) (hf : vl l M = none) : ((M ++ [(l, x, n)]).map Prod.fst).Nodup := by
  rw [List.map_append, List.nodup_append]
  refine ⟨h, by simp, fun a ha b hb => ?_⟩
  simp at hb
  subst hb
  exact fun e => vl_none.1 hf (e ▸ ha)
theorem nodup_erase {M : Ents} {i : Nat} (h : (M.map Prod.fst).Nodup) : ((M.eraseIdx i).map Prod.fst).Nodup :=
  h.sublist ((List.eraseIdx_sublist _ i).map _)

/-! ### The list of what is stored, the least recently used first -/
abbrev Stored := List (List Nat × Int)
def lk (key : List Nat) (L : Stored) : Option Int := (L.find? fun e => e.1 == key).map Prod.snd
def without (key : List Nat) (L : Stored) : Stored := L.filter fun e => keep key e.1

theorem lk_cons (key : List Nat) (e : List Nat × Int) (L : Stored) : lk key (e :: L) = if e.1 = key then some e.2 else lk key L := by
  simp only [lk, List.find?_cons]
  by_cases h : e.1 = key
  · simp [h]
  · have h' : (e.1 == key) = false := by simpa using h
    rw [h', if_neg h]
theorem lk_none {key : List Nat} : ∀ {L : Stored}, lk key L = none ↔ key ∉ L.map Prod.fst
  | [] => by simp [lk]
  | e :: L => by
    rw [lk_cons]
    by_cases h : e.1 = key
    · simp [h]
    · simp only [h, if_false, List.map_cons, List.mem_cons, not_or]
      rw [lk_none]
      exact ⟨fun q => ⟨fun e' => h e'.symm, q⟩, fun q => q.2⟩
theorem lk_without (key k : List Nat) : ∀ (L : Stored), lk k (without key L) = if k = key then none else lk k L
  | [] => by simp [lk, without]
  | e :: L => by
    have ih := lk_without key k L
    simp only [without, List.filter_cons] at ih ⊢
    by_cases he : e.1 = key
    · have hk' : keep key e.1 = false := by simp [keep, he]
      simp only [hk', Bool.false_eq_true, if_false]
      rw [ih, lk_cons]
      by_cases hk : k = key
      · simp [hk]
      · simp only [hk, if_false]; rw [if_neg (fun q => hk (by rw [← q, he]))]
    · have : keep key e.1 = true := by simp [keep, he]
      simp only [this, if_true]
      rw [lk_cons, lk_cons, ih]
      by_cases hk : k = key
      · simp only [hk, if_true]; rw [if_neg he]
      · simp only [hk, if_false]
theorem lk_append (k : List Nat) : ∀ (L L' : Stored), lk k (L ++ L') = (lk k L).or (lk k L')
  | [], L' => by simp [lk]
  | e :: L, L' => by
    rw [List.cons_append, lk_cons, lk_cons, lk_append k L L']
    split <;> rfl
theorem lk_push (key k : List Nat) (n : Int) (L : Stored) : lk k (without key L ++ [(key, n)]) = if k = key then some n else lk k L := by
  rw [lk_append, lk_without, lk_cons]
  by_cases hk : k = key
  · simp [hk]
  · simp only [hk, if_false]
    rw [if_neg (fun q => hk q.symm)]
    simp [lk]
theorem without_fst (key : List Nat) (L : Stored) : (without key L).map Prod.fst = (L.map Prod.fst).filter (keep key) := by
  simp only [without, List.filter_map]; rfl
theorem without_nodup {key : List Nat} {L : Stored} (h : (L.map Prod.fst).Nodup) : ((without key L).map Prod.fst).Nodup := by
  rw [without_fst]; exact h.filter _
theorem push_nodup {key : List Nat} {n : Int} {L : Stored} (h : (L.map Prod.fst).Nodup) : ((without key L ++ [(key, n)]).map Prod.fst).Nodup := by
  rw [List.map_append, List.nodup_append]
  refine ⟨without_nodup h, by simp, fun a ha b hb => ?_⟩
  simp at hb
  subst hb
  rw [without_fst, List.mem_filter] at ha
  intro e
  subst e
  simp [keep] at ha
theorem without_len (key : List Nat) (L : Stored) : (without key L).length ≤ L.length := List.length_filter_le _ _

theorem _root_.Go.Ev.Holds.off {H H' : Heap} {esz : Nat} {v : AV} {L : List (List AV)} (h : Holds H esz v L) {B : Nat → Prop} (ho : Off B H H') (hB : ∀ b, blkOf v = some b → ¬ B b) : Holds H' esz v L := by
  obtain ⟨h0, h | h | ⟨b, off, cap, ex, g, ty, els, gen, wgen, rfl, h2, h3⟩⟩ := h
  · exact ⟨h0, .inl h⟩
  · exact ⟨h0, .inr (.inl h)⟩
  · exact ⟨h0, .inr (.inr ⟨b, off, cap, ex, g, ty, els, gen, wgen, rfl, ho _ _ (hB b rfl) h2, h3⟩)⟩

/-- A cache that New returned. -/
structure CInv (H : Heap) (Fg : Nat → Prop) (cx cm : Nat) (kv : AV) (sz h m : Int) (M : Ents) (cl : Nat) (L : Stored) : Prop where
  row : H.blk cx = some (cacheRow sz cm kv h m)
  map : H.blk cm = some (.map (ent M) cl)
  keys : Keys H kv (L.map Prod.fst)
  ents : ∀ key, match lk key L with
    | some n => ∃ g, vl key M = some (.agg (ptN g n)) ∧ Holds H 5 g [vi 2 n] ∧ ∀ b, blkOf g = some b → Fg b
    | none => vl key M = none
  nod : (M.map Prod.fst).Nodup
  nodL : (L.map Prod.fst).Nodup
  ne : cx ≠ cm
  gx : ¬ Fg cx
  gm : ¬ Fg cm
  kx : ∀ b, blkOf kv = some b → b ≠ cx ∧ b ≠ cm ∧ ¬ Fg b
  dom : ∀ b, Fg b → H.blk b ≠ none
  size : 1 ≤ sz ∧ sz ≤ 64
  len : L.length ≤ 100

def Cache (H : Heap) (F : Nat → Prop) (cx : Nat) (sz h m : Int) (L : Stored) : Prop :=
  ∃ Fg cm kv M cl, CInv H Fg cx cm kv sz h m M cl L ∧ ∀ b, F b ↔ (b = cx ∨ b = cm ∨ blkOf kv = some b ∨ Fg b)

theorem Keys.dom {H : Heap} {kv : AV} {K : List (List Nat)} (h : Keys H kv K) : ∀ b, blkOf kv = some b → H.blk b ≠ none := by
  intro b hb
  rcases h with ⟨_, rfl⟩ | ⟨b', c, els, g, ty, wgen, rfl, h2, _⟩
  · cases hb
  · cases hb; rw [h2]; simp

theorem CInv.off {H H' : Heap} {Fg : Nat → Prop} {cx cm : Nat} {kv : AV} {sz h m : Int} {M : Ents} {cl : Nat} {L : Stored} (hC : CInv H Fg cx cm kv sz h m M cl L) {B : Nat → Prop} (ho : Off B H H')
    (h1 : ¬ B cx) (h2 : ¬ B cm) (h3 : ∀ b, blkOf kv = some b → ¬ B b) (h4 : ∀ b, Fg b → ¬ B b) : CInv H' Fg cx cm kv sz h m M cl L := by
  refine ⟨ho _ _ h1 hC.row, ho _ _ h2 hC.map, hC.keys.off ho h3, fun key => ?_, hC.nod, hC.nodL, hC.ne, hC.gx, hC.gm, hC.kx, fun b hb => ?_, hC.size, hC.len⟩
  · have := hC.ents key
    split at this
    · rename_i n hn
      obtain ⟨g, q1, q2, q3⟩ := this
      exact ⟨g, q1, Holds.off q2 ho (fun b hb => h4 b (q3 b hb)), q3⟩
    · exact this
  · cases hx : H.blk b with
    | none => exact absurd hx (hC.dom b hb)
    | some x => rw [ho _ _ (h4 b hb) hx]; simp

theorem CInv.up {H H' : Heap} {Fg : Nat → Prop} {cx cm : Nat} {kv : AV} {sz h m : Int} {M : Ents} {cl : Nat} {L : Stored} (hC : CInv H Fg cx cm kv sz h m M cl L) (hU : Up H H') : CInv H' Fg cx cm kv sz h m M cl L :=
  hC.off (B := fun _ => False) (Off.of_up hU) id id (fun _ _ => id) (fun _ _ => id)

theorem Cache.dom {H : Heap} {F : Nat → Prop} {cx : Nat} {sz h m : Int} {L : Stored} (hC : Cache H F cx sz h m L) : ∀ b, F b → H.blk b ≠ none := by
  obtain ⟨Fg, cm, kv, M, cl, hC, hF⟩ := hC
  intro b hb
  rcases (hF b).1 hb with rfl | rfl | hb | hb
  · rw [hC.row]; simp
  · rw [hC.map]; simp
  · exact hC.keys.dom b hb
  · exact hC.dom b hb

theorem Cache.off {H H' : Heap} {F : Nat → Prop} {cx : Nat} {sz h m : Int} {L : Stored} (hC : Cache H F cx sz h m L) {B : Nat → Prop} (ho : Off B H H') (hB : ∀ b, F b → ¬ B b) : Cache H' F cx sz h m L := by
  obtain ⟨Fg, cm, kv, M, cl, hC, hF⟩ := hC
  exact ⟨Fg, cm, kv, M, cl, hC.off ho (hB _ ((hF _).2 (.inl rfl))) (hB _ ((hF _).2 (.inr (.inl rfl)))) (fun b hb => hB _ ((hF _).2 (.inr (.inr (.inl hb))))) (fun b hb => hB _ ((hF _).2 (.inr (.inr (.inr hb))))), hF⟩

theorem Cache.up {H H' : Heap} {F : Nat → Prop} {cx : Nat} {sz h m : Int} {L : Stored} (hC : Cache H F cx sz h m L) (hU : Up H H') : Cache H' F cx sz h m L := hC.off (B := fun _ => False) (Off.of_up hU) (fun _ _ => id)
end Go.Proofs.T
