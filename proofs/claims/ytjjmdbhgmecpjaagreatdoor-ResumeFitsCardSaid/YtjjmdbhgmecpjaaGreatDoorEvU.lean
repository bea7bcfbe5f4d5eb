import Derived.Test.YtjjmdbhgmecpjaaGreatDoorEvT
import GoSem.ClaimJoined
set_option linter.unusedVariables false
set_option linter.unusedSimpArgs false
namespace Go.Ev
section
variable (P : Program)

/-- The fields of a struct lie one behind the other. -/
def contig : List Field → Nat → Nat → Bool
  | [], off, tot => off == tot
  | f :: fs, off, tot => f.offset == off && contig fs (off + P.cellsOf f.type) tot

def layB (t : TypeId) : Bool :=
  match P.underlying t with
  | some (.struct fs) => contig P fs.toList 0 (P.cellsOf t)
  | _ => true

/-- The parts of a type lie in the table. -/
def kidB (n : Nat) (t : TypeId) : Bool :=
  match P.underlying t with
  | some (.struct fs) => fs.toList.all fun f => decide (f.type < n)
  | some (.slice e) => decide (e < n)
  | _ => true

/-- The cells of a value of type t that came in, read as a tree. -/
def Shp : Nat → TypeId → List AV → Prop
  | 0, _, _ => False
  | n + 1, t, as =>
    match P.underlying t with
    | some .bool => ∃ b, as = [.bool b]
    | some (.int k) => ∃ x, as = [.int k x] ∧ k.min ≤ x ∧ x ≤ k.max
    | some .string => ∃ l, as = [.str l] ∧ l.length ≤ reachBytes ∧ ∀ c ∈ l, c < 256
    | some (.slice e) => as = [.nilslice] ∨ (P.cellsOf e = 0 ∧ as = [.undef]) ∨ ∃ es, as = [.lst (P.cellsOf e) es] ∧ es.length * P.bytesOf e ≤ reachBytes ∧ ∀ cs ∈ es, cs.length = P.cellsOf e ∧ Shp n e cs
    | some (.struct fs) => as.length = P.cellsOf t ∧ ∀ f ∈ fs.toList, Shp n f.type ((as.drop f.offset).take (P.cellsOf f.type))
    | _ => True

theorem repL_undef {C : Mem} {E : Emb} : ∀ vs : List Value, RepL C E (vs.map fun _ => AV.undef) vs
  | [] => .nil
  | v :: vs => .cons _ _ _ _ (.undef v) (repL_undef vs)

theorem mapM_some_iff {α β : Type} {f : α → Option β} : ∀ {l : List α} {r : List β}, l.mapM f = some r → r.length = l.length ∧ ∀ (i : Nat) a, l[i]? = some a → ∃ b, f a = some b ∧ r[i]? = some b
  | [], r, h => by simp at h; subst h; simp
  | a :: l, r, h => by
    simp only [List.mapM_cons, Option.bind_eq_bind, Option.pure_def] at h
    cases ha : f a with
    | none => simp [ha] at h
    | some b =>
      cases hl : l.mapM f with
      | none => simp [ha, hl] at h
      | some bs =>
        simp [ha, hl] at h
        subst h
        obtain ⟨h1, h2⟩ := mapM_some_iff hl
        refine ⟨by simp [h1], fun i x hx => ?_⟩
        cases i with
        | zero => simp at hx; subst hx; exact ⟨b, ha, rfl⟩
        | succ i => simpa using h2 i x (by simpa using hx)

/-- Old memory. -/
def memOf (w : World) : Mem := fun b o => w.cell? ⟨b, o, none⟩

theorem repM_of {w : World} {E : Emb} {blk : Nat} : ∀ {as : List AV} {vs : List Value} {co : Nat}, RepL (memOf w) E as vs → (∀ j v, vs[j]? = some v → w.cell? ⟨blk, co + j, none⟩ = some v) → RepM (memOf w) E blk co as
  | _, _, _, .nil, _ => .nil _ _
  | _, _, co, .cons a v as vs h h', hc => .cons _ _ _ _ v (by simpa [memOf] using hc 0 v rfl) h (repM_of h' (fun j u hu => by rw [show co + 1 + j = co + (j + 1) by omega]; exact hc (j + 1) u (by simpa using hu)))

theorem cells_get {w : World} {a : Addr} {n : Nat} {cs : List Value} (h : w.cells? 0 a n = some cs) : cs.length = n ∧ ∀ j v, cs[j]? = some v → w.cell? (a.add j) = some v := by
  unfold World.cells? at h
  rw [if_pos (Nat.zero_le _)] at h
  obtain ⟨h1, h2⟩ := mapM_some_iff h
  refine ⟨by simpa using h1, fun j v hj => ?_⟩
  have hlt : j < n := by have := (List.getElem?_eq_some_iff.1 hj).1; simp at h1; omega
  obtain ⟨b, hb, hr⟩ := h2 j j (by simp [hlt])
  rw [hj] at hr; cases hr; exact hb

theorem spot_none {w : World} {a : Addr} {v : Value} (h : w.cell? (a.add 0) = some v) : a.spot = none := by
  have e : a.add 0 = a := by simp [Addr.add]
  rw [e] at h
  unfold World.cell? at h
  split at h
  · cases hs : a.spot with
    | none => rfl
    | some s => simp [hs] at h
  · cases h

theorem addr_eq {a : Addr} (h : a.spot = none) (n : Nat) : a.add n = ⟨a.block, a.off + n, none⟩ := by
  unfold Addr.add
  split
  · rename_i h0; subst h0; cases a; simp_all
  · simp [h]

set_option maxHeartbeats 1000000 in
theorem shp_of_trod {H : Type} {enc : TypeId × Value → H} {N : Nat} (hlay : ∀ t, t < N → layB P t = true ∧ kidB P N t = true) {w : World} {E : Emb} {spare : Nat → Bool} (hspare : ∀ b, spare b = true) {held : Bool} : ∀ (fuel : Nat) (t : TypeId) (cs : List Value) (d : DataW H) (ps : List MemPlace),
    t < N → DataW.trod enc P w 0 spare held fuel t cs = some (d, ps) → (d.weights P t).all (· ≤ reachBytes) = true → ∃ as, RepL (memOf w) E as cs ∧ Shp P fuel t as := by
  intro fuel
  induction fuel with
  | zero => intro t cs d ps _ h; simp [DataW.trod] at h
  | succ fuel ih =>
    intro t cs d ps htN h hwt
    have other : (∀ as, Shp P (fuel + 1) t as) → ∃ as, RepL (memOf w) E as cs ∧ Shp P (fuel + 1) t as := fun hs => ⟨_, repL_undef cs, hs _⟩
    have hlt := (hlay t htN).1
    have hkd := (hlay t htN).2
    cases hu : P.underlying t with
    | none => exact other (fun as => by simp [Shp, hu])
    | some td =>
      cases td with
      | bool =>
        simp only [DataW.trod, hu] at h
        split at h <;> first | (rename_i heq; cases heq) | skip
        all_goals first
          | (cases h; done)
          | (rename_i b heq; exact ⟨[.bool b], .cons _ _ _ _ (.bool b) .nil, by simp [Shp, hu]⟩)
          | (rename_i b; exact ⟨[.bool b], .cons _ _ _ _ (.bool b) .nil, by simp [Shp, hu]⟩)
          | skip
      | int k =>
        simp only [DataW.trod, hu] at h
        split at h <;> first | (cases h; done) | skip
        all_goals (try (rename_i heq; cases heq))
        split at h
        · rename_i hk
          obtain ⟨rfl, hwf⟩ := hk
          simp only [Lit.wf, Bool.and_eq_true, decide_eq_true_eq] at hwf
          rename_i n
          exact ⟨[.int _ n], .cons _ _ _ _ (.int _ n) .nil, by simp [Shp, hu]; exact hwf⟩
        · cases h
      | string =>
        simp only [DataW.trod, hu] at h
        split at h <;> first | (cases h; done) | skip
        all_goals (try (rename_i heq; cases heq))
        split at h
        · rename_i s hs
          cases h
          refine ⟨[.str (strOf s)], .cons _ _ _ _ (.str s _ rfl) .nil, ?_⟩
          simp only [Shp, hu]
          refine ⟨_, rfl, ?_, fun c hc => ?_⟩
          · simpa [DataW.weights, strOf_length] using hwt
          · unfold strOf at hc
            obtain ⟨x, _, rfl⟩ := List.mem_map.1 hc
            exact x.toNat_lt
        · cases h
      | slice e =>
        simp only [DataW.trod, hu] at h
        split at h <;> first | (cases h; done) | skip
        all_goals (try (rename_i heq; cases heq))
        · cases h
          exact ⟨[.nilslice], .cons _ _ _ _ .nilslice .nil, by simp [Shp, hu]⟩
        · rename_i a len cap
          split at h
          · rename_i hb
            obtain ⟨hb1, hb2, hb3⟩ := hb
            by_cases h0 : P.cellsOf e = 0
            · exact ⟨[.undef], .cons _ _ _ _ (.undef _) .nil, by simp [Shp, hu, h0]⟩
            · simp only [Option.bind_eq_some_iff, Option.map_eq_some_iff] at h
              obtain ⟨elems, he, rest, hr, heq⟩ := h
              cases heq
              rw [if_pos (hspare _)] at hr
              obtain ⟨l1, g1⟩ := mapM_some_iff he
              obtain ⟨l2, g2⟩ := mapM_some_iff hr
              simp only [List.length_range] at l1 l2
              have hw0 : (elems.length + rest.length) * P.bytesOf e ≤ reachBytes ∧ (∀ x ∈ elems, (x.1.weights P e).all (· ≤ reachBytes) = true) := by
                simp only [DataW.weights, hu, List.all_cons, List.all_append, Bool.and_eq_true, decide_eq_true_eq, List.length_map] at hwt
                refine ⟨hwt.1, fun x hx => ?_⟩
                have hall := hwt.2.1
                clear hwt g1 g2 he hr l1 l2
                induction elems with
                | nil => cases hx
                | cons y ys ihy =>
                  simp only [List.map_cons, DataW.weightsAll, List.all_append, Bool.and_eq_true] at hall
                  rcases List.mem_cons.1 hx with rfl | hx
                  · exact hall.1
                  · exact ihy hx hall.2
              -- the first cell tells that the address is a plain one
              have hspot : 0 < cap → a.spot = none := fun hc => by
                have hfirst : ∃ x, (w.cells? 0 (a.add (0 * P.cellsOf e)) (P.cellsOf e)) = some x := by
                  by_cases hl : 0 < len
                  · obtain ⟨b, hb, _⟩ := g1 0 0 (by simp [hl])
                    obtain ⟨x, hx, _⟩ := Option.bind_eq_some_iff.1 hb
                    exact ⟨x, hx⟩
                  · obtain ⟨b, hb, _⟩ := g2 0 0 (List.getElem?_range (by omega))
                    obtain ⟨x, hx, _⟩ := Option.bind_eq_some_iff.1 hb
                    have : len + 0 = 0 := by omega
                    rw [this] at hx
                    exact ⟨x, hx⟩
                obtain ⟨x, hx⟩ := hfirst
                obtain ⟨q1, q2⟩ := cells_get hx
                have hx0 : 0 < x.length := by omega
                have := q2 0 x[0] (List.getElem?_eq_getElem hx0)
                rw [Nat.zero_mul] at this
                have e1 : (a.add 0).add 0 = a.add 0 := by simp [Addr.add]
                rw [e1] at this
                exact spot_none this
              have hels : ∀ (n : Nat), n ≤ len → ∃ es : List (List AV), es.length = n ∧ RepE (memOf w) E a.block (a.off + (len - n) * P.cellsOf e) (P.cellsOf e) es ∧ ∀ cs ∈ es, cs.length = P.cellsOf e ∧ Shp P fuel e cs := by
                intro n
                induction n with
                | zero => intro _; exact ⟨[], rfl, .nil _ _ _, by simp⟩
                | succ n ihn =>
                  intro hn
                  obtain ⟨es, e1, e2, e3⟩ := ihn (by omega)
                  have hi : len - (n + 1) < len := by omega
                  obtain ⟨b, hb, hget⟩ := g1 (len - (n + 1)) (len - (n + 1)) (by simp [hi])
                  obtain ⟨x, hx, htr⟩ := Option.bind_eq_some_iff.1 hb
                  obtain ⟨q1, q2⟩ := cells_get hx
                  obtain ⟨as, r1, r2⟩ := ih e x b.1 b.2 (by simpa [kidB, hu] using hkd) htr (hw0.2 b (List.mem_of_getElem? hget))
                  have hal : as.length = P.cellsOf e := by rw [← r1.length, q1]
                  have hm : RepM (memOf w) E a.block (a.off + (len - (n + 1)) * P.cellsOf e) as := repM_of r1 (fun j v hj => by
                    have := q2 j v hj
                    rw [addr_eq (hspot (by omega))] at this
                    rwa [Addr.add_lit] at this)
                  refine ⟨as :: es, by simp [e1], .cons _ _ _ _ _ hal hm ?_, fun cs hcs => ?_⟩
                  · rw [show a.off + (len - (n + 1)) * P.cellsOf e + P.cellsOf e = a.off + (len - n) * P.cellsOf e by
                      rw [show len - n = len - (n + 1) + 1 by omega, Nat.add_mul]; omega]
                    exact e2
                  · rcases List.mem_cons.1 hcs with rfl | hcs
                    · exact ⟨hal, r2⟩
                    · exact e3 cs hcs
              obtain ⟨es, e1, e2, e3⟩ := hels len (Nat.le_refl _)
              rw [Nat.sub_self, Nat.zero_mul, Nat.add_zero] at e2
              refine ⟨[.lst (P.cellsOf e) es], .cons _ _ _ _ (.lst _ es a.block a.off len cap a e2 e1.symm hb2 (fun hpos => ?_)) .nil, ?_⟩
              · have := hspot hpos
                cases a; simp_all
              · simp only [Shp, hu]
                refine .inr (.inr ⟨es, rfl, ?_, e3⟩)
                have : es.length * P.bytesOf e ≤ (elems.length + rest.length) * P.bytesOf e := Nat.mul_le_mul_right _ (by omega)
                omega
          · cases h
      | struct fs =>
        simp only [DataW.trod, hu] at h
        split at h
        · rename_i hlen
          simp only [Option.map_eq_some_iff] at h
          obtain ⟨xs, hxs, heq⟩ := h
          cases heq
          obtain ⟨l1, g1⟩ := mapM_some_iff hxs
          unfold layB at hlt
          simp only [hu] at hlt
          have hwf : ∀ (i : Nat) (f : Field) (x : DataW H × List MemPlace), fs.toList[i]? = some f → xs[i]? = some x → (x.1.weights P f.type).all (· ≤ reachBytes) = true := by
            simp only [DataW.weights, hu] at hwt
            generalize fs.toList = fl at *
            clear g1 hxs hlt l1
            induction fl generalizing xs with
            | nil => intro i f x hf; simp at hf
            | cons f0 fl ihf =>
              intro i f x hf hx
              cases xs with
              | nil => simp at hx
              | cons x0 xs =>
                simp only [List.map_cons, DataW.weightsEach, List.all_append, Bool.and_eq_true] at hwt
                cases i with
                | zero => simp at hf hx; subst hf; subst hx; exact hwt.1
                | succ i => exact ihf xs hwt.2 i f x (by simpa using hf) (by simpa using hx)
          -- field by field
          have key : ∀ (fl : List Field) (off : Nat), contig P fl off (P.cellsOf t) = true → off ≤ cs.length → (∀ (i : Nat) (f : Field), fl[i]? = some f → ∃ x, DataW.trod enc P w 0 spare held fuel f.type ((cs.drop f.offset).take (P.cellsOf f.type)) = some x ∧ (x.1.weights P f.type).all (· ≤ reachBytes) = true ∧ f.type < N) →
              ∃ as, RepL (memOf w) E as (cs.drop off) ∧ ∀ f ∈ fl, off ≤ f.offset ∧ Shp P fuel f.type ((as.drop (f.offset - off)).take (P.cellsOf f.type)) := by
            intro fl
            induction fl with
            | nil => intro off _ _ _; exact ⟨_, repL_undef _, by simp⟩
            | cons f fl ihf =>
              intro off hc hoff hall
              simp only [contig, Bool.and_eq_true, beq_iff_eq] at hc
              obtain ⟨hfo, hc⟩ := hc
              obtain ⟨x, hx, hxw, hfN⟩ := hall 0 f rfl
              obtain ⟨as1, r1, r2⟩ := ih f.type _ x.1 x.2 hfN hx hxw
              have hle : off + P.cellsOf f.type ≤ cs.length := by
                have : ∀ (fl : List Field) (o : Nat), contig P fl o (P.cellsOf t) = true → o ≤ P.cellsOf t := by
                  intro fl
                  induction fl with
                  | nil => intro o h; simp [contig] at h; omega
                  | cons g gl ihg => intro o h; simp only [contig, Bool.and_eq_true] at h; have := ihg _ h.2; omega
                have := this fl _ hc
                omega
              obtain ⟨as2, q1, q2⟩ := ihf _ hc hle (fun i g hg => hall (i + 1) g (by simpa using hg))
              have hl1 : as1.length = P.cellsOf f.type := by
                have := r1.length
                simp at this
                omega
              refine ⟨as1 ++ as2, ?_, fun g hg => ?_⟩
              · have e : cs.drop off = (cs.drop f.offset).take (P.cellsOf f.type) ++ cs.drop (off + P.cellsOf f.type) := by
                  rw [hfo, ← List.drop_drop]
                  exact (List.take_append_drop _ _).symm
                rw [e]
                exact repL_append r1 q1
              · rcases List.mem_cons.1 hg with rfl | hg
                · refine ⟨by omega, ?_⟩
                  rw [hfo, Nat.sub_self, List.drop_zero, List.take_append_of_le_length (by omega), List.take_of_length_le (by omega)]
                  exact r2
                · obtain ⟨w1, w2⟩ := q2 g hg
                  refine ⟨by omega, ?_⟩
                  rw [show g.offset - off = as1.length + (g.offset - (off + P.cellsOf f.type)) by omega, List.drop_length_add_append]
                  exact w2
          obtain ⟨as, r1, r2⟩ := key fs.toList 0 hlt (Nat.zero_le _) (fun i f hf => by
            obtain ⟨x, hx, hxi⟩ := g1 i f hf
            exact ⟨x, hx, hwf i f x hf hxi, by
              have hk := hkd
              simp only [kidB, hu, List.all_eq_true, decide_eq_true_eq] at hk
              exact hk f (List.mem_of_getElem? hf)⟩)
          rw [List.drop_zero] at r1
          refine ⟨as, r1, ?_⟩
          simp only [Shp, hu]
          refine ⟨by have := r1.length; omega, fun f hf => ?_⟩
          have := (r2 f hf).2
          rwa [Nat.sub_zero] at this
        · cases h
      | _ => exact other (fun as => by simp [Shp, hu])
end
end Go.Ev
