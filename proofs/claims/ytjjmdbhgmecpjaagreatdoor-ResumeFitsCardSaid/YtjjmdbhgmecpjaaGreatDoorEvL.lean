import Derived.Test.YtjjmdbhgmecpjaaGreatDoorEvK
set_option linter.unusedVariables false
set_option linter.unusedSimpArgs false
namespace Go.Ev
section
variable {P : Program} {C : Mem} {w0 : World} {E : Emb} {H : Heap} {w : World}

theorem strOf_extract (s : ByteArray) (l h : Nat) : strOf (s.extract l h) = ((strOf s).drop l).take (h - l) := by
  unfold strOf
  rw [← List.map_drop, ← List.map_take]
  congr 1
  have : (s.extract l h).data = s.data.extract l h := by simp
  rw [this]
  simp [List.take_drop]

theorem bnd (ρ : Operand → AV) {ev : Operand → Value} (hρ : ∀ x, Rep C E (ρ x) (ev x)) {o : Option Operand} {n : Option Int} (h : optInt ρ o = some n) (d : Int) : (o.map ev = none ∧ n.getD d = d ∧ n = none) ∨ ∃ k, o.map ev = some (.int k (n.getD d)) ∧ n = some (n.getD d) := by
  rcases optInt_rep hρ h with ⟨rfl, rfl⟩ | ⟨k, m, rfl, hm⟩
  · exact .inl ⟨rfl, rfl, rfl⟩
  · exact .inr ⟨k, by simpa using hm, rfl⟩

theorem bnd' (ρ : Operand → AV) {ev : Operand → Value} (hρ : ∀ x, Rep C E (ρ x) (ev x)) {o : Option Operand} {n : Option Int} (h : optInt ρ o = some n) (d : Int) : (o.map ev = none ∧ n.getD d = d) ∨ ∃ k, o.map ev = some (.int k (n.getD d)) := by
  rcases bnd ρ hρ h d with ⟨h1, h2, _⟩ | ⟨k, h1, _⟩
  · exact .inl ⟨h1, h2⟩
  · exact .inr ⟨k, h1⟩

theorem sliceAt_eq {t : TypeId} {d : TypeDesc} (ht : P.underlying t = some d) (hd : ∀ n e, d ≠ .array n e) (x : Value) (lo hi mx : Option Value) : (Instr.sliceAt t x lo hi mx).run P w = (Instr.slice t x lo hi mx).run P w := by
  cases d <;> first | (exact absurd rfl (hd _ _)) | simp [Instr.sliceAt, run_underlying ht]

set_option maxHeartbeats 1000000 in
theorem slice_ok (hw : WRel C w0 E H w) {ρ : Operand → AV} {ev : Operand → Value} (hρ : ∀ x, Rep C E (ρ x) (ev x)) {t : TypeId} {a r : AV} {u : Value} {lo hi mx : Option Operand} {l h m : Option Int}
    (hl : optInt ρ lo = some l) (hh : optInt ρ hi = some h) (hm : optInt ρ mx = some m) (hs : evSlice P H t a l h m = some r) (hu : Rep C E a u) :
    ∃ z, (Instr.sliceAt t u (lo.map ev) (hi.map ev) (mx.map ev)).run P w = .ok z w ∧ Rep C E r z := by
  have L0 := bnd' ρ hρ hl 0
  have mnone : m = none → mx.map ev = none := fun e => by
    rcases optInt_rep hρ hm with ⟨rfl, _⟩ | ⟨k, q, e2, _⟩
    · rfl
    · rw [e] at e2; cases e2
  have msome : ∀ q, m = some q → ∃ k, mx.map ev = some (.int k q) := fun q e => by
    rcases optInt_rep hρ hm with ⟨rfl, e2⟩ | ⟨k, q', e2, e3⟩
    · rw [e] at e2; cases e2
    · rw [e] at e2; cases e2; exact ⟨k, e3⟩
  have hsome : ∀ q, h = some q → ∃ k, hi.map ev = some (.int k q) := fun q e => by
    rcases optInt_rep hρ hh with ⟨rfl, e2⟩ | ⟨k, q', e2, e3⟩
    · rw [e] at e2; cases e2
    · rw [e] at e2; cases e2; exact ⟨k, e3⟩
  simp only [evSlice] at hs
  split at hs
  · -- string
    rename_i s ht
    split at hs
    · rename_i hb
      cases hs
      obtain ⟨s', rfl, rfl⟩ := rep_str hu
      have hb' := boundsOk_iff hb
      rw [strOf_length] at hb'
      have H0 := bnd' ρ hρ hh (strOf s').length
      rw [strOf_length] at H0
      refine ⟨.string (s'.extract (l.getD 0).toNat (h.getD s'.size).toNat), ?_, .str _ _ ?_⟩
      · rw [sliceAt_eq ht (by simp)]
        simp [Instr.slice, run_underlying ht, mnone rfl, run_sliceBounds (P := P) w (isS := false) (len := s'.size) (cap := s'.size) L0 H0 hb']
      · rw [strOf_extract, strOf_length]
        congr 1
        omega
    · cases hs
  · -- nil
    rename_i e ht
    split at hs
    · rename_i hb
      cases hs
      cases hu
      simp only [Bool.and_eq_true] at hb
      obtain ⟨hb, hz⟩ := hb
      obtain ⟨n, hn⟩ := Option.isSome_iff_exists.1 hz
      have H0 := bnd' ρ hρ hh 0
      have hb' := boundsOk_iff hb
      refine ⟨.slice none 0 0, ?_, .nilslice⟩
      rw [sliceAt_eq ht (by simp)]
      simp [Instr.slice, run_underlying ht, mnone rfl, run_sliceBounds (P := P) w (isS := true) (len := 0) (cap := 0) L0 H0 hb', run_sizeOf' w hn]
      omega
    · cases hs
  · -- nil, max
    rename_i e q ht
    split at hs
    · rename_i h'
      split at hs
      · rename_i hb
        cases hs
        cases hu
        simp only [Bool.and_eq_true, decide_eq_true_eq] at hb
        obtain ⟨⟨hb, hq⟩, hz⟩ := hb
        obtain ⟨n, hn⟩ := Option.isSome_iff_exists.1 hz
        have hb' := boundsOk_iff hb
        obtain ⟨km, hmx⟩ := msome q rfl
        obtain ⟨kh, hhx⟩ := hsome h' rfl
        refine ⟨.slice none 0 0, ?_, .nilslice⟩
        rw [sliceAt_eq ht (by simp), hmx, hhx]
        simp [Instr.slice, run_underlying ht, run_sliceBounds3 (P := P) w (isS := true) (len := 0) (cap := 0) L0 ⟨hb'.1, hb'.2.1, hb'.2.2, by simpa using hq⟩, run_sizeOf' w hn]
        omega
      · cases hs
    · cases hs
  · -- the empty one
    rename_i e ht
    split at hs
    · rename_i hb
      cases hs
      cases hu with
      | eslice ad =>
        simp only [Bool.and_eq_true] at hb
        obtain ⟨hb, hz⟩ := hb
        obtain ⟨n, hn⟩ := Option.isSome_iff_exists.1 hz
        have H0 := bnd' ρ hρ hh 0
        have hb' := boundsOk_iff hb
        refine ⟨.slice (some ad) 0 0, ?_, .eslice ad⟩
        rw [sliceAt_eq ht (by simp)]
        have e0 : (l.getD 0).toNat = 0 := by omega
        have e1 : (h.getD 0).toNat = 0 := by omega
        simp [Instr.slice, run_underlying ht, mnone rfl, run_sliceBounds (P := P) w (isS := true) (len := 0) (cap := 0) L0 H0 hb', run_sizeOf' w hn, e0, e1]
    · cases hs
  · -- list
    rename_i e sz es ht
    split at hs
    · rename_i hb
      cases hs
      simp only [Bool.and_eq_true, decide_eq_true_eq] at hb
      obtain ⟨hb, hn⟩ := hb
      have hb' := boundsOk_iff hb
      cases hu with
      | lst _ _ blk co len rc ad hE h1 h2 h6 =>
        subst h1
        have H0 := bnd' ρ hρ hh es.length
        have hb2 : 0 ≤ l.getD 0 ∧ l.getD 0 ≤ h.getD es.length ∧ h.getD es.length ≤ (rc : Int) := ⟨hb'.1, hb'.2.1, by omega⟩
        generalize hl0 : l.getD 0 = l0 at *
        generalize hh0 : h.getD (es.length : Int) = h0 at *
        have hrepE : ∀ {blk co sz : Nat} {es : List (List AV)} (k : Nat), RepE C E blk co sz es → RepE C E blk (co + min k es.length * sz) sz (es.drop k) := by
          intro blk co sz es k
          induction k generalizing co es with
          | zero => intro hx; simpa using hx
          | succ k ih =>
            intro hx
            cases hx with
            | nil => simpa using RepE.nil _ _ _
            | cons _ _ _ cs es' q1 q2 q3 =>
              have := ih q3
              simp only [List.drop_succ_cons, List.length_cons]
              rw [show min (k + 1) (es'.length + 1) = min k es'.length + 1 by omega, Nat.add_mul]
              rw [show co + (min k es'.length * sz + 1 * sz) = co + sz + min k es'.length * sz by omega]
              exact this
        have htake : ∀ {blk co sz : Nat} {es : List (List AV)} (k : Nat), RepE C E blk co sz es → RepE C E blk co sz (es.take k) := by
          intro blk co sz es k
          induction k generalizing co es with
          | zero => intro _; simpa using RepE.nil _ _ _
          | succ k ih =>
            intro hx
            cases hx with
            | nil => simpa using RepE.nil _ _ _
            | cons _ _ _ cs es' q1 q2 q3 => simpa using RepE.cons _ _ _ _ _ q1 q2 (ih q3)
        have hmin : min l0.toNat es.length = l0.toNat := by omega
        have hsub := htake (h0 - l0).toNat (hrepE l0.toNat hE)
        rw [hmin] at hsub
        refine ⟨.slice (some (if rc = l0.toNat then ad else ad.add (l0.toNat * sz))) (h0.toNat - l0.toNat) (rc - l0.toNat), ?_, ?_⟩
        · rw [sliceAt_eq ht (by simp)]
          simp [Instr.slice, run_underlying ht, mnone rfl, run_sliceBounds (P := P) w (isS := true) (len := es.length) (cap := rc) L0 H0 hb2, run_sizeOf' w hn]
          split <;> rfl
        · refine .lst sz _ blk (co + l0.toNat * sz) _ _ _ hsub (by simp; omega) (by omega) (fun hpos => ?_)
          rw [if_neg (by omega), h6 (by omega), Addr.add_lit]
    · cases hs
  · -- list, max
    rename_i e sz es q ht
    split at hs
    · rename_i h'
      split at hs
      · rename_i hb
        cases hs
        simp only [Bool.and_eq_true, decide_eq_true_eq] at hb
        obtain ⟨⟨⟨hb, hq⟩, hlq⟩, hn⟩ := hb
        have hb' := boundsOk_iff hb
        obtain ⟨km, hmx⟩ := msome q rfl
        obtain ⟨kh, hhx⟩ := hsome h' rfl
        cases hu with
        | lst _ _ blk co len rc ad hE h1 h2 h6 =>
          subst h1
          have e1 : h' = q := by omega
          subst e1
          refine ⟨.slice (some ad) 0 0, ?_, .eslice ad⟩
          rw [sliceAt_eq ht (by simp), hmx, hhx]
          simp [Instr.slice, run_underlying ht, run_sliceBounds3 (P := P) w (isS := true) (len := es.length) (cap := rc) L0 ⟨hb'.1, hb'.2.1, hb'.2.2, by omega⟩, run_sizeOf' w hn, hlq]
      · cases hs
    · cases hs
  · -- row
    rename_i e b off len cap ex g ht
    split at hs
    · rename_i hb
      cases hs
      simp only [Bool.and_eq_true, decide_eq_true_eq] at hb
      obtain ⟨hb, hz, hez⟩ := hb
      obtain ⟨n, hn⟩ := Option.isSome_iff_exists.1 hz
      have hb' := boundsOk_iff hb
      cases hu with
      | slice _ _ _ _ _ _ L ad rc hL h1 h2 h3 h4 h5 h6 h7 =>
        have hesz := (hw.esz (by rw [← hez, hn]) hL).sz
        have H0 := bnd' ρ hρ hh len
        have hb2 : 0 ≤ l.getD 0 ∧ l.getD 0 ≤ h.getD len ∧ h.getD len ≤ (rc : Int) := ⟨hb'.1, hb'.2.1, by omega⟩
        generalize hl0 : l.getD 0 = l0 at *
        generalize hh0 : h.getD (len : Int) = h0 at *
        refine ⟨.slice (some (if rc = l0.toNat then ad else ad.add (l0.toNat * n))) (h0.toNat - l0.toNat) (rc - l0.toNat), ?_, ?_⟩
        · rw [sliceAt_eq ht (by simp)]
          simp [Instr.slice, run_underlying ht, mnone rfl, run_sliceBounds (P := P) w (isS := true) (len := len) (cap := rc) L0 H0 hb2, run_sizeOf' w hn]
          split <;> rfl
        · have e : (h0 - l0).toNat = h0.toNat - l0.toNat := by omega
          rw [e]
          refine .slice b _ _ _ ex g L _ _ hL (by omega) (by omega) (by omega) (by omega) (fun hx => by have := h5 hx; omega) (fun hpos => ?_) ?_
          · rw [if_neg (by omega), h6 (by omega), Addr.add_lit, hesz, show off + l0.toNat - L.lo = (off - L.lo) + l0.toNat by omega, Nat.add_mul]
            congr 1
            omega
          · rw [show off + l0.toNat - L.lo + (rc - l0.toNat) = off - L.lo + rc by omega]
            exact h7
    · cases hs
  · -- row, max
    rename_i e b off len cap ex g q ht
    split at hs
    · rename_i h'
      split at hs
      · rename_i hb
        simp only [Bool.and_eq_true, decide_eq_true_eq] at hb
        obtain ⟨⟨hb, hq⟩, hz, hez⟩ := hb
        obtain ⟨n, hn⟩ := Option.isSome_iff_exists.1 hz
        have hb' := boundsOk_iff hb
        obtain ⟨km, hmx⟩ := msome q rfl
        obtain ⟨kh, hhx⟩ := hsome h' rfl
        cases hu with
        | slice _ _ _ _ _ _ L ad rc hL h1 h2 h3 h4 h5 h6 h7 =>
          have hesz := (hw.esz (by rw [← hez, hn]) hL).sz
          generalize hl0 : l.getD 0 = l0 at *
          have hrun : (Instr.sliceAt t (.slice (some ad) len rc) (lo.map ev) (hi.map ev) (mx.map ev)).run P w = .ok (.slice (some (if q.toNat = l0.toNat then ad else ad.add (l0.toNat * n))) (h'.toNat - l0.toNat) (q.toNat - l0.toNat)) w := by
            rw [sliceAt_eq ht (by simp), hmx, hhx]
            simp [Instr.slice, run_underlying ht, run_sliceBounds3 (P := P) w (isS := true) (len := len) (cap := rc) L0 ⟨hb'.1, hb'.2.1, hb'.2.2, by omega⟩, run_sizeOf' w hn]
            split <;> rfl
          split at hs
          · rename_i hlq
            cases hs
            have e1 : h' = q := by omega
            refine ⟨_, hrun, ?_⟩
            rw [e1, hlq, Nat.sub_self]
            exact .eslice _
          · rename_i hlq
            cases hs
            refine ⟨_, hrun, ?_⟩
            rw [show (h' - l0).toNat = h'.toNat - l0.toNat by omega, show (q - l0).toNat = q.toNat - l0.toNat by omega]
            refine .slice b _ _ _ true g L _ _ hL (by omega) (by omega) (by omega) (by omega) (fun _ => rfl) (fun hpos => ?_) ?_
            · rw [if_neg (by omega), h6 (by omega), Addr.add_lit, hesz, show off + l0.toNat - L.lo = (off - L.lo) + l0.toNat by omega, Nat.add_mul]
              congr 1
              omega
            · have : L.co + (off - L.lo + rc) * L.esz ≤ L.size := h7
              have h8 : (off + l0.toNat - L.lo + (q.toNat - l0.toNat)) * L.esz ≤ (off - L.lo + rc) * L.esz := Nat.mul_le_mul_right _ (by omega)
              omega
      · cases hs
    · cases hs
  · cases hs

theorem field_eq {s : TypeId} {f : Nat} {fd : Field} (h : fieldOf P s f = some fd) : ∃ fs, P.underlying s = some (.struct fs) ∧ fs[f]? = some fd := by
  unfold fieldOf at h
  split at h
  · rename_i fs hfs; exact ⟨fs, hfs, h⟩
  · cases h

theorem fieldAt_ok {s : TypeId} {f n : Nat} {fd : Field} (h : fieldOf P s f = some fd) (hn : szOf P fd.type = some n) (h0 : n ≠ 0) (b o : Nat) :
    (Instr.fieldAt s (.pointer (some ⟨b, o, none⟩)) f).run P w = .ok (.pointer (some ⟨b, o + fd.offset, none⟩)) w := by
  obtain ⟨fs, h1, h2⟩ := field_eq h
  simp [Instr.fieldAt, run_underlying h1, h2, Instr.sureAddr, fieldPlace, run_sizeOf' w hn, h0, Addr.add_lit]

theorem field_ok {s : TypeId} {f : Nat} {fd : Field} (h : fieldOf P s f = some fd) {cs : List AV} {vs : List Value} {r : AV} (hr : RepL C E cs vs) (hp : partOf P fd.type cs fd.offset = some r) :
    ∃ z, (Instr.field s (.agg vs.toArray) f).run P w = .ok z w ∧ Rep C E r z := by
  obtain ⟨fs, h1, h2⟩ := field_eq h
  obtain ⟨z, hz, hrep⟩ := run_part' w hr hp
  exact ⟨z, by simp [Instr.field, run_underlying h1, h2, asAgg, hz], hrep⟩

end
end Go.Ev
