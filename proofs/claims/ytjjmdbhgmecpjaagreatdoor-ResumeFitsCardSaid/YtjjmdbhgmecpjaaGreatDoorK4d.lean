import Derived.Test.YtjjmdbhgmecpjaaGreatDoorK4
import Derived.Test.YtjjmdbhgmecpjaaGreatDoorKn
set_option linter.unusedVariables false
set_option linter.unusedSimpArgs false
namespace Go.Ev

/-! Drawn regions. -/
inductive D4 where
  | no
  | ok (E : KE) (K : KH) (F : List (Nat × Foot))
inductive DR where
  | bad
  | mk (i : Nat) (o : Oper) (fl : Bool) (y : Ready)
noncomputable def drOf (P : Program) (n : Nat) (ops : Array Oper) (prs : List (Nat × Nat)) (i : Nat) : DR := oElim .bad (fun o => .mk i o (inPrs i prs) (readyOf P n ops o)) ops[i]?
noncomputable def qD (q : Q4) : (AV → KH → D4) → D4 := @Q4.rec (fun _ => (AV → KH → D4) → D4) (fun _ => .no) (fun r K k => k r K) q
noncomputable def oneD (P : Program) (cf : CF) (E : KE) (K : KH) (k : KE → KH → D4) : Ready → D4 := @Ready.rec (fun _ => D4) (fun d g i => qD (runG g E K (runI i P cf E K)) (fun r K1 => k (setE E r d) K1))
noncomputable def fD : Option (AV × KH × Foot) → (AV → KH → Foot → D4) → D4 := @Option.rec (AV × KH × Foot) (fun _ => (AV → KH → Foot → D4) → D4) (fun _ => .no) (fun p k => k p.1 p.2.1 p.2.2)
noncomputable def kSD4 (P : Program) (cf : CF) (n : Nat) (ops : Array Oper) : List DR → KE → KH → List (Nat × Foot) → D4 :=
  @List.rec DR (fun _ => KE → KH → List (Nat × Foot) → D4) .ok (fun x _ ih E K F => @DR.rec (fun _ => D4) .no (fun i o fl y => (@Bool.rec (fun _ => _) (oneD P cf E K (fun E1 K1 => ih E1 K1 F) y) ((@Bool.rec (fun _ => _) (.no) (fD (kFlag P (cfo cf) ops o E K) (fun r K1 ft => ih (setE E r (oElim Option.none (fun d => some (pathOf d)) o.dst)) K1 ((i, ft) :: F))) (dst4 n o.dst))) (fl))) x)

theorem qD_ok {q : Q4} {k : AV → KH → D4} {E1 : KE} {K1 : KH} {F1 : List (Nat × Foot)} (h : qD q k = .ok E1 K1 F1) : ∃ r K, q = .ok r K ∧ k r K = .ok E1 K1 F1 := by
  cases q with
  | no => exact nomatch (show D4.no = D4.ok E1 K1 F1 from h)
  | ok r K => exact ⟨r, K, rfl, h⟩
theorem oneD_ok {P : Program} {cf : CF} {n : Nat} {ops : Array Oper} {o : Oper} {E : KE} {K : KH} {k : KE → KH → D4} {E1 : KE} {K1 : KH} {F1 : List (Nat × Foot)} (h : oneD P cf E K k (readyOf P n ops o) = .ok E1 K1 F1) :
    dstOk n o.dst = true ∧ ∃ r K', kOne P (cfo cf) ops o E K = some (r, K') ∧ k (E.set o.dst r) K' = .ok E1 K1 F1 := by
  unfold readyOf at h
  cases hd : dst4 n o.dst with
  | false => rw [hd] at h; exact nomatch (show D4.no = D4.ok E1 K1 F1 from h)
  | true =>
    rw [hd] at h
    obtain ⟨h1, h2⟩ := dst4_ok hd
    have h : qD (runG (gdOf ops o.guard) E K (runI (cpOp P o o.op) P cf E K)) (fun r K1 => k (setE E r (oElim Option.none (fun d => some (pathOf d)) o.dst)) K1) = .ok E1 K1 F1 := h
    obtain ⟨r, K', h3, h⟩ := qD_ok h
    rw [setE_eq h2] at h
    exact ⟨h1, r, K', runG_ok h3, h⟩
theorem fD_ok {x : Option (AV × KH × Foot)} {k : AV → KH → Foot → D4} {E1 : KE} {K1 : KH} {F1 : List (Nat × Foot)} (h : fD x k = .ok E1 K1 F1) : ∃ r K ft, x = some (r, K, ft) ∧ k r K ft = .ok E1 K1 F1 := by
  cases x with
  | none => exact nomatch (show D4.no = D4.ok E1 K1 F1 from h)
  | some p => obtain ⟨r, K, ft⟩ := p; exact ⟨r, K, ft, rfl, h⟩
theorem kSD4_ok {P : Program} {cf : CF} {n : Nat} {ops : Array Oper} {prs : List (Nat × Nat)} : ∀ (is : List Nat) {E : KE} {K : KH} {F : List (Nat × Foot)} {E1 : KE} {K1 : KH} {F1 : List (Nat × Foot)}, kSD4 P cf n ops (map4 (drOf P n ops prs) is) E K F = .ok E1 K1 F1 → kSD P (cfo cf) n ops prs is E K F = some (E1, K1, F1)
  | [], E, K, F, E1, K1, F1, h => by cases h; rfl
  | i :: is, E, K, F, E1, K1, F1, h => by
    have h : @DR.rec (fun _ => D4) .no (fun i o fl y => @Bool.rec (fun _ => D4) (oneD P cf E K (fun E1 K1 => kSD4 P cf n ops (map4 (drOf P n ops prs) is) E1 K1 F) y) (@Bool.rec (fun _ => D4) .no (fD (kFlag P (cfo cf) ops o E K) (fun r K1 ft => kSD4 P cf n ops (map4 (drOf P n ops prs) is) (setE E r (oElim Option.none (fun d => some (pathOf d)) o.dst)) K1 ((i, ft) :: F))) (dst4 n o.dst)) fl) (drOf P n ops prs i) = .ok E1 K1 F1 := h
    unfold drOf at h
    cases ho : ops[i]? with
    | none => rw [ho] at h; exact nomatch (show D4.no = D4.ok E1 K1 F1 from h)
    | some o =>
      rw [ho] at h
      have h : @Bool.rec (fun _ => D4) (oneD P cf E K (fun E1 K1 => kSD4 P cf n ops (map4 (drOf P n ops prs) is) E1 K1 F) (readyOf P n ops o)) (@Bool.rec (fun _ => D4) .no (fD (kFlag P (cfo cf) ops o E K) (fun r K1 ft => kSD4 P cf n ops (map4 (drOf P n ops prs) is) (setE E r (oElim Option.none (fun d => some (pathOf d)) o.dst)) K1 ((i, ft) :: F))) (dst4 n o.dst)) (inPrs i prs) = .ok E1 K1 F1 := h
      cases hf : inPrs i prs with
      | true =>
        rw [hf] at h
        cases hd : dst4 n o.dst with
        | false => rw [hd] at h; exact nomatch (show D4.no = D4.ok E1 K1 F1 from h)
        | true =>
          rw [hd] at h
          obtain ⟨h1, h2⟩ := dst4_ok hd
          obtain ⟨r, K', ft, h3, h⟩ := fD_ok h
          rw [setE_eq h2] at h
          have := kSD4_ok is h
          simp only [kSD, ho, h1, hf, cond_true, h3]
          exact this
      | false =>
        rw [hf] at h
        obtain ⟨h1, r, K', h3, h⟩ := oneD_ok h
        have := kSD4_ok is h
        simp only [kSD, ho, h1, hf, cond_true, cond_false, h3]
        exact this

/-! Code. -/
inductive X4 where
  | no
  | ok (x : Ex) (E : KE) (K : KH)
abbrev C4 := KE → KH → X4
abbrev Tab := Nat → Option (List (Nat × Nat) × List Nat)
noncomputable def sX : S4 → X4 := @S4.rec (fun _ => X4) .no (fun E K => .ok .normal E K)
noncomputable def dX (prs : List (Nat × Nat)) : D4 → X4 := @D4.rec (fun _ => X4) .no (fun E K F => (@Bool.rec (fun _ => _) (.no) (.ok .normal E K) (prs.all (fun p => sepF (footOf F p.1) (footOf F p.2)))))
noncomputable def exN (k : C4) (ex : Ex) (E : KE) (K : KH) : X4 := @Ex.rec (fun _ => X4) (k E K) (fun j => .ok (.exit j) E K) (.ok .ret E K) ex
noncomputable def exB (id : Nat) (ex : Ex) (E : KE) (K : KH) : X4 := @Ex.rec (fun _ => X4) (.ok .normal E K) (fun j => .ok ((@Bool.rec (fun _ => _) (.exit j) (.normal) (Nat.beq j id))) E K) (.ok .ret E K) ex
noncomputable def xE (k : Ex → KE → KH → X4) : X4 → X4 := @X4.rec (fun _ => X4) .no k
noncomputable def kL4 (c : C4) : Nat → C4 := @Nat.rec (fun _ => C4) (fun _ _ => .no) (fun _ ih E K => xE (exN ih) (c E K))
noncomputable def regX (P : Program) (cf : CF) (D : Tab) (n : Nat) (id : Nat) (ops : Array Oper) (d : Bool) : C4 := fun E K =>
  @Bool.rec (fun _ => X4) (sX (kS4 P cf (map4 (readyOf P n ops) ops.toList) E K)) (oElim .no (fun p => dX p.1 (kSD4 P cf n ops (map4 (drOf P n ops p.1) p.2) E K [])) (D id)) d
noncomputable def condX (c : Src) (x y : C4) : C4 := fun E K => (fun q : Q4 => X4.no) .no
noncomputable def onBoolX : AV → X4 → X4 → X4 := @AV.rec (fun _ => X4 → X4 → X4) (fun _ => Unit) (fun _ => Unit) (fun _ _ => .no) (fun b x y => (@Bool.rec (fun _ => _) (y) (x) (b))) (fun _ _ _ _ => .no) (fun _ _ _ => .no) (fun _ _ => .no) (fun _ _ _ _ _ _ => .no) (fun _ _ _ _ _ => .no) (fun _ _ => .no) (fun _ _ => .no) (fun _ _ _ _ _ _ _ _ => .no) (fun _ _ _ _ _ => .no) (fun _ _ _ _ => .no) (fun _ _ _ _ => .no) (fun _ _ => .no) (fun _ _ _ _ _ => .no) (fun _ _ => .no) (fun _ _ _ _ _ _ _ => .no) (fun _ _ => .no) (fun _ _ _ => .no) () (fun _ _ _ _ => ()) () (fun _ _ _ _ => ())
theorem onBoolX_ok {a : AV} {x y : X4} {ex : Ex} {E : KE} {K : KH} (h : onBoolX a x y = .ok ex E K) : (a = .bool true ∧ x = .ok ex E K) ∨ (a = .bool false ∧ y = .ok ex E K) := by
  cases a with
  | bool b => cases b with
    | true => exact .inl ⟨rfl, h⟩
    | false => exact .inr ⟨rfl, h⟩
  | _ => exact nomatch (show X4.no = X4.ok ex E K from h)
noncomputable def kC4 (P : Program) (cf : CF) (D : Tab) (n : Nat) : Code → C4 :=
  @Code.rec (fun _ => C4) (fun E K => .ok .normal E K)
   (regX P cf D n)
   (fun _ _ x y E K => xE (exN y) (x E K))
   (fun c _ _ x y E K => onBoolX (rd E (srcOf c)) (x E K) (y E K))
   (fun id _ c E K => xE (exB id) (c E K))
   (fun _ c E K => kL4 c 10000 E K)
   (fun _ _ _ _ _ _ _ _ => .no) (fun id E K => .ok (.exit id) E K) (fun _ c E K => c E K) (fun _ E K => .ok .normal E K) (fun _ _ _ => .no) (fun E K => .ok .ret E K) (fun _ _ _ => .no)
/-- The drawn regions that are told have orders that serve. -/
noncomputable def chkC (P : Program) (D : Tab) : Code → Bool :=
  @Code.rec (fun _ => Bool) true
   (fun id ops d => (@Bool.rec (fun _ => _) (true) (oElim true (fun p => drawOkM P ops p.1 p.2) (D id)) (d)))
   (fun _ _ x y => (@Bool.rec (fun _ => _) (false) (y) (x))) (fun _ _ _ x y => (@Bool.rec (fun _ => _) (false) (y) (x))) (fun _ _ c => c) (fun _ c => c)
   (fun _ _ _ _ _ _ => true) (fun _ => true) (fun _ c => c) (fun _ => true) (fun _ => true) true (fun _ => true)

theorem xE_ok {k : Ex → KE → KH → X4} {q : X4} {ex : Ex} {E1 : KE} {K1 : KH} (h : xE k q = .ok ex E1 K1) : ∃ e E K, q = .ok e E K ∧ k e E K = .ok ex E1 K1 := by
  cases q with
  | no => exact nomatch (show X4.no = X4.ok ex E1 K1 from h)
  | ok e E K => exact ⟨e, E, K, rfl, h⟩
def unT (D : Tab) : Nat → List (Nat × Nat) × List Nat := fun id => (D id).getD ([], [])
theorem kL4_ok {c : C4} {c' : KE → KH → Option (Ex × KE × KH)} (hc : ∀ {E K ex E1 K1}, c E K = .ok ex E1 K1 → c' E K = some (ex, E1, K1)) : ∀ (n : Nat) {E : KE} {K : KH} {ex : Ex} {E1 : KE} {K1 : KH}, kL4 c n E K = .ok ex E1 K1 → kL c' n E K = some (ex, E1, K1)
  | 0, E, K, ex, E1, K1, h => nomatch (show X4.no = X4.ok ex E1 K1 from h)
  | n + 1, E, K, ex, E1, K1, h => by
    have h : xE (exN (kL4 c n)) (c E K) = .ok ex E1 K1 := h
    obtain ⟨e, E', K', h1, h⟩ := xE_ok h
    have h1 := hc h1
    cases e with
    | normal =>
      have h : kL4 c n E' K' = .ok ex E1 K1 := h
      simp only [kL, h1]
      exact kL4_ok hc n h
    | exit j => cases h; simp only [kL, h1]
    | ret => cases h; simp only [kL, h1]
theorem and_split {a b : Bool} (h : @Bool.rec (fun _ => Bool) false b a = true) : a = true ∧ b = true := by
  cases a with
  | true => exact ⟨rfl, h⟩
  | false => cases h
theorem kC4_ok {P : Program} {cf : CF} {D : Tab} {n : Nat} : ∀ {c : Code} {E : KE} {K : KH} {ex : Ex} {E1 : KE} {K1 : KH}, chkC P D c = true → kC4 P cf D n c E K = .ok ex E1 K1 → kC P (cfo cf) (unT D) n c E K = some (ex, E1, K1) := by
  intro c
  induction c with
  | skip => intro E K ex E1 K1 _ h; cases h; rfl
  | label l => intro E K ex E1 K1 _ h; cases h; rfl
  | exit id => intro E K ex E1 K1 _ h; cases h; rfl
  | ret => intro E K ex E1 K1 _ h; cases h; rfl
  | region id ops d =>
    intro E K ex E1 K1 hc h
    have h : regX P cf D n id ops d E K = .ok ex E1 K1 := h
    unfold regX at h
    cases d with
    | false =>
      have h : sX (kS4 P cf (map4 (readyOf P n ops) ops.toList) E K) = .ok ex E1 K1 := h
      cases hs : kS4 P cf (map4 (readyOf P n ops) ops.toList) E K with
      | no => rw [hs] at h; exact nomatch (show X4.no = X4.ok ex E1 K1 from h)
      | ok E' K' =>
        rw [hs] at h
        cases h
        simp only [kC, kS4_ok _ _ (range_ops ops) hs]
    | true =>
      have h : oElim .no (fun p => dX p.1 (kSD4 P cf n ops (map4 (drOf P n ops p.1) p.2) E K [])) (D id) = .ok ex E1 K1 := h
      have hc : oElim true (fun p => drawOkM P ops p.1 p.2) (D id) = true := hc
      cases hD : D id with
      | none => rw [hD] at h; exact nomatch (show X4.no = X4.ok ex E1 K1 from h)
      | some p =>
        rw [hD] at h hc
        have h : dX p.1 (kSD4 P cf n ops (map4 (drOf P n ops p.1) p.2) E K []) = .ok ex E1 K1 := h
        have hc : drawOkM P ops p.1 p.2 = true := hc
        cases hs : kSD4 P cf n ops (map4 (drOf P n ops p.1) p.2) E K [] with
        | no => rw [hs] at h; exact nomatch (show X4.no = X4.ok ex E1 K1 from h)
        | ok E' K' F =>
          rw [hs] at h
          have h : @Bool.rec (fun _ => X4) .no (.ok .normal E' K') (p.1.all (fun q => sepF (footOf F q.1) (footOf F q.2))) = .ok ex E1 K1 := h
          cases ha : p.1.all (fun q => sepF (footOf F q.1) (footOf F q.2)) with
          | false => rw [ha] at h; exact nomatch (show X4.no = X4.ok ex E1 K1 from h)
          | true =>
            rw [ha] at h
            cases h
            simp only [kC, unT, hD, Option.getD_some, hc, cond_true, kSD4_ok _ hs, ha]
  | seq x y ihx ihy =>
    intro E K ex E1 K1 hc h
    obtain ⟨hcx, hcy⟩ := and_split (a := chkC P D x) (b := chkC P D y) hc
    have h : xE (exN (kC4 P cf D n y)) (kC4 P cf D n x E K) = .ok ex E1 K1 := h
    obtain ⟨e, E', K', h1, h⟩ := xE_ok h
    have h1 := ihx hcx h1
    cases e with
    | normal =>
      have h : kC4 P cf D n y E' K' = .ok ex E1 K1 := h
      simp only [kC, h1]
      exact ihy hcy h
    | exit j => cases h; simp only [kC, h1]
    | ret => cases h; simp only [kC, h1]
  | cond c x y ihx ihy =>
    intro E K ex E1 K1 hc h
    obtain ⟨hcx, hcy⟩ := and_split (a := chkC P D x) (b := chkC P D y) hc
    have h : onBoolX (rd E (srcOf c)) (kC4 P cf D n x E K) (kC4 P cf D n y E K) = .ok ex E1 K1 := h
    rw [rd_eq] at h
    rcases onBoolX_ok h with ⟨hv, h⟩ | ⟨hv, h⟩
    · simp only [kC, hv]; exact ihx hcx h
    · simp only [kC, hv]; exact ihy hcy h
  | block id c ih =>
    intro E K ex E1 K1 hc h
    have h : xE (exB id) (kC4 P cf D n c E K) = .ok ex E1 K1 := h
    obtain ⟨e, E', K', h1, h⟩ := xE_ok h
    have h1 := ih hc h1
    cases e with
    | normal => cases h; simp only [kC, h1]
    | exit j =>
      have h : X4.ok (@Bool.rec (fun _ => Ex) (.exit j) .normal (Nat.beq j id)) E' K' = .ok ex E1 K1 := h
      simp only [kC, h1]
      cases hj : Nat.beq j id with
      | true => rw [hj] at h; cases h; rfl
      | false => rw [hj] at h; cases h; rfl
    | ret => cases h; simp only [kC, h1]
  | loop c ih =>
    intro E K ex E1 K1 hc h
    have h : kL4 (kC4 P cf D n c) 10000 E K = .ok ex E1 K1 := h
    simp only [kC]
    exact kL4_ok (fun h => ih hc h) 10000 h
  | scope c ih =>
    intro E K ex E1 K1 hc h
    simp only [kC]
    exact ih hc h
  | _ => intro E K ex E1 K1 hc h; exact nomatch (show X4.no = X4.ok ex E1 K1 from h)

/-! Functions. -/
section
variable (P : Program)
noncomputable def resV (rv : ResultVar) (E : KE) (K : KH) (k : AV → Q4) : Q4 :=
  @ResultVar.rec (fun _ => Q4) (fun t => k (orU (getP (pathOf t) E))) (fun a t => oElim .no (fun b => (@Bool.rec (fun _ => _) (ld1 K k (orU (getP (pathOf a) E))) (oElim .no (fun n => ld K n (fun cs => k (.agg cs)) (orU (getP (pathOf a) E))) (szOf P t)) (b))) (aggOf P t)) rv
noncomputable def res4 : List ResultVar → KE → KH → (List AV → Q4) → Q4 := @List.rec ResultVar (fun _ => KE → KH → (List AV → Q4) → Q4) (fun _ _ k => k []) (fun rv _ ih E K k => resV P rv E K (fun v => ih E K (fun vs => k (v :: vs))))
noncomputable def resQ (K : KH) (vs : List AV) : Q4 := @List.rec AV (fun _ => Q4) (.ok (.tuple []) K) (fun v l _ => @List.rec AV (fun _ => Q4) (.ok v K) (fun w m _ => .ok (.tuple (v :: w :: m)) K) l) vs
noncomputable def kRes (rs : List ResultVar) (E : KE) (K : KH) : Q4 := res4 P rs E K (resQ K)
end
section
variable {P : Program}
theorem resV_ok {rv : ResultVar} {E : KE} {K : KH} {k : AV → Q4} {r : AV} {K1 : KH} (h : resV P rv E K k = .ok r K1) : ∃ v, evResult P E.env K.heap rv = some v ∧ k v = .ok r K1 := by
  cases rv with
  | tmp t =>
    have h : k (orU (getP (pathOf t) E)) = .ok r K1 := h
    rw [rdT] at h
    exact ⟨_, rfl, h⟩
  | cell a t =>
    have h : oElim .no (fun b => @Bool.rec (fun _ => Q4) (ld1 K k (orU (getP (pathOf a) E))) (oElim .no (fun n => ld K n (fun cs => k (.agg cs)) (orU (getP (pathOf a) E))) (szOf P t)) b) (aggOf P t) = .ok r K1 := h
    rw [rdT] at h
    obtain ⟨b, hb, h⟩ := oElim_no h
    cases b with
    | true =>
      obtain ⟨n, hn, h⟩ := oElim_no h
      obtain ⟨cs, h1, h⟩ := ld_ok h
      refine ⟨.agg cs, ?_, h⟩
      simp only [evResult, hb, hn, h1]
      rfl
    | false =>
      obtain ⟨v, h1, h⟩ := ld1_ok h
      refine ⟨v, ?_, h⟩
      simp only [evResult, hb, h1]
theorem res4_ok : ∀ {rs : List ResultVar} {E : KE} {K : KH} {k : List AV → Q4} {r : AV} {K1 : KH}, res4 P rs E K k = .ok r K1 → ∃ vs, evResultsL P E.env K.heap rs = some vs ∧ k vs = .ok r K1
  | [], E, K, k, r, K1, h => ⟨[], rfl, h⟩
  | rv :: rs, E, K, k, r, K1, h => by
    have h : resV P rv E K (fun v => res4 P rs E K (fun vs => k (v :: vs))) = .ok r K1 := h
    obtain ⟨v, h1, h⟩ := resV_ok h
    obtain ⟨vs, h2, h⟩ := res4_ok h
    exact ⟨v :: vs, by simp only [evResultsL, h1, h2], h⟩
theorem kRes_ok {rs : List ResultVar} {E : KE} {K : KH} {r : AV} {K1 : KH} (h : kRes P rs E K = .ok r K1) : evResults P rs E.env K.heap = some r ∧ K1 = K := by
  obtain ⟨vs, h1, h⟩ := res4_ok h
  unfold evResults
  rw [h1]
  match vs, h with
  | [], h => cases h; exact ⟨rfl, rfl⟩
  | [v], h => cases h; exact ⟨rfl, rfl⟩
  | v :: w :: m, h => cases h; exact ⟨rfl, rfl⟩
end

noncomputable def args4 : List AV → Nat → KE → KE := @List.rec AV (fun _ => Nat → KE → KE) (fun _ E => E) (fun a _ ih k E => ih (Nat.succ k) (putP a (pathOf k) E))
theorem args4_eq : ∀ (l : List AV) (k : Nat) (E : KE), k + l.length ≤ 4000 → args4 l k E = ofArgsK l k E
  | [], k, E, h => rfl
  | a :: l, k, E, h => by
    show args4 l (k + 1) (putP a (pathOf k) E) = ofArgsK l (k + 1) (Tr.put a 12 E k)
    simp only [List.length_cons] at h
    rw [putP_eq a k E 12 (Nat.lt_of_le_of_lt (by omega : k + 1 ≤ 4001) (by decide))]
    exact args4_eq l (k + 1) _ (by omega)
noncomputable def xF (f : KE → KH → Q4) : X4 → Q4 := @X4.rec (fun _ => Q4) .no (fun ex E K => @Ex.rec (fun _ => Q4) (f E K) (fun _ => .no) (f E K) ex)
noncomputable def okFn (fn : Func) : Bool := (@Bool.rec (fun _ => _) (Nat.ble fn.ntmps 3999) (false) (fn.name == "runtime.NumGoroutine"))
noncomputable def kF4 (P : Program) (D : FuncId → Tab) : Nat → CF :=
  @Nat.rec (fun _ => CF) (fun _ _ _ => .no) (fun _ ih f args K => oElim .no (fun fn => oElim .no (fun c => (@Bool.rec (fun _ => _) (.no) ((@Bool.rec (fun _ => _) (.no) (xF (kRes P fn.results.toList) (kC4 P ih (D f) fn.ntmps c (args4 args 0 .nil) K)) (Nat.ble (len4 args) fn.ntmps))) (okFn fn))) fn.body) P.funcs[f]?)

def TabOk (P : Program) (D : FuncId → Tab) : Prop := ∀ f fn c, P.funcs[f]? = some fn → fn.body = some c → chkC P (D f) c = true
theorem okFn_ok {fn : Func} (h : okFn fn = true) : (fn.name == "runtime.NumGoroutine") = false ∧ fn.ntmps ≤ 3999 := by
  unfold okFn at h
  cases hn : (fn.name == "runtime.NumGoroutine") with
  | true => rw [hn] at h; cases h
  | false => rw [hn] at h; exact ⟨rfl, Nat.le_of_ble_eq_true h⟩
theorem kF4_ok {P : Program} {D : FuncId → Tab} (hD : TabOk P D) : ∀ d, CfOk P (cfo (kF4 P D d))
  | 0 => fun g args K r K1 hK h => by
    have h := cfo_some h
    exact noOk h
  | d + 1 => fun f args K r K1 hK h => by
    have h := cfo_some h
    have h : oElim .no (fun fn => oElim .no (fun c => @Bool.rec (fun _ => Q4) .no (@Bool.rec (fun _ => Q4) .no (xF (kRes P fn.results.toList) (kC4 P (kF4 P D d) (D f) fn.ntmps c (args4 args 0 .nil) K)) (Nat.ble (len4 args) fn.ntmps)) (okFn fn)) fn.body) P.funcs[f]? = .ok r K1 := h
    obtain ⟨fn, hfn, h⟩ := oElim_no h
    obtain ⟨c, hc, h⟩ := oElim_no h
    obtain ⟨h1, h⟩ := bqN h
    obtain ⟨h2, h⟩ := bqN h
    obtain ⟨hnm, hl2⟩ := okFn_ok h1
    have hl := Nat.le_of_ble_eq_true h2
    rw [len4_eq] at hl
    have henv : (ofArgsK args 0 .nil).env = Env.ofArgs args := by
      funext t
      rw [ofArgsK_env args 0 .nil (by omega) (fun t _ => rfl)]
      simp [Env.ofArgs]
    rw [args4_eq args 0 .nil (by omega)] at h
    cases hx : kC4 P (kF4 P D d) (D f) fn.ntmps c (ofArgsK args 0 .nil) K with
    | no => rw [hx] at h; exact noOk h
    | ok ex E K' =>
      rw [hx] at h
      obtain ⟨a1, a2⟩ := kC_ok (kF4_ok hD d) (by omega) hK (kC4_ok (hD f fn c hfn hc) hx)
      rw [henv] at a1
      cases ex with
      | exit j => exact noOk h
      | normal =>
        obtain ⟨hr, rfl⟩ := kRes_ok (show kRes P fn.results.toList E K' = .ok r K1 from h)
        exact ⟨.mk f fn c args _ _ E.env _ r hfn hnm hc hl a1 (.inl rfl) hr, a2⟩
      | ret =>
        obtain ⟨hr, rfl⟩ := kRes_ok (show kRes P fn.results.toList E K' = .ok r K1 from h)
        exact ⟨.mk f fn c args _ _ E.env _ r hfn hnm hc hl a1 (.inr rfl) hr, a2⟩

/-! The table of drawn regions. -/
abbrev TabL := List (Nat × Nat × List (Nat × Nat) × List Nat)
noncomputable def tab4 (l : TabL) (f id : Nat) : Option (List (Nat × Nat) × List Nat) := @List.rec (Nat × Nat × List (Nat × Nat) × List Nat) (fun _ => Option (List (Nat × Nat) × List Nat)) Option.none (fun e _ ih => (@Bool.rec (fun _ => _) (ih) ((@Bool.rec (fun _ => _) (ih) (some e.2.2) (Nat.beq e.2.1 id))) (Nat.beq e.1 f))) l
noncomputable def chkF (P : Program) (l : TabL) (f : Nat) : Bool := oElim true (fun fn : Func => oElim true (fun c => chkC P (tab4 l f) c) fn.body) P.funcs[f]?
noncomputable def chkT (P : Program) (l : TabL) : TabL → Bool := @List.rec (Nat × Nat × List (Nat × Nat) × List Nat) (fun _ => Bool) true (fun e _ ih => (@Bool.rec (fun _ => _) (false) (ih) (chkF P l e.1)))
theorem chkC_none {P : Program} {D : Tab} (h : ∀ id, D id = none) : ∀ c, chkC P D c = true := by
  intro c
  induction c with
  | region id ops d =>
    show @Bool.rec (fun _ => Bool) true (oElim true (fun p => drawOkM P ops p.1 p.2) (D id)) d = true
    rw [h id]
    cases d <;> rfl
  | seq x y ihx ihy => show @Bool.rec (fun _ => Bool) false (chkC P D y) (chkC P D x) = true; rw [ihx, ihy]
  | cond c x y ihx ihy => show @Bool.rec (fun _ => Bool) false (chkC P D y) (chkC P D x) = true; rw [ihx, ihy]
  | block id c ih => exact ih
  | loop c ih => exact ih
  | scope c ih => exact ih
  | _ => rfl
theorem tab4_none {f : Nat} : ∀ {l : TabL}, (∀ e ∈ l, e.1 ≠ f) → ∀ id, tab4 l f id = none
  | [], _, id => rfl
  | e :: l, h, id => by
    show @Bool.rec (fun _ => Option (List (Nat × Nat) × List Nat)) (tab4 l f id) _ (Nat.beq e.1 f) = none
    have he : Nat.beq e.1 f = false := by rw [beqN]; exact decide_eq_false (h e List.mem_cons_self)
    rw [he]
    exact tab4_none (fun e he => h e (List.mem_cons_of_mem _ he)) id
theorem chkT_all {P : Program} {l : TabL} : ∀ {m : TabL}, chkT P l m = true → ∀ e ∈ m, chkF P l e.1 = true
  | [], _, e, he => by cases he
  | x :: m, h, e, he => by
    obtain ⟨h1, h2⟩ := and_split (a := chkF P l x.1) (b := chkT P l m) h
    rcases List.mem_cons.1 he with rfl | he
    · exact h1
    · exact chkT_all h2 e he
theorem tab_ok {P : Program} {l : TabL} (h : chkT P l l = true) : TabOk P (tab4 l) := fun f fn c hf hc => by
  by_cases hm : ∃ e ∈ l, e.1 = f
  · obtain ⟨e, he, rfl⟩ := hm
    have := chkT_all h e he
    unfold chkF at this
    rw [hf] at this
    have this : oElim true (fun c => chkC P (tab4 l e.1) c) fn.body = true := this
    rw [hc] at this
    exact this
  · exact chkC_none (tab4_none fun e he q => hm ⟨e, he, q⟩) c

/-- The result of a closed run, and how far its names go. -/
noncomputable def okN4 (M : Nat) (q : Q4) : Bool := @Q4.rec (fun _ => Bool) false (fun r K => @AV.rec (fun _ => Bool) (fun _ => Unit) (fun _ => Unit) (false) (fun b => (@Bool.rec (fun _ => _) (false) (Nat.ble K.next M) (b))) (fun _ _ => false) (fun _ => false) (false) (fun _ _ _ _ => false) (fun _ _ _ => false) (false) (false) (fun _ _ _ _ _ _ => false) (fun _ _ _ => false) (fun _ _ => false) (fun _ _ => false) (false) (fun _ _ _ => false) (false) (fun _ _ _ _ _ => false) (false) (fun _ => false) () (fun _ _ _ _ => ()) () (fun _ _ _ _ => ()) r) q
theorem okN4_ok {M : Nat} {q : Q4} (h : okN4 M q = true) : ∃ K, q = .ok (.bool true) K ∧ K.next ≤ M := by
  cases q with
  | no => cases h
  | ok r K =>
    cases r with
    | bool b =>
      cases b with
      | true => exact ⟨K, rfl, Nat.le_of_ble_eq_true h⟩
      | false => cases h
    | _ => cases h

/-- A closed run, anywhere. -/
theorem closed_of {P : Program} {M : Nat} (hM0 : Nat.ble M M0 = true) {f : FuncId} {r : AV} {H1 : Heap} (hF : EvF P f [] ⟨fun _ => none, 0⟩ r H1) (hM : ∀ b, M ≤ b → H1.blk b = none) {G : Heap} (hG : Free G) : WF P f [] G fun r' G1 => r' = r ∧ Up G G1 := by
  have hM1 := Nat.le_of_ble_eq_true hM0
  have h1 := hF.frames (M := M0) (fun b hb => hM b (Nat.le_trans hM1 hb)) G G.next
  have e : beside M0 G ⟨fun _ => none, 0⟩ G.next = ⟨G.blk, 0⟩ := Heap.ext' (fun i => by
    simp only [beside]
    by_cases hi : M0 ≤ i ∧ i < G.next
    · rw [if_pos hi]
    · rw [if_neg hi]
      by_cases h1 : M0 ≤ i
      · exact (hG i (by omega)).symm
      · exact (hG.low i (by omega)).symm) rfl
  rw [e] at h1
  obtain ⟨k, h2⟩ := h1.renext G.next
  refine ⟨_, _, h2, rfl, fun b x hb => ?_⟩
  simp only [beside]
  rw [if_pos (hG.lt hb)]
  exact hb
theorem k0Ok : KH.Ok ⟨.nil, 0, 0, []⟩ := ⟨fun b _ => rfl, Nat.le_refl _⟩
theorem closed4 {P : Program} {D : FuncId → Tab} (hD : TabOk P D) {d M : Nat} (hM0 : Nat.ble M M0 = true) {f : FuncId} (h : okN4 M (kF4 P D d f [] ⟨.nil, 0, 0, []⟩) = true) {G : Heap} (hG : Free G) : WF P f [] G fun r G1 => r = .bool true ∧ Up G G1 := by
  obtain ⟨K, h1, h2⟩ := okN4_ok h
  obtain ⟨hF, hS⟩ := kF4_ok hD d _ _ _ _ _ k0Ok (cfo_ok h1)
  exact closed_of hM0 hF (fun b hb => hS.ok.none b (Nat.le_trans h2 hb)) hG
end Go.Ev
