import Derived.Test.YtjjmdbhgmecpjaaGreatDoorEvF
set_option linter.unusedVariables false
set_option linter.unusedSimpArgs false
namespace Go.Ev
section
variable {P : Program} {C : Mem} {E : Emb} (w : World)

theorem eqA_defined {d : Nat} {t : TypeId} {a b : AV} {r : Bool} (h : eqA P d t a b = some r) : a.isUndef = false ∧ b.isUndef = false := by
  cases d with
  | zero => simp [eqA] at h
  | succ d =>
    rw [eqA.eq_def] at h
    dsimp only at h
    split at h <;> first | (cases h; done) | exact ⟨rfl, rfl⟩

theorem evBin_sound {op : BinOp} {t : TypeId} {x y : Operand} {a b r : AV} {u v : Value} (h : evBin P op t x y a b = some r) (hu : Rep C E a u) (hv : Rep C E b v) :
    ∃ z, (eqGuard op t x y u v).run P w = .ok () w ∧ (binOp op t u v).run P w = .ok z w ∧ Rep C E r z := by
  unfold evBin at h
  split at h
  · rename_i k m k' n
    obtain rfl := rep_int hu
    obtain rfl := rep_int hv
    split at h
    · cases h
    · rename_i hn
      cases h
      exact ⟨.int k (k.wrap (m * 2 ^ (min n.toNat k.bits))), eqGuard_ok w (by simp) (by simp), by simp [binOp, Op.shift, hn], .int _ _⟩
  · rename_i k m k' n
    obtain rfl := rep_int hu
    obtain rfl := rep_int hv
    split at h
    · cases h
    · rename_i hn
      cases h
      exact ⟨.int k (m.fdiv (2 ^ (min n.toNat k.bits))), eqGuard_ok w (by simp) (by simp), by simp [binOp, Op.shift, hn], .int _ _⟩
  · rename_i op k m k' n h1 h2
    obtain rfl := rep_int hu
    obtain rfl := rep_int hv
    split at h
    · rename_i hk
      subst hk
      obtain ⟨z, hz, hr⟩ := evInt_sound (C := C) (E := E) (P := P) w h ⟨fun e => by subst e; simp_all, fun e => by subst e; simp_all⟩ t
      exact ⟨z, eqGuard_ok w (by simp) (by simp), hz, hr⟩
    · cases h
  · rename_i op m n
    obtain ⟨s, rfl, rfl⟩ := rep_str hu
    obtain ⟨s', rfl, rfl⟩ := rep_str hv
    obtain ⟨z, hz, hr⟩ := evStr_sound (C := C) (E := E) (P := P) w h t
    exact ⟨z, eqGuard_ok w (by simp) (by simp), hz, hr⟩
  all_goals first
    | (cases h; done)
    | (rename_i _ _ hni hns
       split at h
       · rename_i hok
         cases he : eqA P 10000 t a b with
         | none => simp [he] at h
         | some q =>
           simp only [he, Option.map_some, Option.some.injEq] at h
           subst h
           obtain ⟨hau, hbu⟩ := eqA_defined he
           have hrun := eqA_sound (C := C) (E := E) w 10000 t a b u v q he hu hv
           have hfl := rep_ne_float hu hau
           have hb := binOp_eql w hrun (fun k m k' n ⟨e1, e2⟩ => by
               subst e1; subst e2
               cases hu <;> first | (simp [AV.isUndef] at hau; done) | skip
               cases hv <;> first | (simp [AV.isUndef] at hbu; done) | skip
               exact hni _ _ _ _ rfl rfl) (fun m n ⟨e1, e2⟩ => by
               subst e1; subst e2
               cases hu <;> first | (simp [AV.isUndef] at hau; done) | skip
               cases hv <;> first | (simp [AV.isUndef] at hbu; done) | skip
               simp_all) hfl.1 hfl.2
           refine ⟨_, eqGuard_ok w (fun e1 e2 => ?_) (fun xs ys e1 e2 => ?_), by first | exact hb.1 | exact hb.2, .bool _⟩
           · subst e1; subst e2
             cases hu <;> first | (simp [AV.isUndef] at hau; done) | skip
             cases hv <;> first | (simp [AV.isUndef] at hbu; done) | skip
             cases x <;> cases y <;> simp_all [eqOk, isConst]
           · subst e1; subst e2
             cases hu <;> first | (simp [AV.isUndef] at hau; done) | skip
             cases hv <;> first | (simp [AV.isUndef] at hbu; done) | skip
             simpa [eqOk] using hok
       · cases h)

theorem evUn_sound {op : UnOp} {a r : AV} {u : Value} (h : evUn op a = some r) (hu : Rep C E a u) : ∃ z, (Op.unary op u).run P w = .ok z w ∧ Rep C E r z := by
  unfold evUn at h
  split at h
  · rename_i k n
    obtain rfl := rep_int hu
    cases h
    exact ⟨_, by simp [Op.unary, Op.intArith], .int _ _⟩
  · rename_i k n
    obtain rfl := rep_int hu
    cases h
    exact ⟨_, by simp [Op.unary, Op.intBits], .int _ _⟩
  · rename_i b
    obtain rfl := rep_bool hu
    cases h
    exact ⟨_, by simp [Op.unary], .bool _⟩
  · cases h

theorem evConvert_sound {s d : TypeId} {a r : AV} {u : Value} (h : evConvert P s d a = some r) (hu : Rep C E a u) : ∃ z, (convert s d u).run P w = .ok z w ∧ Rep C E r z := by
  unfold evConvert at h
  split at h
  · rename_i sd k k' n hs hd
    obtain rfl := rep_int hu
    cases h
    exact ⟨_, by simp [convert, run_underlying hs, run_underlying hd, Conv.intToInt], .int _ _⟩
  · rename_i sd l hs hd
    obtain ⟨s', rfl, rfl⟩ := rep_str hu
    cases h
    refine ⟨.string s', ?_, .str _ _ rfl⟩
    simp only [convert, Sem.run_bind, run_underlying hs, run_underlying hd, Result.andThen_ok]
    cases sd <;> simp
  · cases h

theorem boundsOk_iff {l h m : Int} (hb : boundsOk l h m = true) : 0 ≤ l ∧ l ≤ h ∧ h ≤ m := by
  simp [boundsOk] at hb; exact ⟨hb.1.1, hb.1.2, hb.2⟩

theorem run_sliceBound {k : IntKind} {n : Int} {y : Nat} {code : BoundsCode} (h0 : 0 ≤ n) (h1 : n ≤ y) : (Instr.sliceBound (.int k n) y code).run P w = .ok n.toNat w := by
  simp [Instr.sliceBound, asIntOf, h0, h1]

/-- Bounds that are met: no max. -/
theorem run_sliceBounds {isS : Bool} {len cap : Nat} {lo hi : Option Value} {l h : Int} (hlo : (lo = none ∧ l = 0) ∨ ∃ k, lo = some (.int k l)) (hhi : (hi = none ∧ h = len) ∨ ∃ k, hi = some (.int k h))
    (hb : 0 ≤ l ∧ l ≤ h ∧ h ≤ cap) : (Instr.sliceBounds isS len cap lo hi none).run P w = .ok (l.toNat, h.toNat, cap) w := by
  obtain ⟨b1, b2, b3⟩ := hb
  have hh : (h.toNat : Int) = h := by omega
  rcases hlo with ⟨rfl, rfl⟩ | ⟨k, rfl⟩ <;> rcases hhi with ⟨rfl, rfl⟩ | ⟨k', rfl⟩
  · simp [Instr.sliceBounds]
  · simp only [Instr.sliceBounds, Sem.run_bind, Sem.run_pure, Result.andThen_ok]
    cases isS <;> simp [run_sliceBound (P := P) w (k := k') (y := cap) (by omega : 0 ≤ h) b3]
  · simp only [Instr.sliceBounds, Sem.run_bind, Sem.run_pure, Result.andThen_ok]
    simp [run_sliceBound (P := P) w (k := k) (y := len) b1 (by omega)]
  · simp only [Instr.sliceBounds, Sem.run_bind, Sem.run_pure, Result.andThen_ok]
    cases isS <;> simp [run_sliceBound (P := P) w (k := k') (y := cap) (by omega : 0 ≤ h) b3, run_sliceBound (P := P) w (k := k) (y := h.toNat) b1 (by omega)]

/-- .. with a max. -/
theorem run_sliceBounds3 {isS : Bool} {len cap : Nat} {lo : Option Value} {l h m : Int} {kh km : IntKind} (hlo : (lo = none ∧ l = 0) ∨ ∃ k, lo = some (.int k l))
    (hb : 0 ≤ l ∧ l ≤ h ∧ h ≤ m ∧ m ≤ cap) : (Instr.sliceBounds isS len cap lo (some (.int kh h)) (some (.int km m))).run P w = .ok (l.toNat, h.toNat, m.toNat) w := by
  obtain ⟨b1, b2, b3, b4⟩ := hb
  rcases hlo with ⟨rfl, rfl⟩ | ⟨k, rfl⟩
  · simp only [Instr.sliceBounds, Sem.run_bind, Sem.run_pure, Result.andThen_ok]
    cases isS <;> simp [run_sliceBound (P := P) w (k := km) (y := cap) (by omega : 0 ≤ m) b4, run_sliceBound (P := P) w (k := kh) (y := m.toNat) (by omega : 0 ≤ h) (by omega)]
  · simp only [Instr.sliceBounds, Sem.run_bind, Sem.run_pure, Result.andThen_ok]
    cases isS <;> simp [run_sliceBound (P := P) w (k := km) (y := cap) (by omega : 0 ≤ m) b4, run_sliceBound (P := P) w (k := kh) (y := m.toNat) (by omega : 0 ≤ h) (by omega), run_sliceBound (P := P) w (k := k) (y := h.toNat) b1 (by omega)]

theorem optInt_rep {ρ : Operand → AV} {ev : Operand → Value} (hρ : ∀ x, Rep C E (ρ x) (ev x)) {o : Option Operand} {n : Option Int} (h : optInt ρ o = some n) :
    (o = none ∧ n = none) ∨ ∃ k m, n = some m ∧ o.map ev = some (.int k m) := by
  unfold optInt at h
  split at h
  · cases h; exact .inl ⟨rfl, rfl⟩
  · rename_i x
    split at h
    · rename_i k m hx
      cases h
      have := hρ x
      rw [hx] at this
      exact .inr ⟨k, m, rfl, by simp [rep_int this]⟩
    · cases h

theorem run_index_string {t : TypeId} (ht : P.underlying t = some .string) {s : ByteArray} {k : IntKind} {n : Int} (h0 : 0 ≤ n) {c : UInt8} (hc : s.data.toList[n.toNat]? = some c) :
    (Instr.index t (.string s) (.int k n)).run P w = .ok (.int .u8 c.toNat) w := by
  have hc' : s[n.toNat]? = some c := by
    obtain ⟨hlt, he⟩ := List.getElem?_eq_some_iff.1 hc
    rw [getElem?_pos s n.toNat (by simpa using hlt)]
    have he' : s.data[n.toNat]'(by simpa using hlt) = c := by simpa using he
    exact congrArg some he'
  simp [Instr.index, asIntOf, run_underlying ht, h0, hc']

theorem evIndex_sound {t : TypeId} {a i r : AV} {u v : Value} (h : evIndex P t a i = some r) (hu : Rep C E a u) (hv : Rep C E i v) : ∃ z, (Instr.index t u v).run P w = .ok z w ∧ Rep C E r z := by
  unfold evIndex at h
  split at h
  · rename_i k n
    obtain rfl := rep_int hv
    split at h
    · rename_i s ht
      obtain ⟨s', rfl, rfl⟩ := rep_str hu
      split at h
      · rename_i h0
        cases hc : (strOf s')[n.toNat]? with
        | none => simp [hc] at h
        | some c =>
          simp only [hc, Option.map_some, Option.some.injEq] at h
          subst h
          unfold strOf at hc
          rw [List.getElem?_map] at hc
          cases hc' : s'.data.toList[n.toNat]? with
          | none => simp [hc'] at hc
          | some c' =>
            simp only [hc', Option.map_some, Option.some.injEq] at hc
            subst hc
            exact ⟨_, run_index_string w ht h0 hc', .int _ _⟩
      · cases h
    · rename_i len e cs ht
      obtain ⟨vs, rfl, hvs⟩ := rep_agg hu
      split at h
      · rename_i hb
        cases hs : szOf P e with
        | none => simp [hs] at h
        | some sz =>
          simp only [hs, Option.bind_some] at h
          obtain ⟨z, hz, hr⟩ := run_part' w hvs h
          refine ⟨z, ?_, hr⟩
          simp [Instr.index, asIntOf, run_underlying ht, hb, run_sizeOf' w hs, hz]
      · cases h
    · cases h
  · cases h

theorem WRel.esz {w0 : World} {H : Heap} {w : World} (hw : WRel C w0 E H w) {b g s : Nat} (h : H.eszOf b g = some s) {L : Loc} (hL : E.loc b g = some L) : LocOk C E w w0.heap.size L s (match H.blk b with | some (.row _ _ els _ _) => els | _ => []) := by
  unfold Heap.eszOf at h
  split at h
  · rename_i ty esz els gen wgen hb
    split at h
    · rename_i hg
      cases h
      obtain ⟨L', hL', hl⟩ := (hw.row _ _ _ _ _ _ hb).loc g hg ((hw.dom _ _ _ hL).2.2 _ _ _ _ _ hb)
      rw [hL] at hL'; cases hL'
      simpa [hb] using hl
    · cases h
  · cases h

theorem evIndexAddr_sound {w0 : World} {H : Heap} (hw : WRel C w0 E H w) {t : TypeId} {a i r : AV} {u v : Value} (h : evIndexAddr P H t a i = some r) (hu : Rep C E a u) (hv : Rep C E i v) :
    ∃ z, (Instr.indexAt t u v).run P w = .ok z w ∧ Rep C E r z := by
  unfold evIndexAddr at h
  split at h
  · rename_i k n
    obtain rfl := rep_int hv
    split at h
    · rename_i e b off len cap ex g ht
      split at h
      · rename_i hb
        obtain ⟨hb1, hb2, hes⟩ := hb
        have hb : 0 ≤ n ∧ n < (len : Int) := ⟨hb1, hb2⟩
        cases hs : szOf P e with
        | none => simp [hs] at h
        | some s =>
          simp only [hs, Option.map_some, Option.some.injEq] at h
          subst h
          cases hu with
          | slice _ _ _ _ _ _ L ad rc hL h1 h2 h3 h4 h5 h6 h7 =>
            have he := (hw.esz (by rw [← hes, hs]) hL).sz
            have hrc : 0 < rc := by omega
            have had := h6 hrc
            subst had
            refine ⟨_, by simp [Instr.indexAt, asIntOf, run_underlying ht, hb, run_sizeOf' w hs, Addr.add_lit]; rfl, ?_⟩
            refine .ptr b _ 0 g L _ hL (by omega) (by omega) ?_
            rw [he, Nat.add_zero, show off + n.toNat - L.lo = (off - L.lo) + n.toNat by omega, Nat.add_mul]
            omega
      · cases h
    · rename_i e sz es ht
      split at h
      · rename_i hb
        obtain ⟨h0, hs⟩ := hb
        cases hc : es[n.toNat]? with
        | none => simp [hc] at h
        | some cs =>
          simp only [hc, Option.map_some, Option.some.injEq] at h
          subst h
          cases hu with
          | lst _ _ blk co len rc ad hE h1 h2 h6 =>
            have hlt : n.toNat < es.length := (List.getElem?_eq_some_iff.1 hc).1
            have hrc : 0 < rc := by omega
            have had := h6 hrc
            subst had
            obtain ⟨hl, hm⟩ := hE.get n.toNat cs hc
            have hb : 0 ≤ n ∧ n < (len : Int) := ⟨h0, by omega⟩
            refine ⟨_, by simp [Instr.indexAt, asIntOf, run_underlying ht, hb, run_sizeOf' w hs, Addr.add_lit]; rfl, ?_⟩
            exact .iptr cs 0 blk (co + n.toNat * sz) _ hm rfl
      · cases h
    · cases h
  · cases h
end
end Go.Ev
