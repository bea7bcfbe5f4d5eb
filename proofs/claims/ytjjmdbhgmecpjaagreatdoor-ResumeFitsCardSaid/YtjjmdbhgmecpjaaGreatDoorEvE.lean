import Derived.Test.YtjjmdbhgmecpjaaGreatDoorEvD
import Derived.Laws.Rows
set_option linter.unusedVariables false
set_option linter.unusedSimpArgs false
namespace Go.Ev
section
variable {P : Program} {C : Mem} {E : Emb}

theorem rep_avCell (v : Value) : Rep C E (avCell v) v := by
  unfold avCell
  split
  case h_9 f xs ys =>
    split
    · rename_i h
      obtain ⟨h1, h2⟩ := h
      obtain rfl : xs = #[] := Array.eq_empty_of_size_eq_zero h1
      obtain rfl : ys = #[] := Array.eq_empty_of_size_eq_zero h2
      exact .func f [] [] [] [] .nil .nil
    · exact .undef _
  all_goals first
    | exact .bool _
    | exact .int _ _
    | exact .str _ _ rfl
    | exact .nilptr
    | exact .nilslice
    | exact .nilMap
    | exact .nilFunc
    | exact .nilIface
    | exact .undef _

theorem repL_map_avCell : ∀ l : List Value, RepL C E (l.map avCell) l
  | [] => .nil
  | v :: l => .cons _ v _ l (rep_avCell v) (repL_map_avCell l)

theorem rep_avOf (v : Value) : Rep C E (avOf v) v := by
  unfold avOf
  split
  · rename_i cs; simpa using Rep.agg _ _ (repL_map_avCell (C := C) (E := E) cs.toList)
  · rename_i cs; simpa using Rep.tuple _ _ (repL_map_avCell (C := C) (E := E) cs.toList)
  · exact rep_avCell _

theorem rep_cells {a : AV} {v : Value} (h : Rep C E a v) (hu : a.isUndef = false) : RepL C E a.cells v.cells.toList := by
  cases h
  case agg cs vs h => simpa [AV.cells, Value.cells] using h
  all_goals first
    | (simp [AV.isUndef] at hu; done)
    | (simp only [AV.cells, Value.cells, List.toList_toArray]
       refine .cons _ _ _ _ ?_ .nil
       constructor <;> assumption)

theorem rep_bool {b : Bool} {v : Value} (h : Rep C E (.bool b) v) : v = .bool b := by cases h; rfl
theorem rep_int {k : IntKind} {n : Int} {v : Value} (h : Rep C E (.int k n) v) : v = .int k n := by cases h; rfl
theorem rep_agg {cs : List AV} {v : Value} (h : Rep C E (.agg cs) v) : ∃ vs, v = .agg vs.toArray ∧ RepL C E cs vs := by cases h; exact ⟨_, rfl, by assumption⟩
theorem rep_tuple {cs : List AV} {v : Value} (h : Rep C E (.tuple cs) v) : ∃ vs, v = .tuple vs.toArray ∧ RepL C E cs vs := by cases h; exact ⟨_, rfl, by assumption⟩
theorem rep_str {l : List Nat} {v : Value} (h : Rep C E (.str l) v) : ∃ s, v = .string s ∧ strOf s = l := by cases h; exact ⟨_, rfl, by assumption⟩

theorem repL_take : ∀ {as : List AV} {vs : List Value} (n : Nat), RepL C E as vs → RepL C E (as.take n) (vs.take n)
  | _, _, 0, _ => by simpa using RepL.nil
  | _, _, n + 1, .nil => by simpa using RepL.nil
  | _, _, n + 1, .cons a v as vs h h' => by simpa using RepL.cons a v _ _ h (repL_take n h')
theorem repL_drop : ∀ {as : List AV} {vs : List Value} (n : Nat), RepL C E as vs → RepL C E (as.drop n) (vs.drop n)
  | _, _, 0, h => by simpa using h
  | _, _, n + 1, .nil => by simpa using RepL.nil
  | _, _, n + 1, .cons a v as vs h h' => by simpa using repL_drop n h'
theorem repL_append : ∀ {as bs : List AV} {vs us : List Value}, RepL C E as vs → RepL C E bs us → RepL C E (as ++ bs) (vs ++ us)
  | _, _, _, _, .nil, h => by simpa using h
  | _, _, _, _, .cons a v as vs h h', h2 => by simpa using RepL.cons a v _ _ h (repL_append h' h2)

variable (w : World)

theorem run_isAgg' {t : TypeId} {b : Bool} (h : aggOf P t = some b) : (isAgg t).run P w = .ok b w := by
  unfold aggOf at h
  cases hu : P.underlying t with
  | none => simp [hu] at h
  | some d =>
    simp only [hu, Option.map_some, Option.some.injEq] at h
    subst h
    cases d <;> simp [isAgg, run_underlying hu, isAggD]

theorem run_sizeOf' {t : TypeId} {n : Nat} (h : szOf P t = some n) : (sizeOf t).run P w = .ok n w := by
  unfold szOf at h
  cases hi : P.info? t with
  | none => simp [hi] at h
  | some i => simp [hi] at h; simp [sizeOf, typeInfo, hi, h]

theorem run_zeroValue' {t : TypeId} {z : AV} (h : zeroOf P t = some z) : ∃ v, (zeroValue t).run P w = .ok v w ∧ Rep C E z v := by
  unfold zeroOf at h
  cases hi : P.info? t with
  | none => simp [hi] at h
  | some i =>
    simp only [hi, Option.bind_some] at h
    cases hz : i.zero with
    | none => simp [hz] at h
    | some v =>
      simp only [hz, Option.map_some, Option.some.injEq] at h
      exact ⟨v, by simp [zeroValue, typeInfo, hi, hz], h ▸ rep_avOf v⟩

theorem run_part' {t : TypeId} {cs : List AV} {vs : List Value} {off : Nat} {r : AV} (hr : RepL C E cs vs) (h : partOf P t cs off = some r) : ∃ v, (part t vs.toArray off).run P w = .ok v w ∧ Rep C E r v := by
  unfold partOf at h
  cases ha : aggOf P t with
  | none => simp [ha] at h
  | some b =>
    cases b with
    | true =>
      cases hs : szOf P t with
      | none => simp [ha, hs] at h
      | some n =>
        simp only [ha, hs] at h
        split at h
        · rename_i hle
          cases h
          refine ⟨.agg ((vs.drop off).take n).toArray, ?_, .agg _ _ (repL_take n (repL_drop off hr))⟩
          simp only [part, Sem.run_bind, run_isAgg' w ha, Result.andThen_ok, if_true, run_sizeOf' w hs, Sem.run_pure]
          congr 2
          simp [List.take_drop]
        · cases h
    | false =>
      simp only [ha] at h
      obtain ⟨v, hv, hrep⟩ := hr.get off r h
      refine ⟨v, ?_, hrep⟩
      simp [part, run_isAgg' w ha, hv]

/-! equality -/

theorem strOf_inj {s s' : ByteArray} (h : strOf s = strOf s') : s = s' := by
  unfold strOf at h
  have h2 : s.data.toList = s'.data.toList := by
    exact (List.map_inj_right (fun a b h => UInt8.toNat_inj.1 h)).1 h
  cases s; cases s'
  simp at h2
  rw [h2]

theorem strOf_beq (s s' : ByteArray) : (strOf s == strOf s') = (s.toList == s'.toList) := by
  rw [ByteArray.toList_eq, ByteArray.toList_eq]
  rw [Bool.eq_iff_iff]
  simp only [beq_iff_eq]
  constructor
  · intro h; rw [strOf_inj h]
  · intro h; unfold strOf; rw [h]


set_option maxHeartbeats 2000000 in
theorem eqA_sound : ∀ (d : Nat) (t : TypeId) (x y : AV) (u v : Value) (r : Bool), eqA P d t x y = some r → Rep C E x u → Rep C E y v → (Op.equalIn d t u v).run P w = .ok r w := by
  intro d
  induction d with
  | zero => intro t x y u v r h; simp [eqA] at h
  | succ d ih =>
    intro t x y u v r h hx hy
    have fields : ∀ (fs : List Field) (xs ys : List AV) (us vs : List Value) (r : Bool), eqFields P (eqA P d) xs ys fs = some r → RepL C E xs us → RepL C E ys vs →
        (Op.eqFields d us.toArray vs.toArray fs).run P w = .ok r w := by
      intro fs
      induction fs with
      | nil => intro xs ys us vs r h _ _; simp [eqFields] at h; subst h; simp [Op.eqFields]
      | cons f fs ihf =>
        intro xs ys us vs r h hx hy
        simp only [eqFields] at h
        simp only [Op.eqFields]
        split at h
        · rename_i hn
          rw [if_neg (by simpa using hn)]
          exact ihf _ _ _ _ _ h hx hy
        · rename_i hn
          rw [if_pos hn]
          split at h
          · rename_i a b ha hb
            obtain ⟨va, ra, pa⟩ := run_part' w hx ha
            obtain ⟨vb, rb, pb⟩ := run_part' w hy hb
            simp only [Sem.run_bind, ra, rb, Result.andThen_ok]
            split at h
            · rename_i he
              rw [ih _ _ _ _ _ _ he pa pb]
              simp only [Result.andThen_ok, Bool.not_true, Bool.false_eq_true, if_false]
              exact ihf _ _ _ _ _ h hx hy
            · rename_i he
              cases h
              rw [ih _ _ _ _ _ _ he pa pb]
              simp
            · cases h
          · cases h
    rw [eqA.eq_def] at h
    dsimp only at h
    split at h
    case h_25 fs xs ys ht =>
      split at h
      · cases h
      · rename_i hsh
        obtain ⟨us, rfl, hus⟩ := rep_agg hx
        obtain ⟨vs, rfl, hvs⟩ := rep_agg hy
        have hf : P.fieldsOf t = fs := by simp [Program.fieldsOf, ht]
        rw [run_equalIn_struct w d t us.toArray vs.toArray (by rw [hf]; exact ht) (by simpa using hsh), hf]
        exact fields _ _ _ _ _ _ h hus hvs
    all_goals first
      | (cases h; done)
      | (rename_i ht
         cases hx; cases hy
         first
           | (cases h; simp [Op.equalIn, run_underlying ht]; done)
           | (split at h <;> first | (cases h; done) | (rename_i hk; cases h; subst hk; simp [Op.equalIn, run_underlying ht]; done))
           | (rename_i s1 l1 s2 l2; cases h; subst l1; subst l2; simp [Op.equalIn, run_underlying ht, beq_toListBytes, strOf_beq]; done)
           | skip)

end
end Go.Ev
