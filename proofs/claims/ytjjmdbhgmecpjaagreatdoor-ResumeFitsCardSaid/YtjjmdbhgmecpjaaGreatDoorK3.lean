import Derived.Test.YtjjmdbhgmecpjaaGreatDoorKM
set_option linter.unusedVariables false
set_option linter.unusedSimpArgs false
namespace Go.Ev
section
variable (P : Program)

/-- One operation. -/
noncomputable def kOne (cf : FuncId → List AV → KH → Option (AV × KH)) (ops : Array Oper) (o : Oper) (E : KE) (K : KH) : Option (AV × KH) :=
  match wantedA ops E.env o with
  | none => none
  | some false => some (.tuple [], K)
  | some true =>
    match o.op with
    | .call { callee := .value f, args, .. } =>
      match E.env.at f with
      | .func (.func g) first cap => cf g (first ++ args.toList.map E.env.at ++ cap) K
      | _ => none
    | _ =>
      match evOp P E.env.at o K.heap with
      | some (r, H) =>
        match opKind P o.op with
        | 0 => some (r, K)
        | 1 => some (r, K)
        | _ =>
          match K.upd H (turns E.env.at o) with
          | some K1 => some (r, K1)
          | none => none
      | none => none

noncomputable def kS (cf : FuncId → List AV → KH → Option (AV × KH)) (n : Nat) (ops : Array Oper) : List Nat → KE → KH → Option (KE × KH)
  | [], E, K => some (E, K)
  | i :: l, E, K =>
    match ops[i]? with
    | some o =>
      bif dstOk n o.dst then
        match kOne P cf ops o E K with
        | some (r, K1) => kS cf n ops l (E.set o.dst r) K1
        | none => none
      else none
    | none => none

/-- The block that an operation reads. -/
def looks (ρ : Operand → AV) (o : Oper) : Nat :=
  match o.op with
  | .load _ a => (ρ a).rowOf
  | .indexAddr _ x _ => (ρ x).rowOf
  | .slice _ x _ _ _ => (ρ x).rowOf
  | .convert _ _ x => (ρ x).rowOf
  | .lookup _ x _ _ => (ρ x).rowOf
  | .call { args, .. } => (match args.toList.map ρ with | x :: _ => x.rowOf | [] => 1000000000)
  | _ => 1000000000

noncomputable def KH.only (K : KH) (b : Nat) : Heap := ⟨fun i => bif Nat.beq i b then K.blk.get b else none, K.next⟩

/-- A flagged operation, and its footprint. -/
noncomputable def kFlag (cf : FuncId → List AV → KH → Option (AV × KH)) (ops : Array Oper) (o : Oper) (E : KE) (K : KH) : Option (AV × KH × Foot) :=
  match wantedA ops E.env o with
  | none => none
  | some false => some (.tuple [], K, .none)
  | some true =>
    match o.op with
    | .call { callee := .value f, args, .. } =>
      match E.env.at f with
      | .func (.func g) first cap =>
        match cf g (first ++ args.toList.map E.env.at ++ cap) ⟨K.blk, K.next, K.next, []⟩ with
        | some (r, K1) => some (r, ⟨K1.blk, K1.next, K.mark, noteAll K.mark K1.log K.log⟩, .turns K1.log)
        | none => none
      | _ => none
    | .store _ _ _ =>
      match evOp P E.env.at o (K.only (turns E.env.at o)) with
      | some _ =>
        match evOp P E.env.at o K.heap with
        | some (r, H) =>
          match K.upd H (turns E.env.at o) with
          | some K1 => some (r, K1, .puts (turns E.env.at o))
          | none => none
        | none => none
      | none => none
    | _ =>
      match opKind P o.op with
      | 1 =>
        match evOp P E.env.at o (K.only (looks E.env.at o)) with
        | some (r, _) => some (r, K, .looks (looks E.env.at o))
        | none => none
      | _ =>
        match evOp P E.env.at o K.heap with
        | some (r, H) =>
          match K.upd H (turns E.env.at o) with
          | some K1 => some (r, K1, .turns [turns E.env.at o])
          | none => none
        | none => none

/-- Is the operation in one of the pairs? -/
def inPrs (i : Nat) (prs : List (Nat × Nat)) : Bool := prs.any fun p => Nat.beq p.1 i || Nat.beq p.2 i

def footOf (F : List (Nat × Foot)) (i : Nat) : Foot :=
  match F.filter fun p => Nat.beq p.1 i with
  | [p] => p.2
  | _ => .any

noncomputable def kSD (cf : FuncId → List AV → KH → Option (AV × KH)) (n : Nat) (ops : Array Oper) (prs : List (Nat × Nat)) : List Nat → KE → KH → List (Nat × Foot) → Option (KE × KH × List (Nat × Foot))
  | [], E, K, F => some (E, K, F)
  | i :: l, E, K, F =>
    match ops[i]? with
    | some o =>
      bif dstOk n o.dst then
        bif inPrs i prs then
          match kFlag P cf ops o E K with
          | some (r, K1, ft) => kSD cf n ops prs l (E.set o.dst r) K1 ((i, ft) :: F)
          | none => none
        else
          match kOne P cf ops o E K with
          | some (r, K1) => kSD cf n ops prs l (E.set o.dst r) K1 F
          | none => none
      else none
    | none => none

noncomputable def kL (c : KE → KH → Option (Ex × KE × KH)) : Nat → KE → KH → Option (Ex × KE × KH)
  | 0, _, _ => none
  | n + 1, E, K =>
    match c E K with
    | some (.normal, E1, K1) => kL c n E1 K1
    | some (.exit j, E1, K1) => some (.exit j, E1, K1)
    | some (.ret, E1, K1) => some (.ret, E1, K1)
    | none => none

noncomputable def kC (cf : FuncId → List AV → KH → Option (AV × KH)) (D : Nat → List (Nat × Nat) × List Nat) (n : Nat) : Code → KE → KH → Option (Ex × KE × KH)
  | .skip, E, K => some (.normal, E, K)
  | .label _, E, K => some (.normal, E, K)
  | .region id ops d, E, K =>
    match d with
    | false => (match kS P cf n ops (List.range ops.size) E K with
      | some (E1, K1) => some (.normal, E1, K1)
      | none => none)
    | true =>
      bif drawOkM P ops (D id).1 (D id).2 then
        match kSD P cf n ops (D id).1 (D id).2 E K [] with
        | some (E1, K1, F) => bif (D id).1.all (fun p => sepF (footOf F p.1) (footOf F p.2)) then some (.normal, E1, K1) else none
        | none => none
      else none
  | .seq x y, E, K =>
    match kC cf D n x E K with
    | some (.normal, E1, K1) => kC cf D n y E1 K1
    | some (.exit j, E1, K1) => some (.exit j, E1, K1)
    | some (.ret, E1, K1) => some (.ret, E1, K1)
    | none => none
  | .cond c x y, E, K =>
    match E.env.at c with
    | .bool true => kC cf D n x E K
    | .bool false => kC cf D n y E K
    | _ => none
  | .block id c, E, K =>
    match kC cf D n c E K with
    | some (.normal, E1, K1) => some (.normal, E1, K1)
    | some (.exit j, E1, K1) => some (bif Nat.beq j id then .normal else .exit j, E1, K1)
    | some (.ret, E1, K1) => some (.ret, E1, K1)
    | none => none
  | .loop c, E, K => kL (kC cf D n c) 10000 E K
  | .scope c, E, K => kC cf D n c E K
  | .exit id, E, K => some (.exit id, E, K)
  | .ret, E, K => some (.ret, E, K)
  | _, _, _ => none

noncomputable def ofArgsK : List AV → Nat → KE → KE
  | [], _, E => E
  | a :: l, k, E => ofArgsK l (k + 1) (Tr.put a 12 E k)

noncomputable def kF (D : FuncId → Nat → List (Nat × Nat) × List Nat) : Nat → FuncId → List AV → KH → Option (AV × KH)
  | 0, _, _, _ => none
  | d + 1, f, args, K =>
    match P.funcs[f]? with
    | some fn =>
      match fn.body with
      | some c =>
        bif fn.name == "runtime.NumGoroutine" || !(Nat.ble args.length fn.ntmps && Nat.ble fn.ntmps 3999) then none else
        match kC P (kF D d) (D f) fn.ntmps c (ofArgsK args 0 .nil) K with
        | some (.exit _, _, _) => none
        | some (_, E, K1) =>
          match evResults P fn.results.toList E.env K1.heap with
          | some r => some (r, K1)
          | none => none
        | none => none
      | none => none
    | none => none
end

section
variable {P : Program}

def CfOk (P : Program) (cf : FuncId → List AV → KH → Option (AV × KH)) : Prop :=
  ∀ g args K r K1, K.Ok → cf g args K = some (r, K1) → EvF P g args K.heap r K1.heap ∧ Sd K K1

theorem kOne_ok {cf : FuncId → List AV → KH → Option (AV × KH)} (hcf : CfOk P cf) {ops : Array Oper} {o : Oper} {E : KE} {K : KH} {r : AV} {K1 : KH} (hK : K.Ok) (h : kOne P cf ops o E K = some (r, K1)) :
    Did P ops o E.env K.blk.get r K1.blk.get ∧ Sd K K1 := by
  unfold kOne at h
  split at h
  · cases h
  · rename_i hw; cases h; exact ⟨.skip _ hw, Sd.refl hK⟩
  · rename_i hw
    split at h
    · rename_i f args ts hop
      split at h
      · rename_i g first cap hf
        obtain ⟨h1, h2⟩ := hcf _ _ _ _ _ hK h
        exact ⟨.call _ K.next f args ts g first cap r K1.heap hw hop hf h1, h2⟩
      · cases h
    · split at h
      · rename_i r' H he
        have hfree : K.blk.get K.next = none ∨ H.next = K.next := .inl (hK.none _ (Nat.le_refl _))
        split at h
        · rename_i hk
          cases h
          have := (kind0 hk he).1
          subst this
          exact ⟨.op _ K.next r _ hw hfree he, Sd.refl hK⟩
        · rename_i hk
          cases h
          have := (kind1 hk he).1
          subst this
          exact ⟨.op _ K.next r _ hw hfree he, Sd.refl hK⟩
        · split at h
          · rename_i K' hu
            cases h
            obtain ⟨h1, h2⟩ := upd_ok hK he hu
            refine ⟨?_, h2⟩
            have := Did.op (P := P) (ops := ops) (o := o) (env := E.env) K.blk.get K.next r H hw hfree he
            rw [← h1] at this
            exact this
          · cases h
      · cases h

theorem kS_ok {cf : FuncId → List AV → KH → Option (AV × KH)} (hcf : CfOk P cf) {n : Nat} (hn : n < 4000) {ops : Array Oper} : ∀ {l : List Nat} {E : KE} {K : KH} {E1 : KE} {K1 : KH}, K.Ok → kS P cf n ops l E K = some (E1, K1) →
    Run P none n ops (fun _ => false) l E.env K.blk.get E1.env K1.blk.get ∧ Sd K K1
  | [], E, K, E1, K1, hK, h => by
    simp only [kS, Option.some.injEq, Prod.mk.injEq] at h
    obtain ⟨rfl, rfl⟩ := h
    exact ⟨⟨rfl, rfl⟩, Sd.refl hK⟩
  | i :: l, E, K, E1, K1, hK, h => by
    simp only [kS] at h
    split at h
    · rename_i o ho
      cases hd : dstOk n o.dst with
      | false => rw [hd] at h; cases h
      | true =>
        rw [hd] at h
        simp only [cond_true] at h
        split at h
        · rename_i r K' h1
          obtain ⟨a1, a2⟩ := kOne_ok hcf hK h1
          obtain ⟨b1, b2⟩ := kS_ok hcf hn a2.ok h
          rw [KE.env_set E r hn hd] at b1
          exact ⟨⟨_, _, ⟨o, r, ho, hd, a1, rfl, fun q => by cases q⟩, b1⟩, a2.trans b2⟩
        · cases h
    · cases h

theorem upd_keep {ρ : Operand → AV} {o : Oper} {H : Heap} {r : AV} {K : KH} (hK : K.Ok) (he : evOp P ρ o K.heap = some (r, H)) (b : Nat) (x : Blk) (hb : b ≠ turns ρ o) (hg : K.blk.get b = some x) : H.blk b = some x := by
  by_cases hn : H.next = K.heap.next
  · rw [op_at he hn b hb]; exact hg
  · rcases op_local he with ⟨rfl, _⟩ | ⟨z, rfl, _⟩ | ⟨c, z, y, hc, rfl, _⟩
    · exact hg
    · simp only [Heap.push]
      rw [if_neg]
      · exact hg
      · rintro rfl
        have := hK.none _ (Nat.le_refl K.next)
        simp only [KH.heap] at hg
        rw [this] at hg
        cases hg
    · exact absurd rfl hn

theorem only_up {K : KH} {b : Nat} {G : Blks} (h : ∀ x, K.blk.get b = some x → G b = some x) : ∀ c x, (K.only b).blk c = some x → G c = some x := fun c x hc => by
  simp only [KH.only, beqN] at hc
  by_cases hbl : c = b
  · subst hbl
    simp only [decide_true, cond_true] at hc
    exact h x hc
  · simp [hbl] at hc

theorem kFlag_ok {cf : FuncId → List AV → KH → Option (AV × KH)} (hcf : CfOk P cf) {ops : Array Oper} {o : Oper} {E : KE} {K : KH} {r : AV} {K1 : KH} {ft : Foot} (hK : K.Ok) (h : kFlag P cf ops o E K = some (r, K1, ft)) :
    Did P ops o E.env K.blk.get r K1.blk.get ∧ Sd K K1 ∧ FootOk P ops ft o E.env K.blk.get r K1.blk.get := by
  unfold kFlag at h
  split at h
  · cases h
  · rename_i hwn; cases h; exact ⟨.skip _ hwn, Sd.refl hK, rfl, fun G => .skip _ hwn⟩
  · rename_i hwn
    split at h
    · rename_i f args ts hop
      split at h
      · rename_i g first cap hf
        split at h
        · rename_i r' K' hc
          cases h
          obtain ⟨h1, h2⟩ := hcf _ _ ⟨K.blk, K.next, K.next, []⟩ _ _ ⟨hK.none, Nat.le_refl _⟩ hc
          have hs : ∀ b, b < K.next → b ∉ K'.log → K'.blk.get b = K.blk.get b := fun b hb hl => h2.same b hb hl
          refine ⟨.call _ K.next f args ts g first cap r K'.heap hwn hop hf h1, ⟨⟨h2.ok.none, Nat.le_trans hK.mark h2.next⟩, h2.next, rfl, fun b hb => noteAll_sub b hb, fun b hb hl => ?_⟩, fun b y hb hg => ?_⟩
          · exact hs b (Nat.lt_of_lt_of_le hb hK.mark) (fun q => hl (noteAll_mem b q hb))
          · by_cases hlt : b < K.next
            · show K'.blk.get b = some y
              rw [hs b hlt hb]; exact hg
            · rw [hK.none b (Nat.le_of_not_lt hlt)] at hg; cases hg
        · cases h
      · cases h
    · rename_i t a x hop
      split at h
      · rename_i p hp
        split at h
        · rename_i r' H he
          split at h
          · rename_i K' hu
            cases h
            obtain ⟨h1, h2⟩ := upd_ok hK he hu
            have hd := Did.op (P := P) (ops := ops) (o := o) (env := E.env) K.blk.get K.next r H hwn (.inl (hK.none _ (Nat.le_refl _))) he
            rw [← h1] at hd
            refine ⟨hd, h2, by rw [hop]; rfl, ?_⟩
            have hst : ∀ G : Heap, evOp P E.env.at o G = if (E.env.at x).isUndef = false ∧ szOf P t = some (E.env.at x).cells.length then (G.store (E.env.at a) (E.env.at x).cells).map fun H' => (AV.undef, H') else none := fun G => by
              obtain ⟨dst, op, ty, pos, aft, g⟩ := o
              simp only at hop
              subst hop
              rfl
            rw [hst] at hp he
            split at hp
            · rename_i hc
              rw [if_pos hc] at he
              obtain ⟨Hb, hb1, _⟩ := map_some_eq hp
              obtain ⟨Hk, hk1, hk2⟩ := map_some_eq he
              obtain ⟨c, z, y, g1, g2, g3⟩ := store_local hb1
              have hcb : c = turns E.env.at o := by
                simp only [KH.only, beqN] at g1
                by_cases hbl : c = turns E.env.at o
                · exact hbl
                · simp [hbl] at g1
              subst hcb
              have hy : K.blk.get (turns E.env.at o) = some y := by simpa [KH.only] using g1
              have hG : ∀ G : Heap, G.blk (turns E.env.at o) = some y → G.store (E.env.at a) (E.env.at x).cells = some (G.set (turns E.env.at o) z) := fun G hg => g3 G (fun c w hw => only_up (fun w' hw' => by rw [hy] at hw'; cases hw'; exact hg) c w hw)
              have hk3 := hG K.heap hy
              rw [hk1] at hk3
              cases hk3
              cases hk2
              refine ⟨z, y, hy, ?_, fun G hg => ?_⟩
              · have := congrArg Heap.blk h1
                simp only [KH.heap] at this
                rw [this]; rfl
              · refine .op G 0 _ (Heap.set ⟨G, 0⟩ (turns E.env.at o) z) hwn (.inr rfl) ?_
                rw [hst, if_pos hc, hG ⟨G, 0⟩ hg]
                rfl
            · cases hp
          · cases h
        · cases h
      · cases h
    · split at h
      · rename_i hk
        split at h
        · rename_i r' H' he
          cases h
          obtain ⟨e1, e2⟩ := kind1 hk he
          have hup : ∀ G : Heap, (∀ x, K.blk.get (looks E.env.at o) = some x → G.blk (looks E.env.at o) = some x) → evOp P E.env.at o G = some (r, G) := fun G hG => e2 G (only_up hG)
          exact ⟨.op _ K.next r K.heap hwn (.inr rfl) (hup _ (fun _ h => h)), Sd.refl hK, hk, rfl, fun G hG => .op G K.next r ⟨G, K.next⟩ hwn (.inr rfl) (hup _ hG)⟩
        · cases h
      · rename_i hk
        split at h
        · rename_i r' H he
          split at h
          · rename_i K' hu
            cases h
            obtain ⟨h1, h2⟩ := upd_ok hK he hu
            have hd := Did.op (P := P) (ops := ops) (o := o) (env := E.env) K.blk.get K.next r H hwn (.inl (hK.none _ (Nat.le_refl _))) he
            rw [← h1] at hd
            refine ⟨hd, h2, fun b y hb hg => ?_⟩
            have := upd_keep hK he b y (fun q => hb (by simp [q])) hg
            rw [← h1] at this
            exact this
          · cases h
        · cases h

theorem footOf_mem {F : List (Nat × Foot)} {p : Nat × Foot} (h : p ∈ F) : footOf F p.1 = p.2 ∨ footOf F p.1 = .any := by
  unfold footOf
  have hm : p ∈ F.filter fun q => Nat.beq q.1 p.1 := List.mem_filter.2 ⟨h, by simp⟩
  split
  · rename_i q hq
    rw [hq] at hm
    simp at hm
    exact .inl (by rw [hm])
  · exact .inr rfl

theorem kSD_ok {cf : FuncId → List AV → KH → Option (AV × KH)} (hcf : CfOk P cf) {n : Nat} (hn : n < 4000) {ops : Array Oper} {prs : List (Nat × Nat)} : ∀ {l : List Nat} {E : KE} {K : KH} {F : List (Nat × Foot)} {E1 : KE} {K1 : KH} {F1 : List (Nat × Foot)}, K.Ok → kSD P cf n ops prs l E K F = some (E1, K1, F1) →
    (∀ p ∈ F, p ∈ F1) ∧ Sd K K1 ∧ ∀ Fn : Nat → Foot, (∀ p ∈ F1, Fn p.1 = p.2 ∨ Fn p.1 = .any) → (∀ i, inPrs i prs = false → Fn i = .any) → RunG (StF P n ops Fn) l E.env K.blk.get E1.env K1.blk.get
  | [], E, K, F, E1, K1, F1, hK, h => by
    simp only [kSD, Option.some.injEq, Prod.mk.injEq] at h
    obtain ⟨rfl, rfl, rfl⟩ := h
    exact ⟨fun _ h => h, Sd.refl hK, fun _ _ _ => ⟨rfl, rfl⟩⟩
  | i :: l, E, K, F, E1, K1, F1, hK, h => by
    simp only [kSD] at h
    split at h
    · rename_i o ho
      cases hd : dstOk n o.dst with
      | false => rw [hd] at h; cases h
      | true =>
        rw [hd] at h
        simp only [cond_true] at h
        cases hf : inPrs i prs with
        | true =>
          rw [hf] at h
          simp only [cond_true] at h
          split at h
          · rename_i r K' ft h1
            obtain ⟨c1, a2, c3⟩ := kFlag_ok hcf hK h1
            obtain ⟨b1, b3, b4⟩ := kSD_ok hcf hn a2.ok h
            refine ⟨fun p hp => b1 p (List.mem_cons_of_mem _ hp), a2.trans b3, fun Fn hF hN => ?_⟩
            have b4 := b4 Fn hF hN
            rw [KE.env_set E r hn hd] at b4
            refine ⟨_, _, ⟨o, r, ho, hd, c1, rfl, ?_⟩, b4⟩
            rcases hF _ (b1 (i, ft) List.mem_cons_self) with e | e
            · simp only at e; rw [e]; exact c3
            · simp only at e; rw [e]; trivial
          · cases h
        | false =>
          rw [hf] at h
          simp only [cond_false] at h
          split at h
          · rename_i r K' h1
            obtain ⟨a1, a2⟩ := kOne_ok hcf hK h1
            obtain ⟨b1, b3, b4⟩ := kSD_ok hcf hn a2.ok h
            refine ⟨b1, a2.trans b3, fun Fn hF hN => ?_⟩
            have b4 := b4 Fn hF hN
            rw [KE.env_set E r hn hd] at b4
            refine ⟨_, _, ⟨o, r, ho, hd, a1, rfl, ?_⟩, b4⟩
            rw [hN i hf]; trivial
          · cases h
    · cases h

theorem footOf_out {F : List (Nat × Foot)} {prs : List (Nat × Nat)} (i : Nat) : inPrs i prs = false → (if inPrs i prs = true then footOf F i else .any) = Foot.any := fun h => by simp [h]

theorem kL_ok {n : Nat} {c : Code} {f : KE → KH → Option (Ex × KE × KH)} (hf : ∀ {E : KE} {K : KH} {ex : Ex} {E1 : KE} {K1 : KH}, K.Ok → f E K = some (ex, E1, K1) → EvC P n c E.env K.heap ex E1.env K1.heap ∧ Sd K K1) :
    ∀ {k : Nat} {E : KE} {K : KH} {ex : Ex} {E1 : KE} {K1 : KH}, K.Ok → kL f k E K = some (ex, E1, K1) → EvL P n c E.env K.heap ex E1.env K1.heap ∧ Sd K K1
  | 0, E, K, ex, E1, K1, hK, h => by cases h
  | k + 1, E, K, ex, E1, K1, hK, h => by
    simp only [kL] at h
    split at h
    · rename_i E' K' h1
      obtain ⟨a1, a2⟩ := hf hK h1
      obtain ⟨b1, b2⟩ := kL_ok hf a2.ok h
      exact ⟨.again _ _ _ _ _ _ _ _ _ a1 b1, a2.trans b2⟩
    · rename_i j E' K' h1
      cases h
      obtain ⟨a1, a2⟩ := hf hK h1
      exact ⟨.out _ _ _ _ _ _ _ a1 (by simp), a2⟩
    · rename_i E' K' h1
      cases h
      obtain ⟨a1, a2⟩ := hf hK h1
      exact ⟨.out _ _ _ _ _ _ _ a1 (by simp), a2⟩
    · cases h

theorem kC_ok {cf : FuncId → List AV → KH → Option (AV × KH)} (hcf : CfOk P cf) {D : Nat → List (Nat × Nat) × List Nat} {n : Nat} (hn : n < 4000) : ∀ {c : Code} {E : KE} {K : KH} {ex : Ex} {E1 : KE} {K1 : KH}, K.Ok → kC P cf D n c E K = some (ex, E1, K1) →
    EvC P n c E.env K.heap ex E1.env K1.heap ∧ Sd K K1 := by
  intro c
  induction c with
  | skip => intro E K ex E1 K1 hK h; simp only [kC] at h; cases h; exact ⟨.skip _ _ _, Sd.refl hK⟩
  | label l => intro E K ex E1 K1 hK h; simp only [kC] at h; cases h; exact ⟨.label _ _ _ _, Sd.refl hK⟩
  | exit id => intro E K ex E1 K1 hK h; simp only [kC] at h; cases h; exact ⟨.exit _ _ _ _, Sd.refl hK⟩
  | ret => intro E K ex E1 K1 hK h; simp only [kC] at h; cases h; exact ⟨.ret _ _ _, Sd.refl hK⟩
  | region id ops d =>
    intro E K ex E1 K1 hK h
    simp only [kC] at h
    cases d with
    | false =>
      simp only at h
      split at h
      · rename_i E' K' h1
        cases h
        obtain ⟨a1, a2⟩ := kS_ok hcf hn hK h1
        exact ⟨.region _ _ _ _ _ _ _ (Run.evS a1 _ _), a2⟩
      · cases h
    | true =>
      simp only at h
      cases hd : drawOkM P ops (D id).1 (D id).2 with
      | false => rw [hd] at h; cases h
      | true =>
        rw [hd] at h
        simp only [cond_true] at h
        split at h
        · rename_i E' K' F h1
          cases hr : (D id).1.all (fun p => sepF (footOf F p.1) (footOf F p.2)) with
          | false => rw [hr] at h; cases h
          | true =>
            rw [hr] at h
            cases h
            obtain ⟨_, a2, a1⟩ := kSD_ok hcf hn hK h1
            have hin : ∀ j i, hasP j i (D id).1 = true → inPrs j (D id).1 = true ∧ inPrs i (D id).1 = true := fun j i hp => by
              simp only [hasP, List.any_eq_true, Bool.and_eq_true] at hp
              obtain ⟨q, hq, h1, h2⟩ := hp
              simp only [inPrs, List.any_eq_true, Bool.or_eq_true]
              exact ⟨⟨q, hq, .inl h1⟩, ⟨q, hq, .inr h2⟩⟩
            refine ⟨.draw _ _ _ _ _ _ _ (draw_of_runG (F := fun i => if inPrs i (D id).1 = true then footOf F i else .any) (drawM_S hd) (fun j i hp => ?_) (a1 _ (fun q hq => ?_) (fun i hi => by simp [hi]))), a2⟩
            · obtain ⟨i1, i2⟩ := hin j i hp
              simp only [i1, i2, if_true]
              simp only [hasP, List.any_eq_true, Bool.and_eq_true, Nat.beq_eq] at hp
              obtain ⟨q, hq, rfl, rfl⟩ := hp
              exact List.all_eq_true.1 hr q hq
            · split
              · exact footOf_mem hq
              · exact .inr rfl
        · cases h
  | seq x y ihx ihy =>
    intro E K ex E1 K1 hK h
    simp only [kC] at h
    split at h
    · rename_i E' K' h1
      obtain ⟨a1, a2⟩ := ihx hK h1
      obtain ⟨b1, b2⟩ := ihy a2.ok h
      exact ⟨.seq _ _ _ _ _ _ _ _ _ _ a1 b1, a2.trans b2⟩
    · rename_i j E' K' h1
      cases h
      obtain ⟨a1, a2⟩ := ihx hK h1
      exact ⟨.seqOut _ _ _ _ _ _ _ _ a1 (by simp), a2⟩
    · rename_i E' K' h1
      cases h
      obtain ⟨a1, a2⟩ := ihx hK h1
      exact ⟨.seqOut _ _ _ _ _ _ _ _ a1 (by simp), a2⟩
    · cases h
  | cond c x y ihx ihy =>
    intro E K ex E1 K1 hK h
    simp only [kC] at h
    split at h
    · rename_i hc
      obtain ⟨a1, a2⟩ := ihx hK h
      exact ⟨.cond _ _ _ _ true _ _ _ _ _ hc a1, a2⟩
    · rename_i hc
      obtain ⟨a1, a2⟩ := ihy hK h
      exact ⟨.cond _ _ _ _ false _ _ _ _ _ hc a1, a2⟩
    · cases h
  | block id c ih =>
    intro E K ex E1 K1 hK h
    simp only [kC] at h
    split at h
    · rename_i E' K' h1
      cases h
      obtain ⟨a1, a2⟩ := ih hK h1
      exact ⟨.block _ _ _ _ _ _ _ _ a1 (.inl rfl), a2⟩
    · rename_i j E' K' h1
      obtain ⟨a1, a2⟩ := ih hK h1
      rw [beqN] at h
      by_cases hj : j = id
      · simp only [hj, decide_true, cond_true] at h
        cases h
        exact ⟨.block _ _ _ _ _ _ _ _ a1 (.inr (by rw [hj])), a2⟩
      · simp only [hj, decide_false, cond_false] at h
        cases h
        exact ⟨.blockOut _ _ _ _ _ _ _ _ a1 ⟨by simp, by simpa using hj⟩, a2⟩
    · rename_i E' K' h1
      cases h
      obtain ⟨a1, a2⟩ := ih hK h1
      exact ⟨.blockOut _ _ _ _ _ _ _ _ a1 ⟨by simp, by simp⟩, a2⟩
    · cases h
  | loop c ih =>
    intro E K ex E1 K1 hK h
    simp only [kC] at h
    obtain ⟨a1, a2⟩ := kL_ok (fun hk h => ih hk h) hK h
    exact ⟨.loop _ _ _ _ _ _ _ a1, a2⟩
  | scope c ih =>
    intro E K ex E1 K1 hK h
    simp only [kC] at h
    obtain ⟨a1, a2⟩ := ih hK h
    exact ⟨.scope _ _ _ _ _ _ _ a1, a2⟩
  | _ => intro E K ex E1 K1 hK h; simp [kC] at h

theorem ofArgsK_env : ∀ (l : List AV) (k : Nat) (E : KE), k + l.length < 4000 → (∀ t, k ≤ t → E.get t = none) → ∀ t, (ofArgsK l k E).env t = if t < k then E.env t else l.getD (t - k) .undef
  | [], k, E, hk, hE, t => by
    simp only [ofArgsK]
    by_cases ht : t < k
    · rw [if_pos ht]
    · rw [if_neg ht]; simp [KE.env, hE t (by omega)]
  | a :: l, k, E, hk, hE, t => by
    have hlt : k + 1 < 2 ^ 12 := Nat.lt_of_lt_of_le (m := 4001) (by simp at hk; omega) (by decide)
    simp only [ofArgsK]
    rw [ofArgsK_env l (k + 1) _ (by simp at hk; omega) (fun t ht => by rw [Tr.get_put _ _ _ _ _ hlt, if_neg (by omega)]; exact hE t (by omega))]
    by_cases h1 : t < k
    · rw [if_pos (by omega), if_pos h1]; simp only [KE.env, Tr.get_put _ _ _ _ _ hlt]; rw [if_neg (by omega)]
    · by_cases h2 : t = k
      · subst h2; rw [if_pos (by omega), if_neg (by omega)]; simp [KE.env, Tr.get_put _ _ _ _ _ hlt]
      · rw [if_neg (by omega), if_neg h1, show t - k = (t - (k + 1)) + 1 by omega]; simp

theorem kF_ok {D : FuncId → Nat → List (Nat × Nat) × List Nat} : ∀ (d : Nat), CfOk P (kF P D d)
  | 0 => fun g args K r K1 hK h => by cases h
  | d + 1 => fun f args K r K1 hK h => by
    simp only [kF] at h
    split at h
    · rename_i fn hfn
      split at h
      · rename_i c hc
        cases hnm : (fn.name == "runtime.NumGoroutine") with
        | true => rw [hnm] at h; simp at h
        | false =>
          rw [hnm, bleN, bleN] at h
          by_cases hl : args.length ≤ fn.ntmps
          · by_cases hl2 : fn.ntmps ≤ 3999
            · simp only [hl, hl2, decide_true, Bool.and_self, Bool.not_true, Bool.or_self, cond_false] at h
              have henv : (ofArgsK args 0 .nil).env = Env.ofArgs args := by
                funext t
                rw [ofArgsK_env args 0 .nil (by omega) (fun t _ => rfl)]
                simp [Env.ofArgs]
              split at h
              · cases h
              · rename_i ex E K' hx h1
                split at h
                · rename_i r' hr
                  cases h
                  obtain ⟨a1, a2⟩ := kC_ok (kF_ok d) (by omega) hK h1
                  rw [henv] at a1
                  refine ⟨.mk f fn c args _ ex E.env _ r hfn hnm hc hl a1 ?_ hr, a2⟩
                  cases ex with
                  | normal => exact .inl rfl
                  | ret => exact .inr rfl
                  | exit j => exact (hx j rfl).elim
                · cases h
              · cases h
            · simp [hl2] at h
          · simp [hl] at h
      · cases h
    · cases h
end
end Go.Ev
namespace Go.Ev
/-- The drawn regions of a program: function, region, flags, order. -/
def tabD : List (Nat × Nat × List (Nat × Nat) × List Nat) → FuncId → Nat → List (Nat × Nat) × List Nat
  | [], _, _ => ([], [])
  | (g, i, fl, b) :: l, f, id => bif Nat.beq g f && Nat.beq i id then (fl, b) else tabD l f id

noncomputable def okB : Option (AV × KH) → Bool
  | some (.bool b, _) => b
  | _ => false

theorem okB_run {P : Program} {D : FuncId → Nat → List (Nat × Nat) × List Nat} {d : Nat} {f : FuncId} {args : List AV} {K : KH} (hK : K.Ok) (h : okB (kF P D d f args K) = true) : ∃ K1, EvF P f args K.heap (.bool true) K1.heap ∧ Sd K K1 := by
  cases hx : kF P D d f args K with
  | none => rw [hx] at h; cases h
  | some p =>
    obtain ⟨r, K1⟩ := p
    rw [hx] at h
    cases r <;> simp [okB] at h
    subst h
    exact ⟨K1, kF_ok d _ _ _ _ _ hK hx⟩
end Go.Ev
