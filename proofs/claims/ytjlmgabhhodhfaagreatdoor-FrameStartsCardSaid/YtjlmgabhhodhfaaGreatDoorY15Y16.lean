import Derived.Test.YtjlmgabhhodhfaaGreatDoorY12Y13
import Derived.Test.YtjlmgabhhodhfaaGreatDoorY8
import Derived.Test.YtjlmgabhhodhfaaGreatDoorFTy3XD
import Derived.Test.YtjlmgabhhodhfaaGreatDoorGT
set_option linter.unusedVariables false
set_option linter.unusedSimpArgs false
set_option maxRecDepth 100000
namespace Go.Proofs.T
open Go.Ev
open Nat (reduceMul reducePow reduceSub reduceEqDiff reduceLT reduceAdd reduceLeDiff)
open UInt8 (reduceToNat)
set_option maxHeartbeats 4000000 in
theorem sameL_ok {n : Nat} {H : Heap} {va vc : AV} {La Lc : List (List AV)} (hva : Holds H 5 va La) (hvc : Holds H 5 vc Lc) (hlen : La.length = Lc.length) (hlb : Lc.length < 2 ^ 60) (hE : ∀ (j : Nat) (a c : List AV), La[j]? = some a → Lc[j]? = some c → EqV n H a c) (hF : Free H) (K : AV → Heap → Prop) (hK : ∀ H', Up H H' → Free H' → K (.bool true) H') : WF Tryz.prog 36 [.agg [.int .i64 0, .int .i64 0, .str [], va, .nilslice], .agg [.int .i64 0, .int .i64 0, .str [], vc, .nilslice]] H K := by
  have x1 := holds_cell hva
  have x2 := holds_cell hvc
  refine WF_body Tryz.func36 (by kernel_rfl) rfl Tryz.ntmps36 (by rw [Tryz.results36]) (of_decide_eq_true (by kernel_rfl)) ?_
  simp (maxSteps:=999999) only [ey, implies_true, reduceMul, reducePow, reduceSub, Nat.reduceBEq, reduceToNat, reduceEqDiff, reduceLT, reduceCtorEq, reduceAdd, reduceLeDiff, hF.at, hF.hp, x1, x2]
  generalize hH1 : HP H [Blk.row 34 5 [[.int .i64 0, .int .i64 0, .str [], va, .nilslice]] 0 0, Blk.row 34 5 [[.int .i64 0, .int .i64 0, .str [], vc, .nilslice]] 0 0] = H1
  have b0 : H1.blk H.next = some (.row 34 5 [[.int .i64 0, .int .i64 0, .str [], va, .nilslice]] 0 0) := by rw [← hH1, hp_blk0]; rfl
  have b1 : H1.blk (H.next + 1) = some (.row 34 5 [[.int .i64 0, .int .i64 0, .str [], vc, .nilslice]] 0 0) := by rw [← hH1, hp_blk]; rfl
  have hF1 : Free H1 := hH1 ▸ hF.hpF _
  have hU1 : Up H H1 := hH1 ▸ hF.hpU _
  have hva1 := hva.up hU1
  have hvc1 := hvc.up hU1
  have hwa1 : Holds H1 1 .nilslice [] := Holds.nil
  have hwc : ∀ H, Holds H 1 .nilslice [] := fun _ => Holds.nil
  simp (maxSteps:=999999) only [ey, implies_true, reduceMul, reducePow, reduceSub, Nat.reduceBEq, reduceToNat, reduceEqDiff, reduceLT, reduceCtorEq, reduceAdd, reduceLeDiff, b0, b1, bneq_self, beq_self_eq_true, hva1.lenAt (P := Tryz.prog) und24, hvc1.lenAt (P := Tryz.prog) und24, hwa1.lenAt (P := Tryz.prog) und23, (hwc H1).lenAt (P := Tryz.prog) und23, hlen]
  refine loopStepR (fun env H' => H' = H1 ∧ ∃ (i : Nat), i ≤ ([] : List (List AV)).length ∧ env.at (.tmp 5) = .int .i64 i ∧ env.at (.tmp 2) = .ptr H.next 0 0 0 ∧ env.at (.tmp 3) = .ptr (H.next + 1) 0 0 0)
    (fun env H' => match env.at (.tmp 5) with | .int _ i => ((([] : List (List AV)).length : Int) - i).toNat | _ => 0)
    (fun ex env H' => ex = .exit 0 ∧ H' = H1 ∧ env.at (.tmp 2) = .ptr H.next 0 0 0 ∧ env.at (.tmp 3) = .ptr (H.next + 1) 0 0 0) ?_ ?_ ?_
  · exact ⟨rfl, 0, Nat.zero_le _, by simp only [ey, implies_true, reduceMul, reducePow, reduceSub, Nat.reduceBEq, reduceToNat, reduceEqDiff, reduceLT, reduceCtorEq, reduceAdd, reduceLeDiff]; rfl, by simp only [ey, implies_true, reduceMul, reducePow, reduceSub, Nat.reduceBEq, reduceToNat, reduceEqDiff, reduceLT, reduceCtorEq, reduceAdd, reduceLeDiff], by simp only [ey, implies_true, reduceMul, reducePow, reduceSub, Nat.reduceBEq, reduceToNat, reduceEqDiff, reduceLT, reduceCtorEq, reduceAdd, reduceLeDiff]⟩
  · rintro env H' ⟨rfl, j, hj, e5, e2, e3⟩
    obtain rfl : j = 0 := by simpa using hj
    simp (maxSteps:=999999) only [ey, implies_true, reduceMul, reducePow, reduceSub, Nat.reduceBEq, reduceToNat, reduceEqDiff, reduceLT, reduceCtorEq, reduceAdd, reduceLeDiff, e5, e2, e3, b0, b1, hwa1.lenAt (P := Tryz.prog) und23, show (((0 : Nat) : Int) < ((([] : List (List AV)).length : Nat) : Int)) = False from by simp, show (((0 : Nat) : Int) < ((0 : Nat) : Int)) = False from by simp, List.length_nil]
  · rintro ex env H' ⟨rfl, rfl, e2, e3⟩
    simp (maxSteps:=999999) only [ey, implies_true, reduceMul, reducePow, reduceSub, Nat.reduceBEq, reduceToNat, reduceEqDiff, reduceLT, reduceCtorEq, reduceAdd, reduceLeDiff, e2, e3]
    refine loopStep' (fun env3 H3 => Up H' H3 ∧ Free H3 ∧ ∃ (i : Nat), i ≤ Lc.length ∧ env3.at (.tmp 6) = .int .i64 i ∧ env3.at (.tmp 2) = .ptr H.next 0 0 0 ∧ env3.at (.tmp 3) = .ptr (H.next + 1) 0 0 0)
      (fun env3 H3 => match env3.at (.tmp 6) with | .int _ i => ((Lc.length : Int) - i).toNat | _ => 0) ?_ ?_
    · exact ⟨Up.refl _, hF1, 0, Nat.zero_le _, by simp only [ey, implies_true, reduceMul, reducePow, reduceSub, Nat.reduceBEq, reduceToNat, reduceEqDiff, reduceLT, reduceCtorEq, reduceAdd, reduceLeDiff]; rfl, by simp only [ey, implies_true, reduceMul, reducePow, reduceSub, Nat.reduceBEq, reduceToNat, reduceEqDiff, reduceLT, reduceCtorEq, reduceAdd, reduceLeDiff, e2], by simp only [ey, implies_true, reduceMul, reducePow, reduceSub, Nat.reduceBEq, reduceToNat, reduceEqDiff, reduceLT, reduceCtorEq, reduceAdd, reduceLeDiff, e3]⟩
    · rintro env3 H3 ⟨hU3, hF3, j, hj, d6, d2, d3⟩
      have g0 := hU3 _ _ b0
      have g1 := hU3 _ _ b1
      have hva3 := hva1.up hU3
      have hvc3 := hvc1.up hU3
      by_cases hlt : j < Lc.length
      · obtain ⟨c, hc⟩ : ∃ c, Lc[j]? = some c := ⟨_, List.getElem?_eq_getElem hlt⟩
        obtain ⟨a, ha⟩ : ∃ a, La[j]? = some a := ⟨_, List.getElem?_eq_getElem (by omega)⟩
        obtain ⟨p1, hp1, hl1⟩ := idx_of hva3 und24 sz34 ha
        obtain ⟨p2, hp2, hl2⟩ := idx_of hvc3 und24 sz34 hc
        simp (maxSteps:=999999) only [ey, implies_true, reduceMul, reducePow, reduceSub, Nat.reduceBEq, reduceToNat, reduceEqDiff, reduceLT, reduceCtorEq, reduceAdd, reduceLeDiff, d6, d2, d3, g0, g1, hva3.lenAt (P := Tryz.prog) und24, hlen, lt_true hlt]
        refine drawStep [] [0, 1, 2, 3, 4, 5, 6, 7, 8, 9, 10, 11] _ rfl (by kernel_rfl) ?_
        simp (maxSteps:=999999) only [ey, implies_true, reduceMul, reducePow, reduceSub, Nat.reduceBEq, reduceToNat, reduceEqDiff, reduceLT, reduceCtorEq, reduceAdd, reduceLeDiff, d6, d2, d3, g0, g1, hp1, hp2, hl1 H3 (Up.refl _), hl2 H3 (Up.refl _)]
        refine callStep (same_ok n H3 a c ((hE j a c ha hc).up (hU1.trans hU3)) hF3 _ fun H4 hU4 hF4 => ?_)
        simp (maxSteps:=999999) only [ey, implies_true, reduceMul, reducePow, reduceSub, Nat.reduceBEq, reduceToNat, reduceEqDiff, reduceLT, reduceCtorEq, reduceAdd, reduceLeDiff, d6, d2, d3, wrap_succ (i := j) (by omega)]
        refine ⟨⟨hU3.trans hU4, hF4, j + 1, hlt, rfl⟩, ?_⟩
        omega
      · simp (maxSteps:=999999) only [ey, implies_true, reduceMul, reducePow, reduceSub, Nat.reduceBEq, reduceToNat, reduceEqDiff, reduceLT, reduceCtorEq, reduceAdd, reduceLeDiff, d6, d2, d3, g0, g1, hva3.lenAt (P := Tryz.prog) und24, hlen, lt_false hlt]
        exact hK _ (hU1.trans hU3) hF3
theorem opStepK_put {P : Program} {K : (Nat → Prop) × Bool} {n : Nat} {ops : Array Oper} {o : Oper} {l : List (Oper × Bool)} {ks : List KItem} {env : Env} {H : Heap} {Q : Ex → Env → Heap → Prop} (r : AV) (H1 : Heap) (he : evOp P env.at o H = some (r, H1)) (hn : H1.next = H.next) (hk : opKind P o.op ≠ 1) (hK : K.2 = false) (hu : ∀ b x, K.1 b → H.blk b = some x → H1.blk b = some x) (hA : AfterOps P (some K) n ops l ks (env.put o.dst r) H1 Q) : OpStepK P K n ops o l ks env H Q := by
  unfold OpStepK
  rw [he]
  refine ⟨.inl hn, ⟨?_, fun h => absurd h hk⟩, hA⟩
  obtain ⟨Kp, b⟩ := K
  simp only at hK
  subst hK
  exact hu
theorem eqA4 (a b : Bool) : eqA Tryz.prog 10000 4 (.bool a) (.bool b) = some (a == b) := by rw [show (10000 : Nat) = 9999 + 1 from rfl]; simp [eqA, und4]
theorem f20_ok {n : Nat} {H : Heap} {va vc : AV} {La Lc : List (List AV)} (hva : Holds H 5 va La) (hvc : Holds H 5 vc Lc) (hlen : La.length = Lc.length) (hlb : Lc.length < 2 ^ 60) (hE : ∀ (j : Nat) (a c : List AV), La[j]? = some a → Lc[j]? = some c → EqV n H a c) (hF : Free H) (K : AV → Heap → Prop) (hK : ∀ H', Up H H' → Free H' → K (.bool true) H') : WF Tryz.prog 20 [va, vc] H K := by
  have x1 := holds_cell hva
  have x2 := holds_cell hvc
  have hu : ∀ v : AV, v.isCell = true → v.isUndef = false ∧ v.cells = [v] := fun v hv => by cases v <;> first | exact ⟨rfl, rfl⟩ | (cases hv)
  obtain ⟨a1, a2⟩ := hu va x1
  obtain ⟨b1, b2⟩ := hu vc x2
  refine WF_body Tryz.func20 (by kernel_rfl) rfl Tryz.ntmps20 (by rw [Tryz.results20]) (of_decide_eq_true (by kernel_rfl)) ?_
  simp (maxSteps:=999999) only [ey, implies_true, reduceMul, reducePow, reduceSub, Nat.reduceBEq, reduceToNat, reduceEqDiff, reduceLT, reduceCtorEq, reduceAdd, reduceLeDiff, a1, a2, b1, b2, x1, x2, show ∀ a b c d e w : AV, splice [a, b, c, d, e] 3 [w] = [a, b, c, w, e] from fun _ _ _ _ _ _ => rfl]
  refine callStep (sameL_ok hva hvc hlen hlb hE hF _ fun H2 hU2 hF2 => ?_)
  simp (maxSteps:=999999) only [ey, implies_true, reduceMul, reducePow, reduceSub, Nat.reduceBEq, reduceToNat, reduceEqDiff, reduceLT, reduceCtorEq, reduceAdd, reduceLeDiff]
  exact hK _ hU2 hF2
theorem f57_nil (H : Heap) (hF : Free H) (K : AV → Heap → Prop) (hK : ∀ H', Up H H' → Free H' → K (.bool true) H') : WF Tryz.prog 57 [.nilslice, .nilslice] H K := by
  have hl53 : ∀ G, evBuiltin Tryz.prog G .len #[53] [.nilslice] = some (.int .i64 0, G) := fun G => len_nil und53 G
  refine WF_body Tryz.func57 (by kernel_rfl) rfl Tryz.ntmps57 (by rw [Tryz.results57]) (of_decide_eq_true (by kernel_rfl)) ?_
  simp (maxSteps:=999999) only [ey, implies_true, reduceMul, reducePow, reduceSub, Nat.reduceBEq, reduceToNat, reduceEqDiff, reduceLT, reduceCtorEq, reduceAdd, reduceLeDiff, hl53, bneq_self]
  refine loopStep' (fun env H' => H' = H ∧ env.at (.tmp 5) = .int .i64 0 ∧ env.at (.tmp 0) = .nilslice) (fun _ _ => 0) ?_ ?_
  · exact ⟨rfl, by simp only [ey, implies_true, reduceMul, reducePow, reduceSub, Nat.reduceBEq, reduceToNat, reduceEqDiff, reduceLT, reduceCtorEq, reduceAdd, reduceLeDiff], by simp only [ey, implies_true, reduceMul, reducePow, reduceSub, Nat.reduceBEq, reduceToNat, reduceEqDiff, reduceLT, reduceCtorEq, reduceAdd, reduceLeDiff]⟩
  · rintro env H' ⟨rfl, e5, e0⟩
    simp (maxSteps:=999999) only [ey, implies_true, reduceMul, reducePow, reduceSub, Nat.reduceBEq, reduceToNat, reduceEqDiff, reduceLT, reduceCtorEq, reduceAdd, reduceLeDiff, e5, e0, hl53, lt00]
    exact hK _ (Up.refl _) hF
theorem f19_zero (H : Heap) (hF : Free H) (K : AV → Heap → Prop) (hK : ∀ H', Up H H' → Free H' → K (.bool true) H') : WF Tryz.prog 19 [.agg [.int .i64 0, .nilslice, .int .i64 0, .nilslice, .bool false, .str []], .agg [.int .i64 0, .nilslice, .int .i64 0, .nilslice, .bool false, .str []]] H K := by
  have hl28 : ∀ G, evBuiltin Tryz.prog G .len #[28] [.nilslice] = some (.int .i64 0, G) := fun G => len_nil und28 G
  have hl29 : ∀ G, evBuiltin Tryz.prog G .len #[29] [.nilslice] = some (.int .i64 0, G) := fun G => len_nil und29 G
  refine WF_body Tryz.func19 (by kernel_rfl) rfl Tryz.ntmps19 (by rw [Tryz.results19]) (of_decide_eq_true (by kernel_rfl)) ?_
  simp (maxSteps:=999999) only [ey, implies_true, reduceMul, reducePow, reduceSub, Nat.reduceBEq, reduceToNat, reduceEqDiff, reduceLT, reduceCtorEq, reduceAdd, reduceLeDiff, hF.at, hF.hp, hl28, hl29, bneq_self, eqOk, eqA4, beq_self_eq_true, Option.map_some, Bool.not_true, eqS_self]
  generalize hH1 : HP H [Blk.row 31 6 [[.int .i64 0, .nilslice, .int .i64 0, .nilslice, .bool false, .str []]] 0 0, Blk.row 31 6 [[.int .i64 0, .nilslice, .int .i64 0, .nilslice, .bool false, .str []]] 0 0] = H1
  have hb : H1.blk H.next = some (.row 31 6 [[.int .i64 0, .nilslice, .int .i64 0, .nilslice, .bool false, .str []]] 0 0) := by rw [← hH1, hp_blk0]; rfl
  have hF1 : Free H1 := hH1 ▸ hF.hpF _
  have hU1 : Up H H1 := hH1 ▸ hF.hpU _
  refine loopStep' (fun env H' => H' = H1 ∧ env.at (.tmp 5) = .int .i64 0 ∧ env.at (.tmp 2) = .ptr H.next 0 0 0) (fun _ _ => 0) ?_ ?_
  · exact ⟨rfl, by simp only [ey, implies_true, reduceMul, reducePow, reduceSub, Nat.reduceBEq, reduceToNat, reduceEqDiff, reduceLT, reduceCtorEq, reduceAdd, reduceLeDiff], by simp only [ey, implies_true, reduceMul, reducePow, reduceSub, Nat.reduceBEq, reduceToNat, reduceEqDiff, reduceLT, reduceCtorEq, reduceAdd, reduceLeDiff]⟩
  rintro env H' ⟨rfl, e5, e2⟩
  simp (maxSteps:=999999) only [ey, implies_true, reduceMul, reducePow, reduceSub, Nat.reduceBEq, reduceToNat, reduceEqDiff, reduceLT, reduceCtorEq, reduceAdd, reduceLeDiff, e5, e2, hb, hl29, lt00]
  refine loopStep' (fun env H2 => H2 = H' ∧ env.at (.tmp 6) = .int .i64 0 ∧ env.at (.tmp 2) = .ptr H.next 0 0 0) (fun _ _ => 0) ?_ ?_
  · exact ⟨rfl, by simp only [ey, implies_true, reduceMul, reducePow, reduceSub, Nat.reduceBEq, reduceToNat, reduceEqDiff, reduceLT, reduceCtorEq, reduceAdd, reduceLeDiff], by simp only [ey, implies_true, reduceMul, reducePow, reduceSub, Nat.reduceBEq, reduceToNat, reduceEqDiff, reduceLT, reduceCtorEq, reduceAdd, reduceLeDiff, e2]⟩
  rintro env2 H2 ⟨rfl, e6, e2⟩
  simp (maxSteps:=999999) only [ey, implies_true, reduceMul, reducePow, reduceSub, Nat.reduceBEq, reduceToNat, reduceEqDiff, reduceLT, reduceCtorEq, reduceAdd, reduceLeDiff, e6, e2, hb, hl28, lt00]
  exact hK _ hU1 hF1
set_option maxHeartbeats 4000000 in
theorem f19_ok {n fn : Nat} {H : Heap} {w x u y : AV} {La Lc : List (List AV)} (hw : Holds H 5 w [[.int .i64 (fn : Int), .int .i64 0, u, .nilslice, .nilslice]]) (hx : Holds H 5 x [[.int .i64 (fn : Int), .int .i64 0, y, .nilslice, .nilslice]]) (hu : Holds H 5 u La) (hy : Holds H 5 y Lc) (hlen : La.length = Lc.length) (hlb : Lc.length < 2 ^ 60) (hE : ∀ (j : Nat) (a c : List AV), La[j]? = some a → Lc[j]? = some c → EqV n H a c) (hF : Free H) (K : AV → Heap → Prop) (hK : ∀ H', Up H H' → Free H' → K (.bool true) H') : WF Tryz.prog 19 [.agg [.int .i64 1, w, .int .i64 0, .nilslice, .bool false, .str []], .agg [.int .i64 1, x, .int .i64 0, .nilslice, .bool false, .str []]] H K := by
  have hl29 : ∀ G, evBuiltin Tryz.prog G .len #[29] [.nilslice] = some (.int .i64 0, G) := fun G => len_nil und29 G
  have hlw : ∀ G, evBuiltin Tryz.prog G .len #[28] [w] = some (.int .i64 1, G) := fun G => hw.lenAt und28 G
  have hlx : ∀ G, evBuiltin Tryz.prog G .len #[28] [x] = some (.int .i64 1, G) := fun G => hx.lenAt und28 G
  have cw := holds_cell hw
  have cx := holds_cell hx
  have cu := holds_cell hu
  have cy := holds_cell hy
  refine WF_body Tryz.func19 (by kernel_rfl) rfl Tryz.ntmps19 (by rw [Tryz.results19]) (of_decide_eq_true (by kernel_rfl)) ?_
  simp (maxSteps:=999999) only [ey, implies_true, reduceMul, reducePow, reduceSub, Nat.reduceBEq, reduceToNat, reduceEqDiff, reduceLT, reduceCtorEq, reduceAdd, reduceLeDiff, hF.at, hF.hp, hlw, hlx, hl29, bneq_self, eqOk, eqA4, beq_self_eq_true, Option.map_some, Bool.not_true, eqS_self]
  generalize hH1 : HP H [Blk.row 31 6 [[.int .i64 1, w, .int .i64 0, .nilslice, .bool false, .str []]] 0 0, Blk.row 31 6 [[.int .i64 1, x, .int .i64 0, .nilslice, .bool false, .str []]] 0 0] = H1
  have hb : H1.blk H.next = some (.row 31 6 [[.int .i64 1, w, .int .i64 0, .nilslice, .bool false, .str []]] 0 0) := by rw [← hH1, hp_blk0]; rfl
  have hc : H1.blk (H.next + 1) = some (.row 31 6 [[.int .i64 1, x, .int .i64 0, .nilslice, .bool false, .str []]] 0 0) := by rw [← hH1, hp_blk]; rfl
  have hF1 : Free H1 := hH1 ▸ hF.hpF _
  have hU1 : Up H H1 := hH1 ▸ hF.hpU _
  refine loopStep' (fun env H' => H' = H1 ∧ env.at (.tmp 5) = .int .i64 0 ∧ env.at (.tmp 2) = .ptr H.next 0 0 0 ∧ env.at (.tmp 3) = .ptr (H.next + 1) 0 0 0) (fun _ _ => 0) ?_ ?_
  · exact ⟨rfl, by simp only [ey, implies_true, reduceMul, reducePow, reduceSub, Nat.reduceBEq, reduceToNat, reduceEqDiff, reduceLT, reduceCtorEq, reduceAdd, reduceLeDiff], by simp only [ey, implies_true, reduceMul, reducePow, reduceSub, Nat.reduceBEq, reduceToNat, reduceEqDiff, reduceLT, reduceCtorEq, reduceAdd, reduceLeDiff], by simp only [ey, implies_true, reduceMul, reducePow, reduceSub, Nat.reduceBEq, reduceToNat, reduceEqDiff, reduceLT, reduceCtorEq, reduceAdd, reduceLeDiff]⟩
  rintro env H' ⟨rfl, e5, e2, e3⟩
  simp (maxSteps:=999999) only [ey, implies_true, reduceMul, reducePow, reduceSub, Nat.reduceBEq, reduceToNat, reduceEqDiff, reduceLT, reduceCtorEq, reduceAdd, reduceLeDiff, e5, e2, e3, hb, hl29, lt00]
  refine loopStep' (fun env H2 => Up H' H2 ∧ Free H2 ∧ ∃ i : Nat, i ≤ 1 ∧ env.at (.tmp 6) = .int .i64 i ∧ env.at (.tmp 2) = .ptr H.next 0 0 0 ∧ env.at (.tmp 3) = .ptr (H.next + 1) 0 0 0) (fun env H2 => match env.at (.tmp 6) with | .int _ i => ((1 : Int) - i).toNat | _ => 0) ?_ ?_
  · exact ⟨Up.refl _, hF1, 0, by omega, by simp only [ey, implies_true, reduceMul, reducePow, reduceSub, Nat.reduceBEq, reduceToNat, reduceEqDiff, reduceLT, reduceCtorEq, reduceAdd, reduceLeDiff]; rfl, by simp only [ey, implies_true, reduceMul, reducePow, reduceSub, Nat.reduceBEq, reduceToNat, reduceEqDiff, reduceLT, reduceCtorEq, reduceAdd, reduceLeDiff, e2], by simp only [ey, implies_true, reduceMul, reducePow, reduceSub, Nat.reduceBEq, reduceToNat, reduceEqDiff, reduceLT, reduceCtorEq, reduceAdd, reduceLeDiff, e3]⟩
  rintro env2 H2 ⟨hU2, hF2, i, hi, e6, e2, e3⟩
  have hb2 := hU2 _ _ hb
  have hc2 := hU2 _ _ hc
  have hU02 := hU1.trans hU2
  by_cases hlt : i < 1
  · obtain rfl : i = 0 := by omega
    obtain ⟨p1, hp1, hl1, _⟩ := (hw.up hU02).index (P := Tryz.prog) und28 sz55 .i64 (i := 0) (cs := [.int .i64 (fn : Int), .int .i64 0, u, .nilslice, .nilslice]) rfl
    obtain ⟨p2, hp2, hl2, _⟩ := (hx.up hU02).index (P := Tryz.prog) und28 sz55 .i64 (i := 0) (cs := [.int .i64 (fn : Int), .int .i64 0, y, .nilslice, .nilslice]) rfl
    simp (maxSteps:=999999) only [ey, implies_true, reduceMul, reducePow, reduceSub, Nat.reduceBEq, reduceToNat, reduceEqDiff, reduceLT, reduceCtorEq, reduceAdd, reduceLeDiff, e6, e2, e3, hb2, hlw, show (((0 : Nat) : Int) < 1) = True from by simp]
    refine drawStepK (fun b => H2.blk b ≠ none) [6, 8, 9, 12] [0, 1, 2, 3, 4, 5, 6, 7, 8, 9, 10, 11, 12, 13] _ rfl (by kernel_rfl) ?_
    simp (maxSteps:=999999) only [ey, implies_true, reduceMul, reducePow, reduceSub, Nat.reduceBEq, reduceToNat, reduceEqDiff, reduceLT, reduceCtorEq, reduceAdd, reduceLeDiff, hereStep_K, e6, e2, e3, hb2, hp1, hl1 H2 (Up.refl _)]
    refine opStepK_read x (fun G m hG => ?_) ?_
    · have hg := hG _ _ (show H2.blk (H.next + 1) ≠ none by rw [hc2]; simp) hc2
      simp (maxSteps:=999999) only [ey, implies_true, reduceMul, reducePow, reduceSub, Nat.reduceBEq, reduceToNat, reduceEqDiff, reduceLT, reduceCtorEq, reduceAdd, reduceLeDiff, e3, hg]
    simp (maxSteps:=999999) only [ey, implies_true, reduceMul, reducePow, reduceSub, Nat.reduceBEq, reduceToNat, reduceEqDiff, reduceLT, reduceCtorEq, reduceAdd, reduceLeDiff, hereStep_K, e6, e2, e3]
    refine opStepK_read p2 (fun G m hG => ?_) ?_
    · have hg := evIndexAddr_up hp2 (G := ⟨G, m⟩) (fun b z hz => hG b z (by show H2.blk b ≠ none; rw [hz]; simp) hz)
      simp (maxSteps:=999999) only [ey, implies_true, reduceMul, reducePow, reduceSub, Nat.reduceBEq, reduceToNat, reduceEqDiff, reduceLT, reduceCtorEq, reduceAdd, reduceLeDiff, e6, e3, hg]
    simp (maxSteps:=999999) only [ey, implies_true, reduceMul, reducePow, reduceSub, Nat.reduceBEq, reduceToNat, reduceEqDiff, reduceLT, reduceCtorEq, reduceAdd, reduceLeDiff, hereStep_K, e6, e2, e3]
    refine opStepK_read (.agg [.int .i64 (fn : Int), .int .i64 0, y, .nilslice, .nilslice]) (fun G m hG => ?_) ?_
    · have hg := hl2 ⟨G, m⟩ (fun b z hz => hG b z (by show H2.blk b ≠ none; rw [hz]; simp) hz)
      simp (maxSteps:=999999) only [ey, implies_true, reduceMul, reducePow, reduceSub, Nat.reduceBEq, reduceToNat, reduceEqDiff, reduceLT, reduceCtorEq, reduceAdd, reduceLeDiff, e3, hg]
    simp (maxSteps:=999999) only [ey, implies_true, reduceMul, reducePow, reduceSub, Nat.reduceBEq, reduceToNat, reduceEqDiff, reduceLT, reduceCtorEq, reduceAdd, reduceLeDiff, hereStep_K, e6, e2, e3, hF2.at, hF2.hp]
    refine opStepK_put .undef (HP H2 [Blk.row 55 5 [[.int .i64 (fn : Int), .int .i64 0, u, .nilslice, .nilslice]] 0 0, Blk.row 55 5 [[.int .i64 0, .int .i64 0, .nilslice, .nilslice, .nilslice]] 0 0]) ?_ rfl (by simp [opKind]) rfl ?_ ?_
    · simp (maxSteps:=999999) only [ey, implies_true, reduceMul, reducePow, reduceSub, Nat.reduceBEq, reduceToNat, reduceEqDiff, reduceLT, reduceCtorEq, reduceAdd, reduceLeDiff, hereStep_K, e6, e2, e3, cu]
    · intro b z hz hbz
      cases hq : H2.blk b with
      | none => exact absurd hq hz
      | some q =>
        have h1 := hF2.hpU [Blk.row 55 5 [[.int .i64 0, .int .i64 0, .nilslice, .nilslice, .nilslice]] 0 0, Blk.row 55 5 [[.int .i64 0, .int .i64 0, .nilslice, .nilslice, .nilslice]] 0 0] _ _ hq
        have h2 := hF2.hpU [Blk.row 55 5 [[.int .i64 (fn : Int), .int .i64 0, u, .nilslice, .nilslice]] 0 0, Blk.row 55 5 [[.int .i64 0, .int .i64 0, .nilslice, .nilslice, .nilslice]] 0 0] _ _ hq
        rw [h1] at hbz
        rw [h2]; exact hbz
    simp (maxSteps:=999999) only [ey, implies_true, reduceMul, reducePow, reduceSub, Nat.reduceBEq, reduceToNat, reduceEqDiff, reduceLT, reduceCtorEq, reduceAdd, reduceLeDiff, hereStep_K, e6, e2, e3, cu, cy, bneq_self]
    generalize hH3 : HP H2 [Blk.row 55 5 [[.int .i64 (fn : Int), .int .i64 0, u, .nilslice, .nilslice]] 0 0, Blk.row 55 5 [[.int .i64 (fn : Int), .int .i64 0, y, .nilslice, .nilslice]] 0 0] = H3
    have hf : H3.blk H2.next = some (.row 55 5 [[.int .i64 (fn : Int), .int .i64 0, u, .nilslice, .nilslice]] 0 0) := by rw [← hH3, hp_blk0]; rfl
    have hg : H3.blk (H2.next + 1) = some (.row 55 5 [[.int .i64 (fn : Int), .int .i64 0, y, .nilslice, .nilslice]] 0 0) := by rw [← hH3, hp_blk]; rfl
    have hF3 : Free H3 := hH3 ▸ hF2.hpF _
    have hU3 : Up H2 H3 := hH3 ▸ hF2.hpU _
    have hU03 := hU02.trans hU3
    refine callStep (f20_ok (hu.up hU03) (hy.up hU03) hlen hlb (fun j a c ha hc => (hE j a c ha hc).up hU03) hF3 _ fun H4 hU4 hF4 => ?_)
    simp (maxSteps:=999999) only [ey, implies_true, reduceMul, reducePow, reduceSub, Nat.reduceBEq, reduceToNat, reduceEqDiff, reduceLT, reduceCtorEq, reduceAdd, reduceLeDiff, Bool.not_true, hU4 _ _ hf, hU4 _ _ hg]
    refine callStep (f20_ok (n := 1) (La := []) (Lc := []) Holds.nil Holds.nil rfl (by simp) (fun j a c ha hc => by simp at ha) hF4 _ fun H5 hU5 hF5 => ?_)
    simp (maxSteps:=999999) only [ey, implies_true, reduceMul, reducePow, reduceSub, Nat.reduceBEq, reduceToNat, reduceEqDiff, reduceLT, reduceCtorEq, reduceAdd, reduceLeDiff, Bool.not_true, hU5 _ _ (hU4 _ _ hf), hU5 _ _ (hU4 _ _ hg)]
    refine callStep (f57_nil H5 hF5 _ fun H6 hU6 hF6 => ?_)
    simp (maxSteps:=999999) only [ey, implies_true, reduceMul, reducePow, reduceSub, Nat.reduceBEq, reduceToNat, reduceEqDiff, reduceLT, reduceCtorEq, reduceAdd, reduceLeDiff, Bool.not_true, e6, e2, e3, wrap_succ (i := 0) (by omega)]
    refine ⟨⟨hU2.trans (hU3.trans (hU4.trans (hU5.trans hU6))), hF6, 1, Nat.le_refl _, rfl⟩, by omega⟩
  · obtain rfl : i = 1 := by omega
    simp (maxSteps:=999999) only [ey, implies_true, reduceMul, reducePow, reduceSub, Nat.reduceBEq, reduceToNat, reduceEqDiff, reduceLT, reduceCtorEq, reduceAdd, reduceLeDiff, e6, e2, e3, hb2, hlw, show (((1 : Nat) : Int) < 1) = False from by simp]
    exact hK _ (hU1.trans hU2) hF2
end Go.Proofs.T
