import Derived.Test.YtjlmgabhhodhfaaGreatDoorY17Y19
import Derived.Test.YtjlmgabhhodhfaaGreatDoorWa2WaF
import Derived.Test.YtjlmgabhhodhfaaGreatDoorY14
set_option linter.unusedVariables false
set_option linter.unusedSimpArgs false
set_option maxRecDepth 100000
namespace Go.Proofs.T
open Go.Ev
open Nat (reduceMul reducePow reduceSub reduceEqDiff reduceLT reduceAdd reduceLeDiff)
open UInt8 (reduceToNat)
theorem spl5a (a0 a1 a2 a3 a4 b0 b1 b2 b3 : AV) : splice [a0, a1, a2, a3, a4] 0 [b0, b1, b2, b3] = [b0, b1, b2, b3, a4] := rfl
theorem spl5b (a0 a1 a2 a3 a4 b0 : AV) : splice [a0, a1, a2, a3, a4] 4 [b0] = [a0, a1, a2, a3, b0] := rfl
theorem fun_fine {n : Nat} {LF LG LI LH : List (List AV)} (hr : rightC n LF LG LI LH = true) {nm : List Nat} {P S : Int} {v : AV} {L : List (List AV)} (hv : ∀ H, Holds H 9 v L) (hL : L.length < 2 ^ 60) {i : Nat} (hc : LF[i]? = some [.str nm, .int .i64 P, .int .i64 S, v]) : FineL L ∧ 1 ≤ L.length ∧ L.length ≤ 10000 ∧ ∀ c ∈ L, JmpOk c := by
  have h := (fun_bounds hr hv hc).1
  unfold funB at h
  simp only [Bool.and_eq_true, decide_eq_true_eq] at h
  obtain ⟨⟨⟨_, h3⟩, h4⟩, h5⟩ := h
  refine ⟨fineB_iff.1 h5, by omega, by omega, jmp_all (n := n) (LF := LF) (nG := LG.length) (S := S) hL fun j hj => List.all_eq_true.1 h4 j (List.mem_range.2 hj)⟩
set_option maxHeartbeats 8000000 in
theorem f40_first {n fn : Nat} {vF vG vI vH v : AV} {LF LG LI LH L : List (List AV)} {nm : List Nat} {P S : Int} (h : CodT n vF vG vI vH LF LG LI LH) (hr : rightC n LF LG LI LH = true) (hc : LF[fn]? = some [.str nm, .int .i64 P, .int .i64 S, v]) (hv : ∀ H, Holds H 9 v L) (hL : ∀ c ∈ L, InsT n c) (hLn : L.length < 2 ^ 60) {w u : AV} {LS : List (List AV)} (hlS : LS.length = S.toNat) (H : Heap) (hF : Free H) (hw : Holds H 5 w [[.int .i64 (fn : Int), .int .i64 0, u, .nilslice, .nilslice]]) (hu : Holds H 5 u LS) (K : AV → Heap → Prop) (hK : ∀ H', Up H H' → Free H' → K (.bool true) H') : WF Tryz.prog 40 [.agg [vF, vG, vI, vH], .agg [.int .i64 1, w, .int .i64 0, .nilslice, .bool false, .str []]] H K := by
  obtain ⟨hFi, hl1, hl2, hj⟩ := fun_fine hr hv hLn hc
  obtain ⟨_, hb1, hb2, hb3⟩ := fun_bounds hr hv hc
  have hl28 : ∀ G, evBuiltin Tryz.prog G .len #[28] [w] = some (.int .i64 1, G) := fun G => hw.lenAt und28 G
  have hl29 : ∀ G, evBuiltin Tryz.prog G .len #[29] [.nilslice] = some (.int .i64 0, G) := fun G => len_nil und29 G
  refine WF_body Tryz.func40 (by kernel_rfl) rfl Tryz.ntmps40 (by rw [Tryz.results40]) (of_decide_eq_true (by kernel_rfl)) ?_
  simp (maxSteps:=999999) only [ey, implies_true, reduceMul, reducePow, reduceSub, Nat.reduceBEq, reduceToNat, reduceEqDiff, reduceLT, reduceCtorEq, reduceAdd, reduceLeDiff, hF.at, hF.hp, show ((1 : Int) == 3) = false from rfl]
  generalize hH1 : HP H [Blk.row 27 4 [[vF, vG, vI, vH]] 0 0, Blk.row 31 6 [[.int .i64 1, w, .int .i64 0, .nilslice, .bool false, .str []]] 0 0] = H1
  have c0 : H1.blk H.next = some (.row 27 4 [[vF, vG, vI, vH]] 0 0) := by rw [← hH1, hp_blk0]; rfl
  have c1 : H1.blk (H.next + 1) = some (.row 31 6 [[.int .i64 1, w, .int .i64 0, .nilslice, .bool false, .str []]] 0 0) := by rw [← hH1, hp_blk]; rfl
  have hF1 : Free H1 := hH1 ▸ hF.hpF _
  have hU1 : Up H H1 := hH1 ▸ hF.hpU _
  refine callStep (f60_ok h H1 hF1 _ fun H2 hU2 hF2 => ?_)
  rw [hr]
  have d0 := hU2 _ _ c0
  have d1 := hU2 _ _ c1
  have hU02 := hU1.trans hU2
  simp (maxSteps:=999999) only [ey, implies_true, reduceMul, reducePow, reduceSub, Nat.reduceBEq, reduceToNat, reduceEqDiff, reduceLT, reduceCtorEq, reduceAdd, reduceLeDiff, d0, d1, Bool.not_true, hl28, hl29, eqOk, eqA4, beq_self_eq_true, Option.map_some, show ((1 : Int) < 1) = False from by simp, show ((1 : Int) > 3) = False from by simp, show ((1 : Int) == 0) = false from rfl, show ((1 : Int) > 50) = False from by simp, show ((1 : Int) == 2) = false from rfl, hF2.at, hF2.hp, spl5a, spl5b, List.length_cons, List.length_nil, show ∀ b, (AV.map b).isUndef = false from fun _ => rfl, show ∀ b, (AV.map b).cells = [AV.map b] from fun _ => rfl, show ∀ b, (AV.map b).isCell = true from fun _ => rfl]
  generalize hH3 : HP H2 [Blk.map [] 0, Blk.row 134 5 [[vF, vG, vI, vH, .map H2.next]] 0 0] = H3
  have e0 : H3.blk H2.next = some (.map [] 0) := by rw [← hH3, hp_blk0]; rfl
  have e1 : H3.blk (H2.next + 1) = some (.row 134 5 [[vF, vG, vI, vH, .map H2.next]] 0 0) := by rw [← hH3, hp_blk]; rfl
  have hF3 : Free H3 := hH3 ▸ hF2.hpF _
  have hU3 : Up H2 H3 := hH3 ▸ hF2.hpU _
  have hU03 := hU02.trans hU3
  simp (maxSteps:=999999) only [ey, implies_true, reduceMul, reducePow, reduceSub, Nat.reduceBEq, reduceToNat, reduceEqDiff, reduceLT, reduceCtorEq, reduceAdd, reduceLeDiff, hU3 _ _ d1, hl28]
  refine loopStep' (fun env H' => Up (hbut H3 (some H2.next)) H' ∧ Free H' ∧ ∃ i : Nat, i ≤ 1 ∧ (i = 0 → H' = H3) ∧ env.at (.tmp 73) = .int .i64 i ∧ env.at (.tmp 72) = .int .i64 1 ∧ env.at (.tmp 6) = .ptr (H2.next + 1) 0 0 0 ∧ env.at (.tmp 3) = .ptr (H.next + 1) 0 0 0) (fun env H' => match env.at (.tmp 73) with | .int _ i => ((1 : Int) - i).toNat | _ => 0) ?_ ?_
  · exact ⟨but_up, hF3, 0, by omega, fun _ => rfl, by simp only [ey, implies_true, reduceMul, reducePow, reduceSub, Nat.reduceBEq, reduceToNat, reduceEqDiff, reduceLT, reduceCtorEq, reduceAdd, reduceLeDiff]; rfl, by simp only [ey, implies_true, reduceMul, reducePow, reduceSub, Nat.reduceBEq, reduceToNat, reduceEqDiff, reduceLT, reduceCtorEq, reduceAdd, reduceLeDiff], by simp only [ey, implies_true, reduceMul, reducePow, reduceSub, Nat.reduceBEq, reduceToNat, reduceEqDiff, reduceLT, reduceCtorEq, reduceAdd, reduceLeDiff], by simp only [ey, implies_true, reduceMul, reducePow, reduceSub, Nat.reduceBEq, reduceToNat, reduceEqDiff, reduceLT, reduceCtorEq, reduceAdd, reduceLeDiff]⟩
  rintro env H' ⟨hU', hF', i, hi, hi0, e73, e72, e6, e3⟩
  have hHd : Up H (hbut H3 (some H2.next)) := fun c x hx => by
    rw [but_blk (fun e => by cases e; have := hU02 _ _ hx; rw [hF2.at] at this; cases this)]
    exact hU03 _ _ hx
  by_cases hlt : i < 1
  · obtain rfl : i = 0 := by omega
    obtain rfl := hi0 rfl
    simp (maxSteps:=999999) only [ey, implies_true, reduceMul, reducePow, reduceSub, Nat.reduceBEq, reduceToNat, reduceEqDiff, reduceLT, reduceCtorEq, reduceAdd, reduceLeDiff, e73, e72, e6, e3, show (((0 : Nat) : Int) < 1) = True from by simp, hU3 _ _ d1]
    refine callStep (f79_first h.hF hc hv hL hj hl1 hl2 hFi (by omega) hlS h.nF (H2.next + 1) H2.next H' hF3 e1 e0 (hw.up hU03) (hu.up hU03) _ fun H4 hU4 hF4 => ?_)
    simp (maxSteps:=999999) only [ey, implies_true, reduceMul, reducePow, reduceSub, Nat.reduceBEq, reduceToNat, reduceEqDiff, reduceLT, reduceCtorEq, reduceAdd, reduceLeDiff, e73, e72, e6, e3, Bool.not_true, wrap_succ (i := 0) (by omega)]
    exact ⟨⟨hU4, hF4, 1, Nat.le_refl _, by omega, rfl⟩, by omega⟩
  · obtain rfl : i = 1 := by omega
    simp (maxSteps:=999999) only [ey, implies_true, reduceMul, reducePow, reduceSub, Nat.reduceBEq, reduceToNat, reduceEqDiff, reduceLT, reduceCtorEq, reduceAdd, reduceLeDiff, e73, e72, e6, e3, show (((1 : Nat) : Int) < 1) = False from by simp]
    exact hK _ (hHd.trans hU') hF'
theorem cell_plain {w : AV} (h : AV.isCell w = true) : w.isUndef = false ∧ w.cells = [w] := by cases w <;> first | exact ⟨rfl, rfl⟩ | (cases h)
theorem sameF {LF : List (List AV)} {fn : Nat} {nm nm' : List Nat} {P S P' S' : Int} {v v' : AV} (h : LF[fn]? = some [.str nm, .int .i64 P, .int .i64 S, v]) (h' : LF[fn]? = some [.str nm', .int .i64 P', .int .i64 S', v']) : S' = S := by
  rw [h] at h'
  simp at h'
  exact h'.2.2.1.symm
set_option maxHeartbeats 8000000 in
theorem starts_ok {n : Nat} {vF vG vI vH vA : AV} {LF LG LI LH LA : List (List AV)} (h : CodT (n + 1) vF vG vI vH LF LG LI LH) (hA : ∀ H, Holds H 5 vA LA) (fA : ∀ c ∈ LA, VT (n + 1) c) (sA : ∀ c ∈ LA, VS (n + 1) c) (nA : LA.length * 80 ≤ 140737488355328) (fi : Int) : WF Tryz.prog 8 [.agg [vF, vG, vI, vH], .int .i64 fi, vA] (H00 M0) fun r _ => r = .bool true := by
  have hF := free_H00
  generalize H00 M0 = H at hF ⊢
  have hlA : ∀ G, evBuiltin Tryz.prog G .len #[24] [vA] = some (.int .i64 LA.length, G) := fun G => (hA G).lenAt und24 G
  have xA := holds_cell (hA H)
  obtain ⟨xA1, xA2⟩ := cell_plain xA
  have hVT : VT (n + 1 + 1) [.int .i64 0, .int .i64 0, .str [], vA, .nilslice] := ⟨0, 0, [], vA, .nilslice, LA, [], rfl, hA, by omega, fA, fun _ => Holds.nil, by simp, fun c hc => by cases hc⟩
  refine WF_body Tryz.func8 (by kernel_rfl) rfl Tryz.ntmps8 (by rw [Tryz.results8]) (of_decide_eq_true (by kernel_rfl)) ?_
  by_cases a1 : (LA.length : Int) > 20
  · simp (maxSteps:=999999) only [ey, implies_true, reduceMul, reducePow, reduceSub, Nat.reduceBEq, reduceToNat, reduceEqDiff, reduceLT, reduceCtorEq, reduceAdd, reduceLeDiff, hF.at, hF.hp, hlA, a1]
    refine callStep (wa_ok (hF.hpF _) _ fun G _ => ?_)
    simp (maxSteps:=999999) only [ey, implies_true, reduceMul, reducePow, reduceSub, Nat.reduceBEq, reduceToNat, reduceEqDiff, reduceLT, reduceCtorEq, reduceAdd, reduceLeDiff]
  simp (maxSteps:=999999) only [ey, implies_true, reduceMul, reducePow, reduceSub, Nat.reduceBEq, reduceToNat, reduceEqDiff, reduceLT, reduceCtorEq, reduceAdd, reduceLeDiff, hF.at, hF.hp, hlA, a1]
  generalize hH1 : HP H [Blk.row 27 4 [[vF, vG, vI, vH]] 0 0] = H1
  have hb : H1.blk H.next = some (.row 27 4 [[vF, vG, vI, vH]] 0 0) := by rw [← hH1, hp_blk0]; rfl
  have hF1 : Free H1 := hH1 ▸ hF.hpF _
  refine callStep (f38_ok h H1 hF1 _ fun b1 H2 hU2 hF2 => ?_)
  have hb2 := hU2 _ _ hb
  cases b1 with
  | false =>
    simp (maxSteps:=999999) only [ey, implies_true, reduceMul, reducePow, reduceSub, Nat.reduceBEq, reduceToNat, reduceEqDiff, reduceLT, reduceCtorEq, reduceAdd, reduceLeDiff, Bool.not_false]
    refine callStep (wa_ok hF2 _ fun G _ => ?_)
    simp (maxSteps:=999999) only [ey, implies_true, reduceMul, reducePow, reduceSub, Nat.reduceBEq, reduceToNat, reduceEqDiff, reduceLT, reduceCtorEq, reduceAdd, reduceLeDiff]
  | true =>
  simp (maxSteps:=999999) only [ey, implies_true, reduceMul, reducePow, reduceSub, Nat.reduceBEq, reduceToNat, reduceEqDiff, reduceLT, reduceCtorEq, reduceAdd, reduceLeDiff, Bool.not_true, xA, xA1, xA2, show ∀ a b c d e w : AV, splice [a, b, c, d, e] 3 [w] = [a, b, c, w, e] from fun _ _ _ _ _ _ => rfl]
  refine callStep (f11_ok hVT 2000 H2 hF2 _ fun b2 H3 hU3 hF3 => ?_)
  have hb3 := hU3 _ _ hb2
  cases b2 with
  | false =>
    simp (maxSteps:=999999) only [ey, implies_true, reduceMul, reducePow, reduceSub, Nat.reduceBEq, reduceToNat, reduceEqDiff, reduceLT, reduceCtorEq, reduceAdd, reduceLeDiff, Bool.not_false]
    refine callStep (wa_ok hF3 _ fun G _ => ?_)
    simp (maxSteps:=999999) only [ey, implies_true, reduceMul, reducePow, reduceSub, Nat.reduceBEq, reduceToNat, reduceEqDiff, reduceLT, reduceCtorEq, reduceAdd, reduceLeDiff]
  | true =>
  simp (maxSteps:=999999) only [ey, implies_true, reduceMul, reducePow, reduceSub, Nat.reduceBEq, reduceToNat, reduceEqDiff, reduceLT, reduceCtorEq, reduceAdd, reduceLeDiff, Bool.not_true, hb3]
  cases hst : startB (n + 1) LF LG LI LH LA fi with
  | false =>
    refine callStep (f23_ok h hA fA sA nA fi H3 hF3 _ (fun _ H4 hU4 hF4 => ?_) (fun ht => by rw [hst] at ht; cases ht))
    have hb4 := hU4 _ _ hb3
    simp (maxSteps:=999999) only [ey, implies_true, reduceMul, reducePow, reduceSub, Nat.reduceBEq, reduceToNat, reduceEqDiff, reduceLT, reduceCtorEq, reduceAdd, reduceLeDiff, hF4.at, hF4.hp, spl6w]
    generalize hH5 : HP H4 [Blk.row 31 6 [[.int .i64 0, .nilslice, .int .i64 0, .nilslice, .bool false, .str []]] 0 0] = H5
    have k5 : H5.blk H4.next = some (.row 31 6 [[.int .i64 0, .nilslice, .int .i64 0, .nilslice, .bool false, .str []]] 0 0) := by rw [← hH5, hp_blk0]; rfl
    have hF5 : Free H5 := hH5 ▸ hF4.hpF _
    have hU5 : Up H4 H5 := hH5 ▸ hF4.hpU _
    simp (maxSteps:=999999) only [ey, implies_true, reduceMul, reducePow, reduceSub, Nat.reduceBEq, reduceToNat, reduceEqDiff, reduceLT, reduceCtorEq, reduceAdd, reduceLeDiff, hU5 _ _ hb4]
    refine callStep (f39_ok h hA fA sA nA fi H5 hF5 _ (fun _ H6 hU6 hF6 => ?_) (fun ht => by rw [hst] at ht; cases ht))
    simp (maxSteps:=999999) only [ey, implies_true, reduceMul, reducePow, reduceSub, Nat.reduceBEq, reduceToNat, reduceEqDiff, reduceLT, reduceCtorEq, reduceAdd, reduceLeDiff, hF6.at, hF6.hp, spl6w]
    generalize hH7 : HP H6 [Blk.row 31 6 [[.int .i64 0, .nilslice, .int .i64 0, .nilslice, .bool false, .str []]] 0 0] = H7
    have k7 : H7.blk H6.next = some (.row 31 6 [[.int .i64 0, .nilslice, .int .i64 0, .nilslice, .bool false, .str []]] 0 0) := by rw [← hH7, hp_blk0]; rfl
    have hF7 : Free H7 := hH7 ▸ hF6.hpF _
    have hU7 : Up H6 H7 := hH7 ▸ hF6.hpU _
    simp (maxSteps:=999999) only [ey, implies_true, reduceMul, reducePow, reduceSub, Nat.reduceBEq, reduceToNat, reduceEqDiff, reduceLT, reduceCtorEq, reduceAdd, reduceLeDiff, k7, hU7 _ _ (hU6 _ _ k5), beq_self_eq_true]
    refine callStep (f19_zero H7 hF7 _ fun H8 hU8 hF8 => ?_)
    simp (maxSteps:=999999) only [ey, implies_true, reduceMul, reducePow, reduceSub, Nat.reduceBEq, reduceToNat, reduceEqDiff, reduceLT, reduceCtorEq, reduceAdd, reduceLeDiff, show ((2 : Int) != 0) = true from rfl]
    refine callStep (wa_ok hF8 _ fun G _ => ?_)
    simp (maxSteps:=999999) only [ey, implies_true, reduceMul, reducePow, reduceSub, Nat.reduceBEq, reduceToNat, reduceEqDiff, reduceLT, reduceCtorEq, reduceAdd, reduceLeDiff]
  | true =>
    have hrc : rightC (n + 1) LF LG LI LH = true := by
      have := hst
      unfold startB at this
      simp only [Bool.and_eq_true] at this
      exact this.1.1.1
    refine callStep (f23_ok h hA fA sA nA fi H3 hF3 _ (fun ht => by rw [hst] at ht; cases ht) (fun _ fn hfn nm P S v L hc hv hL hLn w u LS H4 hU4 hF4 cw hw hu hlS hE => ?_))
    have hb4 := hU4 _ _ hb3
    obtain ⟨w1, w2⟩ := cell_plain cw
    simp (maxSteps:=999999) only [ey, implies_true, reduceMul, reducePow, reduceSub, Nat.reduceBEq, reduceToNat, reduceEqDiff, reduceLT, reduceCtorEq, reduceAdd, reduceLeDiff, hF4.at, hF4.hp, spl6w, cw]
    generalize hH5 : HP H4 [Blk.row 31 6 [[.int .i64 1, w, .int .i64 0, .nilslice, .bool false, .str []]] 0 0] = H5
    have k5 : H5.blk H4.next = some (.row 31 6 [[.int .i64 1, w, .int .i64 0, .nilslice, .bool false, .str []]] 0 0) := by rw [← hH5, hp_blk0]; rfl
    have hF5 : Free H5 := hH5 ▸ hF4.hpF _
    have hU5 : Up H4 H5 := hH5 ▸ hF4.hpU _
    simp (maxSteps:=999999) only [ey, implies_true, reduceMul, reducePow, reduceSub, Nat.reduceBEq, reduceToNat, reduceEqDiff, reduceLT, reduceCtorEq, reduceAdd, reduceLeDiff, hU5 _ _ hb4]
    refine callStep (f39_ok h hA fA sA nA fi H5 hF5 _ (fun ht => by rw [hst] at ht; cases ht) (fun _ fn' hfn' nm' P' S' v' L' hc' _ _ _ x y H6 hU6 hF6 cx hx hy => ?_))
    have hff : fn' = fn := by omega
    subst hff
    have hSS := sameF hc hc'
    subst hSS
    obtain ⟨x1, x2⟩ := cell_plain cx
    simp (maxSteps:=999999) only [ey, implies_true, reduceMul, reducePow, reduceSub, Nat.reduceBEq, reduceToNat, reduceEqDiff, reduceLT, reduceCtorEq, reduceAdd, reduceLeDiff, hF6.at, hF6.hp, spl6w, cx]
    generalize hH7 : HP H6 [Blk.row 31 6 [[.int .i64 1, x, .int .i64 0, .nilslice, .bool false, .str []]] 0 0] = H7
    have k7 : H7.blk H6.next = some (.row 31 6 [[.int .i64 1, x, .int .i64 0, .nilslice, .bool false, .str []]] 0 0) := by rw [← hH7, hp_blk0]; rfl
    have hF7 : Free H7 := hH7 ▸ hF6.hpF _
    have hU7 : Up H6 H7 := hH7 ▸ hF6.hpU _
    have hU47 : Up H4 H7 := hU5.trans (hU6.trans hU7)
    have q5 := hU7 _ _ (hU6 _ _ k5)
    have hbb := hU47 _ _ hb4
    obtain ⟨_, b1', b2', b3'⟩ := fun_bounds hrc hv hc
    have hst2 := hst
    unfold startB at hst2
    simp only [Bool.and_eq_true, decide_eq_true_eq, beq_iff_eq] at hst2
    have hPP : (LA.length : Int) = P := by
      have := hst2.2
      rw [hfn, Int.toNat_natCast, show LF.getD fn' [] = [.str nm, .int .i64 P, .int .i64 S', v] by rw [List.getD_eq_getElem?_getD, hc]; rfl] at this
      exact this
    have hsl : (slots LA S').length = S'.toNat := slots_len (by omega)
    simp (maxSteps:=999999) only [ey, implies_true, reduceMul, reducePow, reduceSub, Nat.reduceBEq, reduceToNat, reduceEqDiff, reduceLT, reduceCtorEq, reduceAdd, reduceLeDiff, k7, q5, beq_self_eq_true]
    refine callStep (f19_ok (n := n + 1) (fn := fn') (hw.up hU47) (hx.up hU7) (hu.up hU47) (hy.up hU7) (by rw [hlS, hsl]) (by rw [hsl]; omega) (fun j a c ha hc => (hE j a c ha hc).up hU47) hF7 _ fun H8 hU8 hF8 => ?_)
    simp (maxSteps:=999999) only [ey, implies_true, reduceMul, reducePow, reduceSub, Nat.reduceBEq, reduceToNat, reduceEqDiff, reduceLT, reduceCtorEq, reduceAdd, reduceLeDiff, show ((0 : Int) != 0) = false from rfl, hU8 _ _ hbb, hU8 _ _ q5]
    refine callStep (f40_first h hrc hc hv hL hLn hlS H8 hF8 (hw.up (hU47.trans hU8)) (hu.up (hU47.trans hU8)) _ fun H9 hU9 hF9 => ?_)
    simp (maxSteps:=999999) only [ey, implies_true, reduceMul, reducePow, reduceSub, Nat.reduceBEq, reduceToNat, reduceEqDiff, reduceLT, reduceCtorEq, reduceAdd, reduceLeDiff]
    refine callStep (wa_ok hF9 _ fun G _ => ?_)
    simp (maxSteps:=999999) only [ey, implies_true, reduceMul, reducePow, reduceSub, Nat.reduceBEq, reduceToNat, reduceEqDiff, reduceLT, reduceCtorEq, reduceAdd, reduceLeDiff]

section
variable {P : Program}

theorem shp_int {n : Nat} {t : TypeId} {k : IntKind} {xs : List AV} (hu : P.underlying t = some (.int k)) (h : Shp P n t xs) : ∃ x, xs = [.int k x] ∧ k.min ≤ x ∧ x ≤ k.max := by
  cases n with
  | zero => exact h.elim
  | succ n => simpa [Shp, hu] using h
theorem shp_str {n : Nat} {t : TypeId} {xs : List AV} (hu : P.underlying t = some .string) (h : Shp P n t xs) : ∃ s, xs = [.str s] := by
  cases n with
  | zero => exact h.elim
  | succ n => simp [Shp, hu] at h; obtain ⟨l, h1, _⟩ := h; exact ⟨l, h1⟩
theorem shp_slice {n : Nat} {t e : TypeId} {c b : Nat} {xs : List AV} (hu : P.underlying t = some (.slice e)) (hc : P.cellsOf e = c) (hb : P.bytesOf e = b) (hc0 : 0 < c) (h : Shp P n t xs) :
    ∃ m v L, xs = [v] ∧ (∀ H, Holds H c v L) ∧ L.length * b ≤ reachBytes ∧ (∀ x ∈ L, Shp P m e x) ∧ n = m + 1 ∧ AV.isCell v = true := by
  cases n with
  | zero => exact h.elim
  | succ n =>
    simp only [Shp, hu, hc, hb] at h
    rcases h with h | ⟨h, _⟩ | ⟨es, h1, h2, h3⟩
    · exact ⟨n, .nilslice, [], h, fun H => Holds.nil, by simp, by simp, rfl, rfl⟩
    · omega
    · exact ⟨n, .lst c es, es, h1, fun H => Holds.lst fun x hx => (h3 x hx).1, h2, fun x hx => (h3 x hx).2, rfl, rfl⟩
theorem shp_struct {n : Nat} {t : TypeId} {fs : Array Field} {c : Nat} {xs : List AV} (hu : P.underlying t = some (.struct fs)) (hc : P.cellsOf t = c) (h : Shp P n t xs) :
    ∃ m, n = m + 1 ∧ xs.length = c ∧ ∀ f ∈ fs.toList, Shp P m f.type ((xs.drop f.offset).take (P.cellsOf f.type)) := by
  cases n with
  | zero => exact h.elim
  | succ n =>
    simp only [Shp, hu, hc] at h
    exact ⟨n, rfl, h.1, h.2⟩

def okT (P : Program) : Nat → TypeId → Bool
  | 0, _ => false
  | n + 1, t =>
    match P.underlying t with
    | some .bool | some (.int _) | some .string => true
    | some (.slice e) => decide (0 < P.cellsOf e)
    | some (.struct fs) => contig P fs.toList 0 (P.cellsOf t) && fs.toList.all fun f => okT P n f.type
    | _ => false

end

theorem cells3 : Tryz.prog.cellsOf 3 = 1 := by kernel_rfl
theorem cells9 : Tryz.prog.cellsOf 9 = 1 := by kernel_rfl
theorem bytes9 : Tryz.prog.bytesOf 9 = 16 := by kernel_rfl
theorem cells23 : Tryz.prog.cellsOf 23 = 1 := by kernel_rfl
theorem cells24 : Tryz.prog.cellsOf 24 = 1 := by kernel_rfl
theorem cells34 : Tryz.prog.cellsOf 34 = 5 := by kernel_rfl
theorem bytes34 : Tryz.prog.bytesOf 34 = 80 := by kernel_rfl
theorem cells104 : Tryz.prog.cellsOf 104 = 9 := by kernel_rfl
theorem bytes104 : Tryz.prog.bytesOf 104 = 120 := by kernel_rfl
theorem cells83 : Tryz.prog.cellsOf 83 = 1 := by kernel_rfl
theorem cells85 : Tryz.prog.cellsOf 85 = 4 := by kernel_rfl
theorem bytes85 : Tryz.prog.bytesOf 85 = 56 := by kernel_rfl
theorem cells22 : Tryz.prog.cellsOf 22 = 1 := by kernel_rfl
theorem cells127 : Tryz.prog.cellsOf 127 = 4 := by kernel_rfl
theorem bytes127 : Tryz.prog.bytesOf 127 = 40 := by kernel_rfl
theorem cells25 : Tryz.prog.cellsOf 25 = 1 := by kernel_rfl
theorem cells27 : Tryz.prog.cellsOf 27 = 4 := by kernel_rfl
theorem und34 : Tryz.prog.underlying 34 = some (.struct #[{ name := "Kind", type := 3, offset := 0, embedded := false, tag := "", pkgPath := "", byteOffset := 0 }, { name := "Int", type := 3, offset := 1, embedded := false, tag := "", pkgPath := "", byteOffset := 8 }, { name := "Text", type := 9, offset := 2, embedded := false, tag := "", pkgPath := "", byteOffset := 16 }, { name := "Items", type := 24, offset := 3, embedded := false, tag := "", pkgPath := "", byteOffset := 32 }, { name := "Keys", type := 23, offset := 4, embedded := false, tag := "", pkgPath := "", byteOffset := 56 }]) := by kernel_rfl
theorem und104 : Tryz.prog.underlying 104 = some (.struct #[{ name := "Op", type := 3, offset := 0, embedded := false, tag := "", pkgPath := "", byteOffset := 0 }, { name := "A", type := 3, offset := 1, embedded := false, tag := "", pkgPath := "", byteOffset := 8 }, { name := "B", type := 3, offset := 2, embedded := false, tag := "", pkgPath := "", byteOffset := 16 }, { name := "Text", type := 9, offset := 3, embedded := false, tag := "", pkgPath := "", byteOffset := 24 }, { name := "Val", type := 34, offset := 4, embedded := false, tag := "", pkgPath := "", byteOffset := 40 }]) := by kernel_rfl
theorem und85 : Tryz.prog.underlying 85 = some (.struct #[{ name := "Name", type := 9, offset := 0, embedded := false, tag := "", pkgPath := "", byteOffset := 0 }, { name := "Params", type := 3, offset := 1, embedded := false, tag := "", pkgPath := "", byteOffset := 16 }, { name := "Slots", type := 3, offset := 2, embedded := false, tag := "", pkgPath := "", byteOffset := 24 }, { name := "Code", type := 83, offset := 3, embedded := false, tag := "", pkgPath := "", byteOffset := 32 }]) := by kernel_rfl
theorem und127 : Tryz.prog.underlying 127 = some (.struct #[{ name := "Kind", type := 3, offset := 0, embedded := false, tag := "", pkgPath := "", byteOffset := 0 }, { name := "Name", type := 9, offset := 1, embedded := false, tag := "", pkgPath := "", byteOffset := 8 }, { name := "Func", type := 3, offset := 2, embedded := false, tag := "", pkgPath := "", byteOffset := 24 }, { name := "Check", type := 3, offset := 3, embedded := false, tag := "", pkgPath := "", byteOffset := 32 }]) := by kernel_rfl
theorem und27 : Tryz.prog.underlying 27 = some (.struct #[{ name := "Funcs", type := 22, offset := 0, embedded := false, tag := "", pkgPath := "", byteOffset := 0 }, { name := "Globals", type := 23, offset := 1, embedded := false, tag := "", pkgPath := "", byteOffset := 24 }, { name := "Inits", type := 24, offset := 2, embedded := false, tag := "", pkgPath := "", byteOffset := 48 }, { name := "Handlers", type := 25, offset := 3, embedded := false, tag := "", pkgPath := "", byteOffset := 72 }]) := by kernel_rfl
theorem lay_all (t : TypeId) (h : t < Tryz.prog.types.size) : layB Tryz.prog t = true ∧ kidB Tryz.prog Tryz.prog.types.size t = true := by
  have : (List.range Tryz.prog.types.size).all (fun t => layB Tryz.prog t && kidB Tryz.prog Tryz.prog.types.size t) = true := by kernel_rfl
  have := List.all_eq_true.1 this t (by simpa using h)
  simpa using this
theorem l4 {α : Type} {l : List α} (h : l.length = 4) : ∃ a b c d, l = [a, b, c, d] := by
  match l, h with
  | [a, b, c, d], _ => exact ⟨a, b, c, d, rfl⟩
theorem l5 {α : Type} {l : List α} (h : l.length = 5) : ∃ a b c d e, l = [a, b, c, d, e] := by
  match l, h with
  | [a, b, c, d, e], _ => exact ⟨a, b, c, d, e, rfl⟩
theorem l9 {α : Type} {l : List α} (h : l.length = 9) : ∃ a b c d e f g i j, l = [a, b, c, d, e, f, g, i, j] := by
  match l, h with
  | [a, b, c, d, e, f, g, i, j], _ => exact ⟨a, b, c, d, e, f, g, i, j, rfl⟩
theorem vt_up : ∀ (n : Nat) {cs : List AV}, VT n cs → VT (n + 1) cs
  | 0, cs, h => h.elim
  | n + 1, cs, ⟨k, i, s, v, w, L, M, e, h1, h2, h3, h4⟩ => ⟨k, i, s, v, w, L, M, e, h1, h2, fun c hc => vt_up n (h3 c hc), h4⟩
theorem vt_le {n m : Nat} {cs : List AV} (h : VT n cs) (hm : n ≤ m) : VT m cs := by
  obtain ⟨d, rfl⟩ : ∃ d, m = n + d := ⟨m - n, by omega⟩
  clear hm
  induction d with
  | zero => exact h
  | succ d ih => exact vt_up _ ih
theorem strs_of {m : Nat} {L : List (List AV)} (h : ∀ x ∈ L, Shp Tryz.prog m 9 x) : StrL L := fun c hc => shp_str und9 (h c hc)
theorem val_of {n : Nat} {cs : List AV} (h : Shp Tryz.prog n 34 cs) : ∃ m, n = m + 1 ∧ ∃ (k i : Int) (s : List Nat) (v w : AV) (L M : List (List AV)), cs = [.int .i64 k, .int .i64 i, .str s, v, w] ∧ (∀ H, Holds H 5 v L) ∧ L.length * 80 ≤ 140737488355328 ∧ (∃ m3, m = m3 + 1 ∧ ∀ c ∈ L, Shp Tryz.prog m3 34 c) ∧ (∀ H, Holds H 1 w M) ∧ M.length * 16 ≤ 140737488355328 ∧ StrL M := by
  obtain ⟨m, rfl, hl, hf⟩ := shp_struct und34 cells34 h
  have f0 := hf _ (List.mem_of_getElem? (i := 0) rfl)
  have f1 := hf _ (List.mem_of_getElem? (i := 1) rfl)
  have f2 := hf _ (List.mem_of_getElem? (i := 2) rfl)
  have f3 := hf _ (List.mem_of_getElem? (i := 3) rfl)
  have f4 := hf _ (List.mem_of_getElem? (i := 4) rfl)
  simp only [cells3, cells9, cells23, cells24] at f0 f1 f2 f3 f4
  obtain ⟨x0, h0, _⟩ := shp_int und3 f0
  obtain ⟨x1, h1, _⟩ := shp_int und3 f1
  obtain ⟨s, h2⟩ := shp_str und9 f2
  obtain ⟨m3, v3, L3, a3, b3, c3, d3, e3, _⟩ := shp_slice und24 cells34 bytes34 (by decide) f3
  obtain ⟨m4, v4, L4, a4, b4, c4, d4, e4, _⟩ := shp_slice und23 cells9 bytes9 (by decide) f4
  obtain ⟨y0, y1, y2, y3, y4, rfl⟩ := l5 hl
  simp at h0 h1 h2 a3 a4
  subst h0 h1 h2 a3 a4
  refine ⟨m, rfl, x0, x1, s, y3, y4, L3, L4, rfl, b3, ?_, ⟨m3, e3, d3⟩, b4, ?_, strs_of d4⟩
  · simp only [reachBytes] at c3; omega
  · simp only [reachBytes] at c4; omega
theorem vt_of : ∀ (n : Nat) (cs : List AV), Shp Tryz.prog n 34 cs → VT n cs := by
  intro n
  induction n using Nat.strongRecOn with
  | _ n ih =>
    intro cs h
    obtain ⟨m, rfl, k, i, s, v, w, L, M, rfl, b3, n3, ⟨m3, rfl, d3⟩, b4, n4, hs⟩ := val_of h
    exact ⟨k, i, s, v, w, L, M, rfl, b3, by omega, fun c hc => vt_up _ (ih m3 (by omega) c (d3 c hc)), b4, by omega, hs⟩
theorem vs_of : ∀ (k n : Nat) (cs : List AV), Shp Tryz.prog n 34 cs → VS k cs
  | 0, _, _, _ => trivial
  | k + 1, n, cs, h => by
    obtain ⟨m, rfl, k', i, s, v, w, L, M, rfl, b3, n3, ⟨m3, rfl, d3⟩, b4, n4, hs⟩ := val_of h
    have e3 : itm (([.int .i64 k', .int .i64 i, .str s, v, w] : List AV).getD 3 .undef) = L := itm_eq b3
    have e4 : itm (([.int .i64 k', .int .i64 i, .str s, v, w] : List AV).getD 4 .undef) = M := itm_eq b4
    unfold VS
    rw [e3, e4]
    exact ⟨n3, n4, fun c hc => vs_of k _ c (d3 c hc)⟩
theorem inst_of {n N : Nat} {cs : List AV} (h : Shp Tryz.prog n 104 cs) (hN : n ≤ N) : InsT N cs := by
  obtain ⟨m, rfl, hl, hf⟩ := shp_struct und104 cells104 h
  have f0 := hf _ (List.mem_of_getElem? (i := 0) rfl)
  have f1 := hf _ (List.mem_of_getElem? (i := 1) rfl)
  have f2 := hf _ (List.mem_of_getElem? (i := 2) rfl)
  have f3 := hf _ (List.mem_of_getElem? (i := 3) rfl)
  have f4 := hf _ (List.mem_of_getElem? (i := 4) rfl)
  simp only [cells3, cells9, cells34] at f0 f1 f2 f3 f4
  obtain ⟨x0, h0, _⟩ := shp_int und3 f0
  obtain ⟨x1, h1, _⟩ := shp_int und3 f1
  obtain ⟨x2, h2, _⟩ := shp_int und3 f2
  obtain ⟨s, h3⟩ := shp_str und9 f3
  have hV := vt_of _ _ f4
  obtain ⟨y0, y1, y2, y3, y4, y5, y6, y7, y8, rfl⟩ := l9 hl
  simp at h0 h1 h2 h3
  subst h0 h1 h2 h3
  exact ⟨x0, x1, x2, s, _, rfl, vt_le hV (by omega)⟩
theorem fun_of {n N : Nat} {c : List AV} (h : Shp Tryz.prog n 85 c) (hN : n ≤ N) : ∃ (nm : List Nat) (P S : Int) (v : AV) (L : List (List AV)), c = [.str nm, .int .i64 P, .int .i64 S, v] ∧ (∀ H, Holds H 9 v L) ∧ (∀ x ∈ L, InsT N x) ∧ L.length < 2 ^ 60 := by
  obtain ⟨m, rfl, hl, hf⟩ := shp_struct und85 cells85 h
  have f0 := hf _ (List.mem_of_getElem? (i := 0) rfl)
  have f1 := hf _ (List.mem_of_getElem? (i := 1) rfl)
  have f2 := hf _ (List.mem_of_getElem? (i := 2) rfl)
  have f3 := hf _ (List.mem_of_getElem? (i := 3) rfl)
  simp only [cells3, cells9, cells83] at f0 f1 f2 f3
  obtain ⟨s, h0⟩ := shp_str und9 f0
  obtain ⟨x1, h1, _⟩ := shp_int und3 f1
  obtain ⟨x2, h2, _⟩ := shp_int und3 f2
  obtain ⟨m3, v3, L3, a3, b3, c3, d3, e3, _⟩ := shp_slice und83 cells104 bytes104 (by decide) f3
  obtain ⟨y0, y1, y2, y3, rfl⟩ := l4 hl
  simp at h0 h1 h2 a3
  subst h0 h1 h2 a3
  refine ⟨s, x1, x2, y3, L3, rfl, b3, fun x hx => inst_of (d3 x hx) (by omega), ?_⟩
  simp only [reachBytes] at c3; omega
theorem han_of {n : Nat} {c : List AV} (h : Shp Tryz.prog n 127 c) : ∃ (k : Int) (nm : List Nat) (f g : Int), c = [.int .i64 k, .str nm, .int .i64 f, .int .i64 g] := by
  obtain ⟨m, rfl, hl, hf⟩ := shp_struct und127 cells127 h
  have f0 := hf _ (List.mem_of_getElem? (i := 0) rfl)
  have f1 := hf _ (List.mem_of_getElem? (i := 1) rfl)
  have f2 := hf _ (List.mem_of_getElem? (i := 2) rfl)
  have f3 := hf _ (List.mem_of_getElem? (i := 3) rfl)
  simp only [cells3, cells9] at f0 f1 f2 f3
  obtain ⟨x0, h0, _⟩ := shp_int und3 f0
  obtain ⟨s, h1⟩ := shp_str und9 f1
  obtain ⟨x2, h2, _⟩ := shp_int und3 f2
  obtain ⟨x3, h3, _⟩ := shp_int und3 f3
  obtain ⟨y0, y1, y2, y3, rfl⟩ := l4 hl
  simp at h0 h1 h2 h3
  subst h0 h1 h2 h3
  exact ⟨x0, s, x2, x3, rfl⟩
theorem cod_of {n N : Nat} {cs : List AV} (h : Shp Tryz.prog n 27 cs) (hN : n ≤ N) : ∃ (vF vG vI vH : AV) (LF LG LI LH : List (List AV)), cs = [vF, vG, vI, vH] ∧ CodT N vF vG vI vH LF LG LI LH := by
  obtain ⟨m, rfl, hl, hf⟩ := shp_struct und27 cells27 h
  have f0 := hf _ (List.mem_of_getElem? (i := 0) rfl)
  have f1 := hf _ (List.mem_of_getElem? (i := 1) rfl)
  have f2 := hf _ (List.mem_of_getElem? (i := 2) rfl)
  have f3 := hf _ (List.mem_of_getElem? (i := 3) rfl)
  simp only [cells22, cells23, cells24, cells25] at f0 f1 f2 f3
  obtain ⟨m0, v0, L0, a0, b0, c0, d0, e0, _⟩ := shp_slice und22 cells85 bytes85 (by decide) f0
  obtain ⟨m1, v1, L1, a1, b1, c1, d1, e1, _⟩ := shp_slice und23 cells9 bytes9 (by decide) f1
  obtain ⟨m2, v2, L2, a2, b2, c2, d2, e2, _⟩ := shp_slice und24 cells34 bytes34 (by decide) f2
  obtain ⟨m3, v3, L3, a3, b3, c3, d3, e3, _⟩ := shp_slice und25 cells127 bytes127 (by decide) f3
  obtain ⟨y0, y1, y2, y3, rfl⟩ := l4 hl
  simp at a0 a1 a2 a3
  subst a0 a1 a2 a3
  simp only [reachBytes] at c0 c1 c2 c3
  exact ⟨_, _, _, _, L0, L1, L2, L3, rfl, ⟨b0, fun c hc => fun_of (d0 c hc) (by omega), by omega, b1, by omega, b2, fun c hc => vt_le (vt_of _ _ (d2 c hc)) (by omega), by omega, b3, fun c hc => han_of (d3 c hc), by omega⟩⟩
end Go.Proofs.T
