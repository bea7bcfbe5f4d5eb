import Derived.Test.YtjlmgabhhodhfaaGreatDoorY12Y13
import Derived.Test.YtjlmgabhhodhfaaGreatDoorY9bY11
set_option linter.unusedVariables false
set_option linter.unusedSimpArgs false
set_option maxRecDepth 100000
namespace Go.Proofs.T
open Go.Ev
open Nat (reduceMul reducePow reduceSub reduceEqDiff reduceLT reduceAdd reduceLeDiff)
open UInt8 (reduceToNat)
theorem TB.mk2 {G H : Heap} {b esz : Nat} {u : AV} {L : List (List AV)} {x : Blk} (hF : Free H) (hO : Stk G H esz u L) (hb : H.blk b = some x) (hg : G.blk b ≠ none) : TB (hbut (hbut H (rowOf u)) (some b)) (hbut H (rowOf u)) b esz H u L x where
  up := but_up.trans but_up
  free := hF
  stk := hO.but
  dom := fun c hc => by
    cases hx : (hbut H (rowOf u)).blk c with
    | none => exact absurd hx hc
    | some x => rw [but_up _ _ hx]; simp
  row := hb
  name := by rw [but_blk (fun he => hg (hO.row he).1), hb]; simp
  sub := fun c x hx => by rw [but_up _ _ hx]; simp
  out := by simp [hbut]
set_option maxHeartbeats 4000000 in
theorem f78_ok {n : Nat} {vF vG vI vH vA v : AV} {nm : List Nat} {P S : Int} {LF LA : List (List AV)} {fn : Nat} (hFv : ∀ H, Holds H 4 vF LF) (hc : LF[fn]? = some [.str nm, .int .i64 P, .int .i64 S, v]) (hA : ∀ H, Holds H 5 vA LA) (fA : ∀ c ∈ LA, VT (n + 1) c) (nA : LA.length * 80 ≤ 140737488355328) (hAS : LA.length ≤ S.toNat) (hS0 : 0 ≤ S) (hS : S ≤ 100) (hfn : fn < 2 ^ 60)
    (b : Nat) (H : Heap) (hF : Free H) (hb : H.blk b = some (.row 110 15 [[vF, vG, vI, vH, .nilslice, .int .i64 1, .nilslice, .int .i64 0, .nilslice, .bool false, .str [], .int .i64 0, .str [], .int .i64 0, .nilslice]] 0 0)) (K : AV → Heap → Prop)
    (hK : ∀ w u H', Up (hbut H (some b)) H' → Free H' → AV.isCell w = true → H'.blk b = some (.row 110 15 [[vF, vG, vI, vH, .nilslice, .int .i64 1, w, .int .i64 0, .nilslice, .bool false, .str [], .int .i64 0, .str [], .int .i64 0, .nilslice]] 0 0) → Holds H' 5 w [[.int .i64 (fn : Int), .int .i64 0, u, .nilslice, .nilslice]] → Holds H' 5 u (slots LA S) → K (.tuple []) H') :
    WF Tryz.prog 78 [.ptr b 0 0 0, .int .i64 (fn : Int), vA] H K := by
  have hix := idx22 hFv hc
  have hl28 : ∀ G, evBuiltin Tryz.prog G .len #[28] [.nilslice] = some (.int .i64 0, G) := fun G => len_nil und28 G
  have hne : b ≠ H.next := fun e => by rw [e, hF.at] at hb; cases hb
  refine WF_body Tryz.func78 (by kernel_rfl) rfl Tryz.ntmps78 (by rw [Tryz.results78]) (of_decide_eq_true (by kernel_rfl)) ?_
  simp (maxSteps:=999999) only [ey, implies_true, reduceMul, reducePow, reduceSub, Nat.reduceBEq, reduceToNat, reduceEqDiff, reduceLT, reduceCtorEq, reduceAdd, reduceLeDiff, hb, hl28, show ((0 : Int) ≥ 50) = False from by simp, hF.at, hF.hp]
  generalize hG1 : HP H [Blk.row 55 5 [[.int .i64 (fn : Int), .int .i64 0, .nilslice, .nilslice, .nilslice]] 0 0] = G1
  have hFG : Free G1 := hG1 ▸ hF.hpF _
  have hUG : Up H G1 := hG1 ▸ hF.hpU _
  have hg0 : G1.blk H.next = some (.row 55 5 [[.int .i64 (fn : Int), .int .i64 0, .nilslice, .nilslice, .nilslice]] 0 0) := by rw [← hG1, hp_blk0]; rfl
  refine opStep_append app24s (G := G1) Own.nil hFG (Up.refl _) (hA _) (fun cs hcs => (fA cs hcs).cells) (by simp only [List.length_nil, maxBytes]; omega) (by simp only [List.length_nil, maxBytes]; omega) (fun u K1 hO hU1 hF1 => ?_)
  rw [List.nil_append] at hO
  have hk0 := hU1 _ _ hg0
  obtain ⟨p1, p2, p3⟩ := own_plain hO
  have T0 := (TB.mk2 hF1 hO.stk hk0 (by rw [hg0]; simp)).store (.row 55 5 [[.int .i64 (fn : Int), .int .i64 0, u, .nilslice, .nilslice]] 0 0)
  simp (maxSteps:=999999) only [ey, implies_true, reduceMul, reducePow, reduceSub, Nat.reduceBEq, reduceToNat, reduceEqDiff, reduceLT, reduceCtorEq, reduceAdd, reduceLeDiff, hk0, p1, p2, p3, spl5s]
  have hnu0 : ∀ c x, G1.blk c = some x → rowOf u ≠ some c := fun c x hx e => by rw [(own_row hO e).1] at hx; cases hx
  have hHF : Up H (hbut (hbut K1 (rowOf u)) (some H.next)) := fun c x hx => by
    rw [but_blk (fun e => by cases e; rw [hF.at] at hx; cases hx), but_blk (hnu0 c x (hUG _ _ hx))]
    exact hU1 _ _ (hUG _ _ hx)
  have hbF := hHF _ _ hb
  have hsl : (slots LA S).length = S.toNat := slots_len hAS
  have htk : (slots LA S).take LA.length = LA := by unfold slots; rw [List.take_left]
  refine loopStep' (fun env H' => ∃ (i : Nat) (u' : AV), LA.length ≤ i ∧ i ≤ S.toNat ∧ TB (hbut (hbut K1 (rowOf u)) (some H.next)) (hbut K1 (rowOf u)) H.next 5 H' u' ((slots LA S).take i) (.row 55 5 [[.int .i64 (fn : Int), .int .i64 0, u', .nilslice, .nilslice]] 0 0) ∧ env.at (.tmp 0) = .ptr b 0 0 0 ∧ env.at (.tmp 1) = .int .i64 (fn : Int) ∧ env.at (.tmp 6) = .ptr H.next 0 0 0)
    (fun env H' => S.toNat - (match H'.blk H.next with | some (.row _ _ [[_, _, u', _, _]] _ _) => (u'.len?).getD 0 | _ => 0)) ?_ ?_
  · exact ⟨LA.length, u, Nat.le_refl _, hAS, by rw [htk]; exact T0, by simp only [ey, implies_true, reduceMul, reducePow, reduceSub, Nat.reduceBEq, reduceToNat, reduceEqDiff, reduceLT, reduceCtorEq, reduceAdd, reduceLeDiff], by simp only [ey, implies_true, reduceMul, reducePow, reduceSub, Nat.reduceBEq, reduceToNat, reduceEqDiff, reduceLT, reduceCtorEq, reduceAdd, reduceLeDiff], by simp only [ey, implies_true, reduceMul, reducePow, reduceSub, Nat.reduceBEq, reduceToNat, reduceEqDiff, reduceLT, reduceCtorEq, reduceAdd, reduceLeDiff]⟩
  · rintro env H2 ⟨i, u', hi1, hi2, T, e0, e1, e6⟩
    have hti : ((slots LA S).take i).length = i := by rw [List.length_take, hsl]; omega
    have hlu : ∀ G, evBuiltin Tryz.prog G .len #[24] [u'] = some (.int .i64 i, G) := fun G => by have := T.stk.holds.lenAt (P := Tryz.prog) und24 G; rw [hti] at this; exact this
    have hbT := T.up _ _ hbF
    simp (maxSteps:=999999) only [ey, implies_true, reduceMul, reducePow, reduceSub, Nat.reduceBEq, reduceToNat, reduceEqDiff, reduceLT, reduceCtorEq, reduceAdd, reduceLeDiff, e0, e1, e6]
    refine drawStep [] [0, 1, 2, 3, 4, 5, 6, 7, 8, 9, 10, 11, 12] _ rfl (by kernel_rfl) ?_
    by_cases hlt : i < S.toNat
    · have hd : ((i : Int) < S) = True := eq_true (by omega)
      simp (maxSteps:=999999) only [ey, implies_true, reduceMul, reducePow, reduceSub, Nat.reduceBEq, reduceToNat, reduceEqDiff, reduceLT, reduceCtorEq, reduceAdd, reduceLeDiff, e0, e1, e6, T.row, hbT, hlu, hix, hd, T.free.at, T.free.hp]
      have T4 := T.grow (T.free.hpU [.row 34 5 [zv] 0 0]) (T.free.hpF _)
      refine opStep_push app24s T4.stk.but T4.free but_up (holds_hp (k := 0) (L := [zv]) rfl rfl (Nat.le_refl _) (by simp [zv_len])) (by intro cs hcs; rw [List.mem_singleton] at hcs; rw [hcs]; exact zv_cells) (by simp only [hti, List.length_singleton, maxBytes]; omega) (by simp only [hti, List.length_singleton, maxBytes]; omega) (fun u2 K2 hS2 hU2 hF2 => ?_)
      have T5 := T4.push hS2 hU2 hF2
      have hsn : (slots LA S).take i ++ [zv] = (slots LA S).take (i + 1) := by rw [List.take_add_one, slots_zero hi1 hlt]; rfl
      rw [hsn] at T5
      obtain ⟨q1, q2, q3⟩ := T5.stk.plain
      have T6 := T5.store (.row 55 5 [[.int .i64 (fn : Int), .int .i64 0, u2, .nilslice, .nilslice]] 0 0)
      simp (maxSteps:=999999) only [ey, implies_true, reduceMul, reducePow, reduceSub, Nat.reduceBEq, reduceToNat, reduceEqDiff, reduceLT, reduceCtorEq, reduceAdd, reduceLeDiff, e0, e1, e6, T5.row, q1, q2, q3, spl5s]
      have hl2 : ((slots LA S).take (i + 1)).length = i + 1 := by rw [List.length_take, hsl]; omega
      refine ⟨⟨i + 1, u2, by omega, hlt, T6⟩, ?_⟩
      simp only [T6.stk.holds.len?, T.stk.holds.len?, Option.getD_some, hl2, hti]
      exact Nat.sub_lt_sub_left hlt (Nat.lt_succ_self i)
    · obtain rfl : i = S.toNat := by omega
      have hd : (((S.toNat : Nat) : Int) < S) = False := eq_false (by omega)
      simp (maxSteps:=999999) only [ey, implies_true, reduceMul, reducePow, reduceSub, Nat.reduceBEq, reduceToNat, reduceEqDiff, reduceLT, reduceCtorEq, reduceAdd, reduceLeDiff, e0, e1, e6, T.row, hbT, hlu, hix, hd]
      refine drawStep [] [0, 1, 2, 3, 4, 5, 6, 7, 8, 9, 10, 11, 12] _ rfl (by kernel_rfl) ?_
      obtain ⟨q1, q2, q3⟩ := T.stk.plain
      simp (maxSteps:=999999) only [ey, implies_true, reduceMul, reducePow, reduceSub, Nat.reduceBEq, reduceToNat, reduceEqDiff, reduceLT, reduceCtorEq, reduceAdd, reduceLeDiff, e0, e1, e6, T.row, hbT, T.free.at, T.free.hp, q1, q2, q3]
      have T4 := T.grow (T.free.hpU [.row 55 5 [[.int .i64 (fn : Int), .int .i64 0, u', .nilslice, .nilslice]] 0 0]) (T.free.hpF _)
      refine opStep_append app28 (G := HP H2 [.row 55 5 [[.int .i64 (fn : Int), .int .i64 0, u', .nilslice, .nilslice]] 0 0]) Own.nil T4.free (Up.refl _) (holds_hp (k := 0) (L := [[.int .i64 (fn : Int), .int .i64 0, u', .nilslice, .nilslice]]) rfl rfl (Nat.le_refl _) (by simp)) (by intro cs hcs; rw [List.mem_singleton] at hcs; rw [hcs]; simp only [List.all_cons, List.all_nil, q3]; rfl) (by simp [maxBytes]) (by simp [maxBytes]) (fun w K2 hOw hU2 hF2 => ?_)
      have T5 := T4.grow hU2 hF2
      obtain ⟨r1, r2, r3⟩ := own_plain hOw
      have hb5 := T5.up _ _ hbF
      simp (maxSteps:=999999) only [ey, implies_true, reduceMul, reducePow, reduceSub, Nat.reduceBEq, reduceToNat, reduceEqDiff, reduceLT, reduceCtorEq, reduceAdd, reduceLeDiff, e0, e1, e6, hb5, r1, r2, r3, spl15w]
      have hnw : rowOf w ≠ some b := fun e => by
        have := (own_row hOw e).1
        rw [T4.up _ _ hbF] at this; cases this
      have hnu : rowOf u' ≠ some b := fun e => by
        have := (T.stk.row e).1
        rw [but_blk (hnu0 b _ (hUG _ _ hb)), hU1 _ _ (hUG _ _ hb)] at this
        cases this
      have hT5 := T5.stk
      rw [List.take_of_length_le (by omega)] at hT5
      refine hK w u' _ (fun c x hx => ?_) (hF2.set (hF2.lt hb5) _) r3 (Heap.set_same _ _ _) ?_ ?_
      · have hcb : some b ≠ some c := fun e => by simp only [hbut] at hx; rw [if_pos e] at hx; cases hx
        rw [but_blk hcb] at hx
        rw [Heap.set_other _ _ _ (fun e => hcb (by rw [e]))]
        exact T5.up _ _ (hHF _ _ hx)
      · exact (own_keep hOw fun c x hc hx => by rw [Heap.set_other _ _ _ (fun e => hnw (by rw [hc, e]))]; exact hx).holds
      · exact (hT5.keep fun c x hc hx => by rw [Heap.set_other _ _ _ (fun e => hnu (by rw [hc, e]))]; exact hx).holds
theorem hkeep {H : Heap} {esz : Nat} {v : AV} {L : List (List AV)} (h : Holds H esz v L) {b ty esz' gen wgen : Nat} {els : List (List AV)} (hb : H.blk b = some (.row ty esz' els gen wgen)) (hne : esz ≠ esz') (x : Blk) : Holds (H.set b x) esz v L := by
  obtain ⟨h0, h | h | ⟨b', off, cap, ex, g, ty', els', gen', wgen', h1, h2, h3⟩⟩ := h
  · exact ⟨h0, .inl h⟩
  · exact ⟨h0, .inr (.inl h)⟩
  · refine ⟨h0, .inr (.inr ⟨b', off, cap, ex, g, ty', els', gen', wgen', h1, ?_, h3⟩)⟩
    rw [Heap.set_other _ _ _ (fun e => ?_)]
    · exact h2
    · rw [e, hb] at h2
      injection h2 with h2
      injection h2 with _ h2
      exact hne h2.symm
theorem EqV.keepE : ∀ {n : Nat} {H : Heap} {d cs : List AV}, EqV n H d cs → ∀ {b ty gen wgen : Nat} {els : List (List AV)}, H.blk b = some (.row ty 6 els gen wgen) → ∀ (x : Blk), EqV n (H.set b x) d cs
  | 0, _, _, _, h, _, _, _, _, _, _, _ => h.elim
  | n + 1, _, _, _, ⟨k, i, s, va, vc, wa, wc, La, Lc, M, e1, e2, h1, h2, h3, h4, h5, h6, h7, h8, h9⟩, _, _, _, _, _, hb, x => ⟨k, i, s, va, vc, wa, wc, La, Lc, M, e1, e2, hkeep h1 hb (by omega) x, h2, h3, h4, fun j a c ha hc => (h5 j a c ha hc).keepE hb x, hkeep h6 hb (by omega) x, h7, h8, h9⟩
noncomputable def startB (n : Nat) (LF LG LI LH LA : List (List AV)) (fn : Int) : Bool := rightC n LF LG LI LH && decide (fn ≥ 0) && decide (fn < (LF.length : Int)) && ((LA.length : Int) == intC (LF.getD fn.toNat []) 1)
theorem fun_bounds {n : Nat} {LF LG LI LH : List (List AV)} (hr : rightC n LF LG LI LH = true) {nm : List Nat} {P S : Int} {v : AV} {L : List (List AV)} (hv : ∀ H, Holds H 9 v L) {i : Nat} (hc : LF[i]? = some [.str nm, .int .i64 P, .int .i64 S, v]) : funB n LF LG.length P S L = true ∧ 0 ≤ P ∧ P ≤ S ∧ S ≤ 100 := by
  unfold rightC at hr
  simp only [Bool.and_eq_true] at hr
  have h := hr.2
  rw [Bool.not_eq_true'] at h
  have := List.any_eq_false.1 h _ (List.mem_of_getElem? hc)
  simp only [Bool.not_eq_true, Bool.not_eq_false'] at this
  rw [funV_eq hv] at this
  refine ⟨this, ?_⟩
  unfold funB at this
  simp only [Bool.and_eq_true, decide_eq_true_eq] at this
  omega
theorem spl15a (a0 a1 a2 a3 a4 a5 a6 a7 a8 a9 b0 b1 b2 b3 b4 x0 x1 x2 x3 : AV) : splice [a0, a1, a2, a3, a4, a5, a6, a7, a8, a9, b0, b1, b2, b3, b4] 0 [x0, x1, x2, x3] = [x0, x1, x2, x3, a4, a5, a6, a7, a8, a9, b0, b1, b2, b3, b4] := rfl
theorem spl15b (a0 a1 a2 a3 a4 a5 a6 a7 a8 a9 b0 b1 b2 b3 b4 x0 x1 x2 x3 x4 x5 : AV) : splice [a0, a1, a2, a3, a4, a5, a6, a7, a8, a9, b0, b1, b2, b3, b4] 5 [x0, x1, x2, x3, x4, x5] = [a0, a1, a2, a3, a4, x0, x1, x2, x3, x4, x5, b1, b2, b3, b4] := rfl
theorem spl6w (a0 a1 a2 a3 a4 a5 x0 x1 x2 x3 x4 x5 : AV) : splice [a0, a1, a2, a3, a4, a5] 0 [x0, x1, x2, x3, x4, x5] = [x0, x1, x2, x3, x4, x5] := rfl
set_option maxHeartbeats 4000000 in
theorem f23_ok {n : Nat} {vF vG vI vH vA : AV} {LF LG LI LH LA : List (List AV)} (h : CodT (n + 1) vF vG vI vH LF LG LI LH) (hA : ∀ H, Holds H 5 vA LA) (fA : ∀ c ∈ LA, VT (n + 1) c) (sA : ∀ c ∈ LA, VS (n + 1) c) (nA : LA.length * 80 ≤ 140737488355328) (fi : Int) (H : Heap) (hF : Free H) (K : AV → Heap → Prop)
    (hK0 : startB (n + 1) LF LG LI LH LA fi = false → ∀ H', Up H H' → Free H' → K (.tuple [.agg [.int .i64 0, .nilslice, .int .i64 0, .nilslice, .bool false, .str []], .int .i64 2]) H')
    (hK1 : startB (n + 1) LF LG LI LH LA fi = true → ∀ (fn : Nat), fi = fn → ∀ (nm : List Nat) (P S : Int) (v : AV) (L : List (List AV)), LF[fn]? = some [.str nm, .int .i64 P, .int .i64 S, v] → (∀ H, Holds H 9 v L) → (∀ x ∈ L, InsT (n + 1) x) → L.length < 2 ^ 60 → ∀ w u LS H', Up H H' → Free H' → AV.isCell w = true → Holds H' 5 w [[.int .i64 (fn : Int), .int .i64 0, u, .nilslice, .nilslice]] → Holds H' 5 u LS → LS.length = S.toNat → (∀ (j : Nat) (a c : List AV), LS[j]? = some a → (slots LA S)[j]? = some c → EqV (n + 1) H' a c) → K (.tuple [.agg [.int .i64 1, w, .int .i64 0, .nilslice, .bool false, .str []], .int .i64 0]) H') :
    WF Tryz.prog 23 [.agg [vF, vG, vI, vH], .int .i64 fi, vA] H K := by
  have hlF : ∀ G, evBuiltin Tryz.prog G .len #[22] [vF] = some (.int .i64 LF.length, G) := fun G => (h.hF G).lenAt und22 G
  have hlA : ∀ G, evBuiltin Tryz.prog G .len #[24] [vA] = some (.int .i64 LA.length, G) := fun G => (hA G).lenAt und24 G
  have hnF := h.nF
  refine WF_body Tryz.func23 (by kernel_rfl) rfl Tryz.ntmps23 (by rw [Tryz.results23]) (of_decide_eq_true (by kernel_rfl)) ?_
  simp (maxSteps:=999999) only [ey, implies_true, reduceMul, reducePow, reduceSub, Nat.reduceBEq, reduceToNat, reduceEqDiff, reduceLT, reduceCtorEq, reduceAdd, reduceLeDiff, hF.at, hF.hp]
  generalize hH1 : HP H [Blk.row 27 4 [[vF, vG, vI, vH]] 0 0, Blk.row 31 6 [[.int .i64 0, .nilslice, .int .i64 0, .nilslice, .bool false, .str []]] 0 0] = H1
  have hb0 : H1.blk H.next = some (.row 27 4 [[vF, vG, vI, vH]] 0 0) := by rw [← hH1, hp_blk0]; rfl
  have hb1 : H1.blk (H.next + 1) = some (.row 31 6 [[.int .i64 0, .nilslice, .int .i64 0, .nilslice, .bool false, .str []]] 0 0) := by rw [← hH1, hp_blk]; rfl
  have hF1 : Free H1 := hH1 ▸ hF.hpF _
  have hU1 : Up H H1 := hH1 ▸ hF.hpU _
  refine callStep (f60_ok h H1 hF1 _ fun H2 hU2 hF2 => ?_)
  have c0 := hU2 _ _ hb0
  have c1 := hU2 _ _ hb1
  have hUH := hU1.trans hU2
  have hset : ∀ y, Up H (H2.set (H.next + 1) y) ∧ Free (H2.set (H.next + 1) y) := fun y => ⟨hUH.set (hF _ (by omega)) _, hF2.set (hF2.lt c1) _⟩
  unfold startB at hK0 hK1
  cases h1 : rightC (n + 1) LF LG LI LH with
  | false =>
    simp only [h1, Bool.true_or, Bool.false_or, Bool.true_and, Bool.and_true, Bool.false_and, Bool.and_false, decide_true, decide_false, Bool.or_true, Bool.or_false, true_implies, forall_const] at hK0
    simp (maxSteps:=999999) only [ey, implies_true, reduceMul, reducePow, reduceSub, Nat.reduceBEq, reduceToNat, reduceEqDiff, reduceLT, reduceCtorEq, reduceAdd, reduceLeDiff, c1, Bool.not_false, spl6w, evResult_cell]
    exact hK0 _ (hset _).1 (hset _).2
  | true =>
  by_cases h2 : fi < 0
  · have h2' : ¬ fi ≥ 0 := by omega
    simp only [h1, h2', Bool.true_or, Bool.false_or, Bool.true_and, Bool.and_true, Bool.false_and, Bool.and_false, decide_true, decide_false, Bool.or_true, Bool.or_false, true_implies, forall_const] at hK0
    simp (maxSteps:=999999) only [ey, implies_true, reduceMul, reducePow, reduceSub, Nat.reduceBEq, reduceToNat, reduceEqDiff, reduceLT, reduceCtorEq, reduceAdd, reduceLeDiff, c1, Bool.not_true, h2, spl6w, evResult_cell]
    exact hK0 _ (hset _).1 (hset _).2
  have h2' : fi ≥ 0 := by omega
  by_cases h3 : fi ≥ (LF.length : Int)
  · have h3' : ¬ fi < (LF.length : Int) := by omega
    simp only [h1, h2', h3', Bool.true_or, Bool.false_or, Bool.true_and, Bool.and_true, Bool.false_and, Bool.and_false, decide_true, decide_false, Bool.or_true, Bool.or_false, true_implies, forall_const] at hK0
    simp (maxSteps:=999999) only [ey, implies_true, reduceMul, reducePow, reduceSub, Nat.reduceBEq, reduceToNat, reduceEqDiff, reduceLT, reduceCtorEq, reduceAdd, reduceLeDiff, c0, c1, Bool.not_true, h2, hlF, h3, spl6w, evResult_cell]
    exact hK0 _ (hset _).1 (hset _).2
  have h3' : fi < (LF.length : Int) := by omega
  obtain ⟨fn, rfl⟩ := Int.eq_ofNat_of_zero_le (show 0 ≤ fi from h2')
  obtain ⟨c, hc⟩ : ∃ c, LF[fn]? = some c := ⟨_, List.getElem?_eq_getElem (by omega)⟩
  have hgd : LF.getD fn [] = c := by rw [List.getD_eq_getElem?_getD, hc]; rfl
  have hix := idx22 h.hF hc
  obtain ⟨nm, P, S, v, L, rfl, hv, hL, hn⟩ := h.fF c (List.mem_of_getElem? hc)
  have hP : intC (LF.getD ((fn : Int)).toNat []) 1 = P := by rw [Int.toNat_natCast, hgd]; rfl
  rw [hP] at hK0 hK1
  cases h4 : ((LA.length : Int) == P) with
  | false =>
    have h4n : ((LA.length : Int) != P) = true := by rw [bne, h4]; rfl
    simp only [h4, Bool.true_or, Bool.false_or, Bool.true_and, Bool.and_true, Bool.false_and, Bool.and_false, decide_true, decide_false, Bool.or_true, Bool.or_false, true_implies, forall_const] at hK0
    simp (maxSteps:=999999) only [ey, implies_true, reduceMul, reducePow, reduceSub, Nat.reduceBEq, reduceToNat, reduceEqDiff, reduceLT, reduceCtorEq, reduceAdd, reduceLeDiff, c0, c1, Bool.not_true, h2, hlF, h3, hix, hlA, h4n, spl6w, evResult_cell]
    exact hK0 _ (hset _).1 (hset _).2
  | true =>
  have h4n : ((LA.length : Int) != P) = false := by rw [bne, h4]; rfl
  have h4' : (LA.length : Int) = P := by simpa using h4
  obtain ⟨_, hb5, hb6, hb7⟩ := fun_bounds h1 hv hc
  simp only [h1, h2', h3', h4, Bool.true_or, Bool.false_or, Bool.true_and, Bool.and_true, Bool.false_and, Bool.and_false, decide_true, decide_false, Bool.or_true, Bool.or_false, true_implies, forall_const] at hK1
  simp (maxSteps:=999999) only [ey, implies_true, reduceMul, reducePow, reduceSub, Nat.reduceBEq, reduceToNat, reduceEqDiff, reduceLT, reduceCtorEq, reduceAdd, reduceLeDiff, c0, c1, Bool.not_true, h2, hlF, h3, hix, hlA, h4n, spl15a, spl15b, List.length_cons, List.length_nil, hF2.at, hF2.hp]
  have hbs : (HP H2 [Blk.row 100 15 [[vF, vG, vI, vH, .nilslice, .int .i64 1, .nilslice, .int .i64 0, .nilslice, .bool false, .str [], .int .i64 0, .str [], .int .i64 0, .nilslice]] 0 0]).blk H2.next = some (.row 100 15 [[vF, vG, vI, vH, .nilslice, .int .i64 1, .nilslice, .int .i64 0, .nilslice, .bool false, .str [], .int .i64 0, .str [], .int .i64 0, .nilslice]] 0 0) := by rw [hp_blk0]; rfl
  refine callStep (f61_ok (nm := nm) (P := P) (v := v) h.hF hc hA fA sA nA (by omega) (by omega) hb7 (by omega) H2.next _ (hF2.hpF _) hbs _ fun w u LS H4 hU4 hF4 hwc hb4 hw hu hlen hE => ?_)
  have hup2 : Up H2 H4 := fun c x hx => hU4 _ _ (by rw [but_blk (fun e => by cases e; rw [hF2.at] at hx; cases hx)]; exact hF2.hpU _ _ _ hx)
  have d1 := hup2 _ _ c1
  have hwx : w.isUndef = false ∧ w.cells = [w] := by cases w <;> first | exact ⟨rfl, rfl⟩ | (cases hwc)
  obtain ⟨w1, w2⟩ := hwx
  simp (maxSteps:=999999) only [ey, implies_true, reduceMul, reducePow, reduceSub, Nat.reduceBEq, reduceToNat, reduceEqDiff, reduceLT, reduceCtorEq, reduceAdd, reduceLeDiff, hb4, d1, w1, w2, hwc, spl6w, evResult_cell]
  exact hK1 fn rfl nm P S v L hc hv hL hn w u LS _ ((hUH.trans hup2).set (hF _ (by omega)) _) (hF4.set (hF4.lt d1) _) hwc (hkeep hw d1 (by omega) _) (hkeep hu d1 (by omega) _) hlen (fun j a c ha hcj => (hE j a c ha hcj).keepE d1 _)
set_option maxHeartbeats 4000000 in
theorem f39_ok {n : Nat} {vF vG vI vH vA : AV} {LF LG LI LH LA : List (List AV)} (h : CodT (n + 1) vF vG vI vH LF LG LI LH) (hA : ∀ H, Holds H 5 vA LA) (fA : ∀ c ∈ LA, VT (n + 1) c) (sA : ∀ c ∈ LA, VS (n + 1) c) (nA : LA.length * 80 ≤ 140737488355328) (fi : Int) (H : Heap) (hF : Free H) (K : AV → Heap → Prop)
    (hK0 : startB (n + 1) LF LG LI LH LA fi = false → ∀ H', Up H H' → Free H' → K (.tuple [.agg [.int .i64 0, .nilslice, .int .i64 0, .nilslice, .bool false, .str []], .int .i64 2]) H')
    (hK1 : startB (n + 1) LF LG LI LH LA fi = true → ∀ (fn : Nat), fi = fn → ∀ (nm : List Nat) (P S : Int) (v : AV) (L : List (List AV)), LF[fn]? = some [.str nm, .int .i64 P, .int .i64 S, v] → (∀ H, Holds H 9 v L) → (∀ x ∈ L, InsT (n + 1) x) → L.length < 2 ^ 60 → ∀ w u H', Up H H' → Free H' → AV.isCell w = true → Holds H' 5 w [[.int .i64 (fn : Int), .int .i64 0, u, .nilslice, .nilslice]] → Holds H' 5 u (slots LA S) → K (.tuple [.agg [.int .i64 1, w, .int .i64 0, .nilslice, .bool false, .str []], .int .i64 0]) H') :
    WF Tryz.prog 39 [.agg [vF, vG, vI, vH], .int .i64 fi, vA] H K := by
  have hlF : ∀ G, evBuiltin Tryz.prog G .len #[22] [vF] = some (.int .i64 LF.length, G) := fun G => (h.hF G).lenAt und22 G
  have hlA : ∀ G, evBuiltin Tryz.prog G .len #[24] [vA] = some (.int .i64 LA.length, G) := fun G => (hA G).lenAt und24 G
  have hnF := h.nF
  refine WF_body Tryz.func39 (by kernel_rfl) rfl Tryz.ntmps39 (by rw [Tryz.results39]) (of_decide_eq_true (by kernel_rfl)) ?_
  simp (maxSteps:=999999) only [ey, implies_true, reduceMul, reducePow, reduceSub, Nat.reduceBEq, reduceToNat, reduceEqDiff, reduceLT, reduceCtorEq, reduceAdd, reduceLeDiff, hF.at, hF.hp]
  generalize hH1 : HP H [Blk.row 27 4 [[vF, vG, vI, vH]] 0 0, Blk.row 31 6 [[.int .i64 0, .nilslice, .int .i64 0, .nilslice, .bool false, .str []]] 0 0] = H1
  have hb0 : H1.blk H.next = some (.row 27 4 [[vF, vG, vI, vH]] 0 0) := by rw [← hH1, hp_blk0]; rfl
  have hb1 : H1.blk (H.next + 1) = some (.row 31 6 [[.int .i64 0, .nilslice, .int .i64 0, .nilslice, .bool false, .str []]] 0 0) := by rw [← hH1, hp_blk]; rfl
  have hF1 : Free H1 := hH1 ▸ hF.hpF _
  have hU1 : Up H H1 := hH1 ▸ hF.hpU _
  refine callStep (f41_ok h H1 hF1 _ fun H2 hU2 hF2 => ?_)
  have c0 := hU2 _ _ hb0
  have c1 := hU2 _ _ hb1
  have hUH := hU1.trans hU2
  have hset : ∀ y, Up H (H2.set (H.next + 1) y) ∧ Free (H2.set (H.next + 1) y) := fun y => ⟨hUH.set (hF _ (by omega)) _, hF2.set (hF2.lt c1) _⟩
  unfold startB at hK0 hK1
  cases h1 : rightC (n + 1) LF LG LI LH with
  | false =>
    simp only [h1, Bool.true_or, Bool.false_or, Bool.true_and, Bool.and_true, Bool.false_and, Bool.and_false, decide_true, decide_false, Bool.or_true, Bool.or_false, true_implies, forall_const] at hK0
    simp (maxSteps:=999999) only [ey, implies_true, reduceMul, reducePow, reduceSub, Nat.reduceBEq, reduceToNat, reduceEqDiff, reduceLT, reduceCtorEq, reduceAdd, reduceLeDiff, c1, Bool.not_false, spl6w, evResult_cell]
    exact hK0 _ (hset _).1 (hset _).2
  | true =>
  by_cases h2 : fi < 0
  · have h2' : ¬ fi ≥ 0 := by omega
    simp only [h1, h2', Bool.true_or, Bool.false_or, Bool.true_and, Bool.and_true, Bool.false_and, Bool.and_false, decide_true, decide_false, Bool.or_true, Bool.or_false, true_implies, forall_const] at hK0
    simp (maxSteps:=999999) only [ey, implies_true, reduceMul, reducePow, reduceSub, Nat.reduceBEq, reduceToNat, reduceEqDiff, reduceLT, reduceCtorEq, reduceAdd, reduceLeDiff, c1, Bool.not_true, h2, spl6w, evResult_cell]
    exact hK0 _ (hset _).1 (hset _).2
  have h2' : fi ≥ 0 := by omega
  by_cases h3 : fi ≥ (LF.length : Int)
  · have h3' : ¬ fi < (LF.length : Int) := by omega
    simp only [h1, h2', h3', Bool.true_or, Bool.false_or, Bool.true_and, Bool.and_true, Bool.false_and, Bool.and_false, decide_true, decide_false, Bool.or_true, Bool.or_false, true_implies, forall_const] at hK0
    simp (maxSteps:=999999) only [ey, implies_true, reduceMul, reducePow, reduceSub, Nat.reduceBEq, reduceToNat, reduceEqDiff, reduceLT, reduceCtorEq, reduceAdd, reduceLeDiff, c0, c1, Bool.not_true, h2, hlF, h3, spl6w, evResult_cell]
    exact hK0 _ (hset _).1 (hset _).2
  have h3' : fi < (LF.length : Int) := by omega
  obtain ⟨fn, rfl⟩ := Int.eq_ofNat_of_zero_le (show 0 ≤ fi from h2')
  obtain ⟨c, hc⟩ : ∃ c, LF[fn]? = some c := ⟨_, List.getElem?_eq_getElem (by omega)⟩
  have hgd : LF.getD fn [] = c := by rw [List.getD_eq_getElem?_getD, hc]; rfl
  have hix := idx22 h.hF hc
  obtain ⟨nm, P, S, v, L, rfl, hv, hL, hn⟩ := h.fF c (List.mem_of_getElem? hc)
  have hP : intC (LF.getD ((fn : Int)).toNat []) 1 = P := by rw [Int.toNat_natCast, hgd]; rfl
  rw [hP] at hK0 hK1
  cases h4 : ((LA.length : Int) == P) with
  | false =>
    have h4n : ((LA.length : Int) != P) = true := by rw [bne, h4]; rfl
    simp only [h4, Bool.true_or, Bool.false_or, Bool.true_and, Bool.and_true, Bool.false_and, Bool.and_false, decide_true, decide_false, Bool.or_true, Bool.or_false, true_implies, forall_const] at hK0
    simp (maxSteps:=999999) only [ey, implies_true, reduceMul, reducePow, reduceSub, Nat.reduceBEq, reduceToNat, reduceEqDiff, reduceLT, reduceCtorEq, reduceAdd, reduceLeDiff, c0, c1, Bool.not_true, h2, hlF, h3, hix, hlA, h4n, spl6w, evResult_cell]
    exact hK0 _ (hset _).1 (hset _).2
  | true =>
  have h4n : ((LA.length : Int) != P) = false := by rw [bne, h4]; rfl
  have h4' : (LA.length : Int) = P := by simpa using h4
  obtain ⟨_, hb5, hb6, hb7⟩ := fun_bounds h1 hv hc
  simp only [h1, h2', h3', h4, Bool.true_or, Bool.false_or, Bool.true_and, Bool.and_true, Bool.false_and, Bool.and_false, decide_true, decide_false, Bool.or_true, Bool.or_false, true_implies, forall_const] at hK1
  simp (maxSteps:=999999) only [ey, implies_true, reduceMul, reducePow, reduceSub, Nat.reduceBEq, reduceToNat, reduceEqDiff, reduceLT, reduceCtorEq, reduceAdd, reduceLeDiff, c0, c1, Bool.not_true, h2, hlF, h3, hix, hlA, h4n, spl15a, spl15b, List.length_cons, List.length_nil, hF2.at, hF2.hp]
  have hbs : (HP H2 [Blk.row 110 15 [[vF, vG, vI, vH, .nilslice, .int .i64 1, .nilslice, .int .i64 0, .nilslice, .bool false, .str [], .int .i64 0, .str [], .int .i64 0, .nilslice]] 0 0]).blk H2.next = some (.row 110 15 [[vF, vG, vI, vH, .nilslice, .int .i64 1, .nilslice, .int .i64 0, .nilslice, .bool false, .str [], .int .i64 0, .str [], .int .i64 0, .nilslice]] 0 0) := by rw [hp_blk0]; rfl
  refine callStep (f78_ok (n := n) (nm := nm) (P := P) (v := v) h.hF hc hA fA nA (by omega) (by omega) hb7 (by omega) H2.next _ (hF2.hpF _) hbs _ fun w u H4 hU4 hF4 hwc hb4 hw hu => ?_)
  have hup2 : Up H2 H4 := fun c x hx => hU4 _ _ (by rw [but_blk (fun e => by cases e; rw [hF2.at] at hx; cases hx)]; exact hF2.hpU _ _ _ hx)
  have d1 := hup2 _ _ c1
  have hwx : w.isUndef = false ∧ w.cells = [w] := by cases w <;> first | exact ⟨rfl, rfl⟩ | (cases hwc)
  obtain ⟨w1, w2⟩ := hwx
  simp (maxSteps:=999999) only [ey, implies_true, reduceMul, reducePow, reduceSub, Nat.reduceBEq, reduceToNat, reduceEqDiff, reduceLT, reduceCtorEq, reduceAdd, reduceLeDiff, hb4, d1, w1, w2, hwc, spl6w, evResult_cell]
  exact hK1 fn rfl nm P S v L hc hv hL hn w u _ ((hUH.trans hup2).set (hF _ (by omega)) _) (hF4.set (hF4.lt d1) _) hwc (hkeep hw d1 (by omega) _) (hkeep hu d1 (by omega) _)
end Go.Proofs.T
