import Derived.Test.YtjlmgabhhodhfaaGreatDoorY9aY10
import Derived.Test.YtjlmgabhhodhfaaGreatDoorFTy3XD
import Derived.Test.YtjlmgabhhodhfaaGreatDoorGT
set_option linter.unusedVariables false
set_option linter.unusedSimpArgs false
set_option maxRecDepth 100000
namespace Go.Proofs.T
open Go.Ev
open Nat (reduceMul reducePow reduceSub reduceEqDiff reduceLT reduceAdd reduceLeDiff)
open UInt8 (reduceToNat)
theorem f44_ok : ∀ (n : Nat) (cs : List AV), VT n cs → ∀ (z : Int) (H : Heap) (hF : Free H) (K : AV → Heap → Prop) (hK : ∀ (x : Int) H', Up H H' → Free H' → K (.int .i64 x) H'), WF Tryz.prog 44 [.agg cs, .int .i64 z] H K := by
  intro n
  induction n with
  | zero => intro cs h; exact h.elim
  | succ n ih =>
    intro cs h z H hF K hK
    obtain ⟨k, ix, s, v, w, L, M, rfl, hv, hvn, hvc, hw, hwn, hwc⟩ := h
    have hlen : ∀ G, evBuiltin Tryz.prog G .len #[24] [v] = some (.int .i64 L.length, G) := fun G => (hv G).lenAt und24 G
    refine WF_body Tryz.func44 (by kernel_rfl) rfl Tryz.ntmps44 (by rw [Tryz.results44]) (of_decide_eq_true (by kernel_rfl)) ?_
    simp (maxSteps:=999999) only [gx, fx2, fx3, implies_true, reduceMul, reducePow, reduceSub, Nat.reduceBEq, reduceToNat, reduceEqDiff, reduceLT, reduceCtorEq, reduceAdd, reduceLeDiff, hF.at, hF.hp]
    generalize hH1 : HP H [Blk.row 34 5 [[.int .i64 k, .int .i64 ix, .str s, v, w]] 0 0] = H1
    have hb : H1.blk H.next = some (.row 34 5 [[.int .i64 k, .int .i64 ix, .str s, v, w]] 0 0) := by rw [← hH1, hp_blk0]; rfl
    have hF1 : Free H1 := hH1 ▸ hF.hpF _
    have hU1 : Up H H1 := hH1 ▸ hF.hpU _
    refine loopStep' (fun env H' => Up H1 H' ∧ Free H' ∧ ∃ (i : Nat) (x : Int), i ≤ L.length ∧ env.at (.tmp 5) = .int .i64 i ∧ env.at (.tmp 2) = .ptr H.next 0 0 0 ∧ env.at (.tmp 1) = .int .i64 x)
      (fun env H' => match env.at (.tmp 5) with | .int _ i => ((L.length : Int) - i).toNat | _ => 0) ?_ ?_
    · exact ⟨Up.refl _, hF1, 0, IntKind.i64.wrap (z - 1), Nat.zero_le _, by simp only [gx, fx2, fx3, implies_true, reduceMul, reducePow, reduceSub, Nat.reduceBEq, reduceToNat, reduceEqDiff, reduceLT, reduceCtorEq, reduceAdd, reduceLeDiff]; rfl, by simp only [gx, fx2, fx3, implies_true, reduceMul, reducePow, reduceSub, Nat.reduceBEq, reduceToNat, reduceEqDiff, reduceLT, reduceCtorEq, reduceAdd, reduceLeDiff], by simp only [gx, fx2, fx3, implies_true, reduceMul, reducePow, reduceSub, Nat.reduceBEq, reduceToNat, reduceEqDiff, reduceLT, reduceCtorEq, reduceAdd, reduceLeDiff]⟩
    · rintro env H2 ⟨hU2, hF2, i, x, hi, e5, e2, e1⟩
      have hb2 := hU2 _ _ hb
      by_cases hlt : i < L.length
      · by_cases hx : x ≥ 0
        · obtain ⟨c, hc⟩ : ∃ c, L[i]? = some c := ⟨_, List.getElem?_eq_getElem hlt⟩
          have hcm := hvc c (List.mem_of_getElem? hc)
          simp (maxSteps:=999999) only [gx, fx2, fx3, implies_true, reduceMul, reducePow, reduceSub, Nat.reduceBEq, reduceToNat, reduceEqDiff, reduceLT, reduceCtorEq, reduceAdd, reduceLeDiff, e5, e2, e1, hb2, hlen, lt_true hlt, hx, idx24 hv hc, hcm.len, hcm.tk]
          refine callStep (ih c hcm x H2 hF2 _ fun y H3 hU3 hF3 => ?_)
          simp (maxSteps:=999999) only [gx, fx2, fx3, implies_true, reduceMul, reducePow, reduceSub, Nat.reduceBEq, reduceToNat, reduceEqDiff, reduceLT, reduceCtorEq, reduceAdd, reduceLeDiff, e5, e2, wrap_succ (i := i) (by omega)]
          exact ⟨⟨hU2.trans hU3, hF3, i + 1, y, hlt, rfl, rfl⟩, by omega⟩
        · simp (maxSteps:=999999) only [gx, fx2, fx3, implies_true, reduceMul, reducePow, reduceSub, Nat.reduceBEq, reduceToNat, reduceEqDiff, reduceLT, reduceCtorEq, reduceAdd, reduceLeDiff, e5, e2, e1, hb2, hlen, lt_true hlt, hx]
          exact hK _ _ (hU1.trans hU2) hF2
      · simp (maxSteps:=999999) only [gx, fx2, fx3, implies_true, reduceMul, reducePow, reduceSub, Nat.reduceBEq, reduceToNat, reduceEqDiff, reduceLT, reduceCtorEq, reduceAdd, reduceLeDiff, e5, e2, e1, hb2, hlen, lt_false hlt]
        exact hK _ _ (hU1.trans hU2) hF2
theorem f11_ok {n : Nat} {cs : List AV} (h : VT n cs) (z : Int) (H : Heap) (hF : Free H) (K : AV → Heap → Prop) (hK : ∀ (b : Bool) H', Up H H' → Free H' → K (.bool b) H') : WF Tryz.prog 11 [.agg cs, .int .i64 z] H K := by
  refine WF_body Tryz.func11 (by kernel_rfl) rfl Tryz.ntmps11 (by rw [Tryz.results11]) (of_decide_eq_true (by kernel_rfl)) ?_
  simp (maxSteps:=999999) only [gx, fx2, fx3, implies_true, reduceMul, reducePow, reduceSub, Nat.reduceBEq, reduceToNat, reduceEqDiff, reduceLT, reduceCtorEq, reduceAdd, reduceLeDiff, hF.at, hF.hp, h.len, h.tk]
  refine callStep (f44_ok n cs h z _ (hF.hpF _) _ fun x H2 hU2 hF2 => ?_)
  simp (maxSteps:=999999) only [gx, fx2, fx3, implies_true, reduceMul, reducePow, reduceSub, Nat.reduceBEq, reduceToNat, reduceEqDiff, reduceLT, reduceCtorEq, reduceAdd, reduceLeDiff]
  exact hK _ _ ((hF.hpU _).trans hU2) hF2
theorem ins_val {n : Nat} {c : List AV} (h : InsT n c) : VT n ((c.drop 4).take 5) := by
  obtain ⟨op, a, b, t, V, rfl, hV⟩ := h
  show VT n (V.take 5)
  rw [hV.tk]; exact hV
set_option maxHeartbeats 4000000 in
theorem f38_ok {n : Nat} {vF vG vI vH : AV} {LF LG LI LH : List (List AV)} (h : CodT n vF vG vI vH LF LG LI LH) (H : Heap) (hF : Free H) (K : AV → Heap → Prop) (hK : ∀ (b : Bool) H', Up H H' → Free H' → K (.bool b) H') : WF Tryz.prog 38 [.agg [vF, vG, vI, vH]] H K := by
  have hlF : ∀ G, evBuiltin Tryz.prog G .len #[22] [vF] = some (.int .i64 LF.length, G) := fun G => (h.hF G).lenAt und22 G
  have hlG : ∀ G, evBuiltin Tryz.prog G .len #[23] [vG] = some (.int .i64 LG.length, G) := fun G => (h.hG G).lenAt und23 G
  have hlI : ∀ G, evBuiltin Tryz.prog G .len #[24] [vI] = some (.int .i64 LI.length, G) := fun G => (h.hI G).lenAt und24 G
  have hlH : ∀ G, evBuiltin Tryz.prog G .len #[25] [vH] = some (.int .i64 LH.length, G) := fun G => (h.hH G).lenAt und25 G
  have hnF := h.nF
  refine WF_body Tryz.func38 (by kernel_rfl) rfl Tryz.ntmps38 (by rw [Tryz.results38]) (of_decide_eq_true (by kernel_rfl)) ?_
  by_cases a1 : (LF.length : Int) > 250
  · simp (maxSteps:=999999) only [ey, implies_true, reduceMul, reducePow, reduceSub, Nat.reduceBEq, reduceToNat, reduceEqDiff, reduceLT, reduceCtorEq, reduceAdd, reduceLeDiff, hF.at, hF.hp, hlF, hlG, hlI, hlH, a1]
    exact hK _ _ (hF.hpU _) (hF.hpF _)
  by_cases a2 : (LG.length : Int) > 60
  · simp (maxSteps:=999999) only [ey, implies_true, reduceMul, reducePow, reduceSub, Nat.reduceBEq, reduceToNat, reduceEqDiff, reduceLT, reduceCtorEq, reduceAdd, reduceLeDiff, hF.at, hF.hp, hlF, hlG, hlI, hlH, a1, a2]
    exact hK _ _ (hF.hpU _) (hF.hpF _)
  by_cases a3 : (LI.length : Int) > 60
  · simp (maxSteps:=999999) only [ey, implies_true, reduceMul, reducePow, reduceSub, Nat.reduceBEq, reduceToNat, reduceEqDiff, reduceLT, reduceCtorEq, reduceAdd, reduceLeDiff, hF.at, hF.hp, hlF, hlG, hlI, hlH, a1, a2, a3]
    exact hK _ _ (hF.hpU _) (hF.hpF _)
  by_cases a4 : (LH.length : Int) > 110
  · simp (maxSteps:=999999) only [ey, implies_true, reduceMul, reducePow, reduceSub, Nat.reduceBEq, reduceToNat, reduceEqDiff, reduceLT, reduceCtorEq, reduceAdd, reduceLeDiff, hF.at, hF.hp, hlF, hlG, hlI, hlH, a1, a2, a3, a4]
    exact hK _ _ (hF.hpU _) (hF.hpF _)
  simp (maxSteps:=999999) only [ey, implies_true, reduceMul, reducePow, reduceSub, Nat.reduceBEq, reduceToNat, reduceEqDiff, reduceLT, reduceCtorEq, reduceAdd, reduceLeDiff, hF.at, hF.hp, hlF, hlG, hlI, hlH, a1, a2, a3, a4]
  generalize hH1 : HP H [Blk.row 27 4 [[vF, vG, vI, vH]] 0 0] = H1
  have hb : H1.blk H.next = some (.row 27 4 [[vF, vG, vI, vH]] 0 0) := by rw [← hH1, hp_blk0]; rfl
  have hF1 : Free H1 := hH1 ▸ hF.hpF _
  have hU1 : Up H H1 := hH1 ▸ hF.hpU _
  refine loopStep' (fun env H' => Up H1 H' ∧ Free H' ∧ ∃ (i : Nat) (x : Int), i ≤ LF.length ∧ env.at (.tmp 4) = .int .i64 i ∧ env.at (.tmp 1) = .ptr H.next 0 0 0 ∧ env.at (.tmp 3) = .int .i64 x)
    (fun env H' => match env.at (.tmp 4) with | .int _ i => ((LF.length : Int) - i).toNat | _ => 0) ?_ ?_
  · exact ⟨Up.refl _, hF1, 0, _, Nat.zero_le _, by simp only [ey, implies_true, reduceMul, reducePow, reduceSub, Nat.reduceBEq, reduceToNat, reduceEqDiff, reduceLT, reduceCtorEq, reduceAdd, reduceLeDiff]; rfl, by simp only [ey, implies_true, reduceMul, reducePow, reduceSub, Nat.reduceBEq, reduceToNat, reduceEqDiff, reduceLT, reduceCtorEq, reduceAdd, reduceLeDiff], by simp only [ey, implies_true, reduceMul, reducePow, reduceSub, Nat.reduceBEq, reduceToNat, reduceEqDiff, reduceLT, reduceCtorEq, reduceAdd, reduceLeDiff]; rfl⟩
  rintro env H' ⟨hU', hF', i, x, hi, e4, e1, e3⟩
  have hb' := hU' _ _ hb
  by_cases hlt : i < LF.length
  · obtain ⟨c, hc⟩ : ∃ c, LF[i]? = some c := ⟨_, List.getElem?_eq_getElem hlt⟩
    have hix := idx22 h.hF hc
    obtain ⟨nm, P, S, v, L, rfl, hv, hL, hn⟩ := h.fF c (List.mem_of_getElem? hc)
    have hlv : ∀ G, evBuiltin Tryz.prog G .len #[83] [v] = some (.int .i64 L.length, G) := fun G => (hv G).lenAt und83 G
    simp (maxSteps:=999999) only [ey, implies_true, reduceMul, reducePow, reduceSub, Nat.reduceBEq, reduceToNat, reduceEqDiff, reduceLT, reduceCtorEq, reduceAdd, reduceLeDiff, e4, e1, e3, hlF, lt_true hlt, hb']
    refine loopStep' (fun env2 H2 => Up H1 H2 ∧ Free H2 ∧ ∃ (j : Nat) (y : Int), j ≤ L.length ∧ env2.at (.tmp 5) = .int .i64 j ∧ env2.at (.tmp 4) = .int .i64 i ∧ env2.at (.tmp 1) = .ptr H.next 0 0 0 ∧ env2.at (.tmp 3) = .int .i64 y)
      (fun env2 H2 => match env2.at (.tmp 5) with | .int _ j => ((L.length : Int) - j).toNat | _ => 0) ?_ ?_
    · exact ⟨hU', hF', 0, x, Nat.zero_le _, by simp only [ey, implies_true, reduceMul, reducePow, reduceSub, Nat.reduceBEq, reduceToNat, reduceEqDiff, reduceLT, reduceCtorEq, reduceAdd, reduceLeDiff]; rfl, by simp only [ey, implies_true, reduceMul, reducePow, reduceSub, Nat.reduceBEq, reduceToNat, reduceEqDiff, reduceLT, reduceCtorEq, reduceAdd, reduceLeDiff, e4], by simp only [ey, implies_true, reduceMul, reducePow, reduceSub, Nat.reduceBEq, reduceToNat, reduceEqDiff, reduceLT, reduceCtorEq, reduceAdd, reduceLeDiff, e1], by simp only [ey, implies_true, reduceMul, reducePow, reduceSub, Nat.reduceBEq, reduceToNat, reduceEqDiff, reduceLT, reduceCtorEq, reduceAdd, reduceLeDiff, e3]⟩
    rintro env2 H2 ⟨hU2, hF2, j, y, hj, d5, d4, d1, d3⟩
    have hb2 := hU2 _ _ hb
    by_cases hlj : j < L.length
    · by_cases hy : IntKind.i64.wrap (y - 1) < 0
      · simp (maxSteps:=999999) only [ey, implies_true, reduceMul, reducePow, reduceSub, Nat.reduceBEq, reduceToNat, reduceEqDiff, reduceLT, reduceCtorEq, reduceAdd, reduceLeDiff, d5, d4, d1, d3, hb2, hix, hlv, lt_true hlj, hy]
        exact hK _ _ (hU1.trans hU2) hF2
      · obtain ⟨c, hcj⟩ : ∃ c, L[j]? = some c := ⟨_, List.getElem?_eq_getElem hlj⟩
        have hixj := idx83 hv hcj
        have hcm := hL c (List.mem_of_getElem? hcj)
        have hcl := hcm.len
        simp (maxSteps:=999999) only [ey, implies_true, reduceMul, reducePow, reduceSub, Nat.reduceBEq, reduceToNat, reduceEqDiff, reduceLT, reduceCtorEq, reduceAdd, reduceLeDiff, d5, d4, d1, d3, hb2, hix, hlv, lt_true hlj, hy, hixj, hcl]
        refine callStep (f11_ok (ins_val hcm) 1100 H2 hF2 _ fun b H3 hU3 hF3 => ?_)
        cases b with
        | false =>
          simp (maxSteps:=999999) only [ey, implies_true, reduceMul, reducePow, reduceSub, Nat.reduceBEq, reduceToNat, reduceEqDiff, reduceLT, reduceCtorEq, reduceAdd, reduceLeDiff, Bool.not_false]
          exact hK _ _ (hU1.trans (hU2.trans hU3)) hF3
        | true =>
          simp (maxSteps:=999999) only [ey, implies_true, reduceMul, reducePow, reduceSub, Nat.reduceBEq, reduceToNat, reduceEqDiff, reduceLT, reduceCtorEq, reduceAdd, reduceLeDiff, d5, d4, d1, Bool.not_true, wrap_succ (i := j) (by omega)]
          exact ⟨⟨hU2.trans hU3, hF3, j + 1, _, hlj, rfl, rfl⟩, by omega⟩
    · simp (maxSteps:=999999) only [ey, implies_true, reduceMul, reducePow, reduceSub, Nat.reduceBEq, reduceToNat, reduceEqDiff, reduceLT, reduceCtorEq, reduceAdd, reduceLeDiff, d5, d4, d1, d3, hb2, hix, hlv, lt_false hlj, wrap_succ (i := i) (by omega)]
      exact ⟨⟨hU2, hF2, i + 1, y, hlt, rfl, rfl⟩, by omega⟩
  · simp (maxSteps:=999999) only [ey, implies_true, reduceMul, reducePow, reduceSub, Nat.reduceBEq, reduceToNat, reduceEqDiff, reduceLT, reduceCtorEq, reduceAdd, reduceLeDiff, e4, e1, e3, hlF, lt_false hlt, hb']
    exact hK _ _ (hU1.trans hU') hF'
structure TB (F N : Heap) (b esz : Nat) (H : Heap) (u : AV) (L : List (List AV)) (x : Blk) : Prop where
  up : Up F H
  free : Free H
  stk : Stk N H esz u L
  dom : ∀ c, N.blk c ≠ none → H.blk c ≠ none
  row : H.blk b = some x
  name : N.blk b ≠ none
  sub : ∀ c x, F.blk c = some x → N.blk c ≠ none
  out : F.blk b = none
theorem TB.grow {F N : Heap} {b esz : Nat} {H K : Heap} {u : AV} {L : List (List AV)} {x : Blk} (h : TB F N b esz H u L x) (hU : Up H K) (hK : Free K) : TB F N b esz K u L x where
  up := h.up.trans hU
  free := hK
  stk := h.stk.up hU
  dom := fun c hc => by
    cases hx : H.blk c with
    | none => exact absurd hx (h.dom c hc)
    | some x => rw [hU _ _ hx]; simp
  row := hU _ _ h.row
  name := h.name
  sub := h.sub
  out := h.out
theorem TB.store {F N : Heap} {b esz : Nat} {H : Heap} {u : AV} {L : List (List AV)} {x : Blk} (h : TB F N b esz H u L x) (y : Blk) : TB F N b esz (H.set b y) u L y where
  up := h.up.set h.out _
  free := h.free.set (h.free.lt h.row) _
  stk := h.stk.keep fun c x hc hx => by
    rw [Heap.set_other _ _ _ (fun e => h.name (by rw [← e]; exact (h.stk.row hc).1))]; exact hx
  dom := fun c hc => Heap.set_ne (h.dom c hc)
  row := Heap.set_same _ _ _
  name := h.name
  sub := h.sub
  out := h.out
theorem TB.push {F N : Heap} {b esz : Nat} {H K : Heap} {u v : AV} {L M : List (List AV)} {x : Blk} (h : TB F N b esz H u L x) (hs : Stk (hbut H (rowOf u)) K esz v M) (hU : Up (hbut H (rowOf u)) K) (hK : Free K) : TB F N b esz K v M x := by
  have hne : ∀ c, N.blk c ≠ none → rowOf u ≠ some c := fun c hc he => hc (h.stk.row he).1
  have hkeep : ∀ c x, N.blk c ≠ none → H.blk c = some x → K.blk c = some x := fun c x hc hx => hU _ _ (by rw [but_blk (hne c hc)]; exact hx)
  refine ⟨fun c x hx => hkeep c x (h.sub c x hx) (h.up _ _ hx), hK, hs.dom fun c hc => ?_, fun c hc => ?_, hkeep _ _ h.name h.row, h.name, h.sub, h.out⟩
  · by_cases he : rowOf u = some c
    · exact (h.stk.row he).1
    · rw [but_blk he] at hc
      cases hx : N.blk c with
      | none => rfl
      | some x => exact absurd hc (h.dom c (by rw [hx]; simp))
  · cases hx : H.blk c with
    | none => exact absurd hx (h.dom c hc)
    | some x => rw [hkeep c x hc hx]; simp
theorem TB.start {G H : Heap} {esz : Nat} {u : AV} {L : List (List AV)} (hF : Free H) (hO : Stk G H esz u L) (x : Blk) : TB (hbut H (rowOf u)) (hbut (HP H [x]) (rowOf u)) H.next esz (HP H [x]) u L x := by
  have hne : rowOf u ≠ some H.next := fun e => (hO.row e).2 hF.at
  refine ⟨but_up.trans (hF.hpU _), hF.hpF _, (hO.up (hF.hpU _)).but, fun c hc => ?_, by rw [hp_blk0]; rfl, by rw [but_blk hne, hp_blk0]; simp, fun c y hy => ?_, by rw [but_blk hne]; exact hF.at⟩
  · cases hx : (hbut (HP H [x]) (rowOf u)).blk c with
    | none => exact absurd hx hc
    | some y => rw [but_up _ _ hx]; simp
  · have hr : rowOf u ≠ some c := fun e => by simp only [hbut] at hy; rw [if_pos e] at hy; cases hy
    rw [but_blk hr] at hy ⊢
    rw [hF.hpU _ _ _ hy]; simp

theorem app24s : appB Tryz.prog 24 24 34 5 80 = true := by kernel_rfl
theorem app28 : appB Tryz.prog 28 28 55 5 88 = true := by kernel_rfl
theorem f133_ok (H : Heap) (hF : Free H) (K : AV → Heap → Prop) (hK : ∀ H', Up H H' → Free H' → K (.agg zv) H') : WF Tryz.prog 133 [] H K := by
  refine WF_body Tryz.func133 (by kernel_rfl) rfl Tryz.ntmps133 (by rw [Tryz.results133]) (of_decide_eq_true (by kernel_rfl)) ?_
  simp (maxSteps:=999999) only [ey, implies_true, reduceMul, reducePow, reduceSub, Nat.reduceBEq, reduceToNat, reduceEqDiff, reduceLT, reduceCtorEq, reduceAdd, reduceLeDiff, hF.at, hF.hp, evResult_cell]
  exact hK _ (hF.hpU _) (hF.hpF _)
theorem f48_ok {n : Nat} {v : AV} {L : List (List AV)} {H : Heap} (hF : Free H) (hv : ∀ H, Holds H 5 v L) (hL : ∀ c ∈ L, VT n c) (hS : ∀ c ∈ L, VS n c) (hn0 : L.length * 80 ≤ 140737488355328) (K : AV → Heap → Prop)
    (hK : ∀ u L' H' P, Up H H' → Free H' → Own H H' 34 5 u L' → L'.length = L.length → Up P (hbut (hn H' H) (rowOf u)) → (∀ (j : Nat) (a c : List AV), L'[j]? = some a → L[j]? = some c → EqV n P a c) → K u H') : WF Tryz.prog 48 [v] H K := by
  refine WF_body Tryz.func48 (by kernel_rfl) rfl Tryz.ntmps48 (by rw [Tryz.results48]) (of_decide_eq_true (by kernel_rfl)) ?_
  simp (maxSteps:=999999) only [ey, implies_true, reduceMul, reducePow, reduceSub, Nat.reduceBEq, reduceToNat, reduceEqDiff, reduceLT, reduceCtorEq, reduceAdd, reduceLeDiff]
  refine callStep ?_
  refine WF_body Tryz.func75 (by kernel_rfl) rfl Tryz.ntmps75 (by rw [Tryz.results75]) (of_decide_eq_true (by kernel_rfl)) ?_
  simp (maxSteps:=999999) only [ey, implies_true, reduceMul, reducePow, reduceSub, Nat.reduceBEq, reduceToNat, reduceEqDiff, reduceLT, reduceCtorEq, reduceAdd, reduceLeDiff, hF.at, hF.hp]
  generalize hH1 : HP H [Blk.row 34 5 [[.int .i64 0, .int .i64 0, .str [], .nilslice, .nilslice]] 0 0] = H1
  have hb : H1.blk H.next = some (.row 34 5 [[.int .i64 0, .int .i64 0, .str [], .nilslice, .nilslice]] 0 0) := by rw [← hH1, hp_blk0]; rfl
  have hF1 : Free H1 := hH1 ▸ hF.hpF _
  have hU1 : Up H H1 := hH1 ▸ hF.hpU _
  refine callStep (f136_ok (copy_ok n) hF1 hv hL hS hn0 _ fun u L' H2 hU2 hF2 hO hlen hE => ?_)
  obtain ⟨p1, p2, p3⟩ := own_plain hO
  have hb2 := hU2 _ _ hb
  simp (maxSteps:=999999) only [ey, implies_true, reduceMul, reducePow, reduceSub, Nat.reduceBEq, reduceToNat, reduceEqDiff, reduceLT, reduceCtorEq, reduceAdd, reduceLeDiff, hb2, p1, p2, p3, evResult_cell, show ∀ a b c d e : AV, partOf Tryz.prog 24 [a, b, c, d, e] 3 = some d from fun a b c d e => by simp [partOf, ag24]]
  have hne : rowOf u ≠ some H.next := fun e => by rw [(own_row hO e).1] at hb; cases hb
  refine hK _ L' _ (hbut (hn H2 H1) (rowOf u)) ((hU1.trans hU2).set hF.at _) (hF2.set (hF2.lt hb2) _) ((own_set hO (by rw [hb]; simp) _).base hU1) hlen (fun c x hx => ?_) hE
  have hr : rowOf u ≠ some c := fun e => by simp only [hbut] at hx; rw [if_pos e] at hx; cases hx
  rw [but_blk hr] at hx ⊢
  obtain ⟨h1, h2⟩ := hn_some.1 hx
  refine hn_some.2 ⟨hU1.fresh h1, ?_⟩
  rw [Heap.set_other _ _ _ (fun e => by rw [e, hb] at h1; cases h1)]; exact h2
def slots (LA : List (List AV)) (S : Int) : List (List AV) := LA ++ List.replicate (S.toNat - LA.length) zv
theorem slots_len {LA : List (List AV)} {S : Int} (h : LA.length ≤ S.toNat) : (slots LA S).length = S.toNat := by
  unfold slots; rw [List.length_append, List.length_replicate]; omega
theorem slots_arg {LA : List (List AV)} {S : Int} {j : Nat} (h : j < LA.length) : (slots LA S)[j]? = LA[j]? := by
  unfold slots; rw [List.getElem?_append_left h]
theorem slots_zero {LA : List (List AV)} {S : Int} {j : Nat} (h : LA.length ≤ j) (h2 : j < S.toNat) : (slots LA S)[j]? = some zv := by
  unfold slots; rw [List.getElem?_append_right h, List.getElem?_replicate, if_pos (by omega)]
theorem eqv_zero (n : Nat) (H : Heap) : EqV (n + 1) H zv zv :=
  ⟨0, 0, [], .nilslice, .nilslice, .nilslice, .nilslice, [], [], [], rfl, rfl, Holds.nil, fun _ => Holds.nil, rfl, by simp, fun j a c h => by simp at h, Holds.nil, fun _ => Holds.nil, by simp, fun c h => by cases h⟩
theorem zv_cells : zv.all AV.isCell = true := rfl
theorem zv_len : zv.length = 5 := rfl
theorem spl15w (a0 a1 a2 a3 a4 a5 a6 a7 a8 a9 b0 b1 b2 b3 b4 w : AV) : splice [a0, a1, a2, a3, a4, a5, a6, a7, a8, a9, b0, b1, b2, b3, b4] 6 [w] = [a0, a1, a2, a3, a4, a5, w, a7, a8, a9, b0, b1, b2, b3, b4] := rfl
theorem spl5s (a0 a1 a2 a3 a4 w : AV) : splice [a0, a1, a2, a3, a4] 2 [w] = [a0, a1, w, a3, a4] := rfl
set_option maxHeartbeats 4000000 in
theorem f61_ok {n : Nat} {vF vG vI vH vA v : AV} {nm : List Nat} {P S : Int} {LF LA : List (List AV)} {fn : Nat} (hFv : ∀ H, Holds H 4 vF LF) (hc : LF[fn]? = some [.str nm, .int .i64 P, .int .i64 S, v]) (hA : ∀ H, Holds H 5 vA LA) (fA : ∀ c ∈ LA, VT (n + 1) c) (sA : ∀ c ∈ LA, VS (n + 1) c) (nA : LA.length * 80 ≤ 140737488355328) (hAS : LA.length ≤ S.toNat) (hS0 : 0 ≤ S) (hS : S ≤ 100) (hfn : fn < 2 ^ 60)
    (b : Nat) (H : Heap) (hF : Free H) (hb : H.blk b = some (.row 100 15 [[vF, vG, vI, vH, .nilslice, .int .i64 1, .nilslice, .int .i64 0, .nilslice, .bool false, .str [], .int .i64 0, .str [], .int .i64 0, .nilslice]] 0 0)) (K : AV → Heap → Prop)
    (hK : ∀ w u LS H', Up (hbut H (some b)) H' → Free H' → AV.isCell w = true → H'.blk b = some (.row 100 15 [[vF, vG, vI, vH, .nilslice, .int .i64 1, w, .int .i64 0, .nilslice, .bool false, .str [], .int .i64 0, .str [], .int .i64 0, .nilslice]] 0 0) → Holds H' 5 w [[.int .i64 (fn : Int), .int .i64 0, u, .nilslice, .nilslice]] → Holds H' 5 u LS → LS.length = S.toNat → (∀ (j : Nat) (a c : List AV), LS[j]? = some a → (slots LA S)[j]? = some c → EqV (n + 1) H' a c) → K (.tuple []) H') :
    WF Tryz.prog 61 [.ptr b 0 0 0, .int .i64 (fn : Int), vA] H K := by
  have hix := idx22 hFv hc
  have hl28 : ∀ G, evBuiltin Tryz.prog G .len #[28] [.nilslice] = some (.int .i64 0, G) := fun G => len_nil und28 G
  refine WF_body Tryz.func61 (by kernel_rfl) rfl Tryz.ntmps61 (by rw [Tryz.results61]) (of_decide_eq_true (by kernel_rfl)) ?_
  simp (maxSteps:=999999) only [ey, implies_true, reduceMul, reducePow, reduceSub, Nat.reduceBEq, reduceToNat, reduceEqDiff, reduceLT, reduceCtorEq, reduceAdd, reduceLeDiff, hb, hl28, show ((0 : Int) ≥ 50) = False from by simp]
  refine callStep (f48_ok hF hA fA sA nA _ fun u L0 H1 Q hU1 hF1 hO hlen hQ hE => ?_)
  obtain ⟨p1, p2, p3⟩ := own_plain hO
  simp (maxSteps:=999999) only [ey, implies_true, reduceMul, reducePow, reduceSub, Nat.reduceBEq, reduceToNat, reduceEqDiff, reduceLT, reduceCtorEq, reduceAdd, reduceLeDiff, hF1.at, hF1.hp, p1, p2, p3]
  have T0 := TB.start hF1 hO.stk (.row 55 5 [[.int .i64 (fn : Int), .int .i64 0, u, .nilslice, .nilslice]] 0 0)
  have hQF : Up Q (hbut H1 (rowOf u)) := hQ.trans fun c x hx => by
    have hr : rowOf u ≠ some c := fun e => by simp only [hbut] at hx; rw [if_pos e] at hx; cases hx
    rw [but_blk hr] at hx ⊢
    exact (hn_some.1 hx).2
  have hHF : Up H (hbut H1 (rowOf u)) := fun c x hx => by
    rw [but_blk (fun e => by rw [(own_row hO e).1] at hx; cases hx)]; exact hU1 _ _ hx
  have hbF := hHF _ _ hb
  have hQb : Q.blk b = none := by
    cases hx : Q.blk b with
    | none => rfl
    | some x =>
      have := hQ _ _ hx
      have hr : rowOf u ≠ some b := fun e => by rw [(own_row hO e).1] at hb; cases hb
      rw [but_blk hr] at this
      rw [(hn_some.1 this).1] at hb; cases hb
  refine loopStep' (fun env H' => ∃ (i : Nat) (u' : AV) (L' : List (List AV)), LA.length ≤ i ∧ i ≤ S.toNat ∧ L'.length = i ∧ TB (hbut H1 (rowOf u)) (hbut (HP H1 [.row 55 5 [[.int .i64 (fn : Int), .int .i64 0, u, .nilslice, .nilslice]] 0 0]) (rowOf u)) H1.next 5 H' u' L' (.row 55 5 [[.int .i64 (fn : Int), .int .i64 0, u', .nilslice, .nilslice]] 0 0) ∧ (∀ (j : Nat) (a c : List AV), L'[j]? = some a → (slots LA S)[j]? = some c → EqV (n + 1) Q a c) ∧ env.at (.tmp 0) = .ptr b 0 0 0 ∧ env.at (.tmp 1) = .int .i64 (fn : Int) ∧ env.at (.tmp 6) = .ptr H1.next 0 0 0)
    (fun env H' => S.toNat - (match H'.blk H1.next with | some (.row _ _ [[_, _, u', _, _]] _ _) => (u'.len?).getD 0 | _ => 0)) ?_ ?_
  · refine ⟨LA.length, u, L0, Nat.le_refl _, hAS, hlen, T0, fun j a c ha hcj => ?_, by simp only [ey, implies_true, reduceMul, reducePow, reduceSub, Nat.reduceBEq, reduceToNat, reduceEqDiff, reduceLT, reduceCtorEq, reduceAdd, reduceLeDiff], by simp only [ey, implies_true, reduceMul, reducePow, reduceSub, Nat.reduceBEq, reduceToNat, reduceEqDiff, reduceLT, reduceCtorEq, reduceAdd, reduceLeDiff], by simp only [ey, implies_true, reduceMul, reducePow, reduceSub, Nat.reduceBEq, reduceToNat, reduceEqDiff, reduceLT, reduceCtorEq, reduceAdd, reduceLeDiff]⟩
    rw [slots_arg (by rw [← hlen]; exact (List.getElem?_eq_some_iff.1 ha).1)] at hcj
    exact hE j a c ha hcj
  · rintro env H2 ⟨i, u', L', hi1, hi2, hl', T, hE', e0, e1, e6⟩
    have hlu : ∀ G, evBuiltin Tryz.prog G .len #[24] [u'] = some (.int .i64 i, G) := fun G => by rw [← hl']; exact T.stk.holds.lenAt und24 G
    have hbT := T.up _ _ hbF
    simp (maxSteps:=999999) only [ey, implies_true, reduceMul, reducePow, reduceSub, Nat.reduceBEq, reduceToNat, reduceEqDiff, reduceLT, reduceCtorEq, reduceAdd, reduceLeDiff, e0, e1, e6]
    refine drawStep [] [0, 1, 2, 3, 4, 5, 6, 7, 8, 9, 10, 11, 12] _ rfl (by kernel_rfl) ?_
    by_cases hlt : i < S.toNat
    · have hd : ((i : Int) < S) = True := eq_true (by omega)
      simp (maxSteps:=999999) only [ey, implies_true, reduceMul, reducePow, reduceSub, Nat.reduceBEq, reduceToNat, reduceEqDiff, reduceLT, reduceCtorEq, reduceAdd, reduceLeDiff, e0, e1, e6, T.row, hbT, hlu, hix, hd]
      refine drawStep [2] [0, 1, 2, 3, 4, 5, 6] _ rfl (by kernel_rfl) ?_
      simp (maxSteps:=999999) only [ey, implies_true, reduceMul, reducePow, reduceSub, Nat.reduceBEq, reduceToNat, reduceEqDiff, reduceLT, reduceCtorEq, reduceAdd, reduceLeDiff, e0, e1, e6, T.row]
      refine callStep_flag (f133_ok H2 T.free _ fun H3 hU3 hF3 => ⟨hU3, ?_⟩)
      have T3 := T.grow hU3 hF3
      unfold zv
      simp (maxSteps:=999999) only [ey, implies_true, reduceMul, reducePow, reduceSub, Nat.reduceBEq, reduceToNat, reduceEqDiff, reduceLT, reduceCtorEq, reduceAdd, reduceLeDiff, hF3.at, hF3.hp]
      have T4 := T3.grow (hF3.hpU [.row 34 5 [zv] 0 0]) (hF3.hpF _)
      refine opStep_push app24s T4.stk.but T4.free but_up (holds_hp (k := 0) (L := [zv]) rfl rfl (Nat.le_refl _) (by simp [zv_len])) (by intro cs hcs; rw [List.mem_singleton] at hcs; rw [hcs]; exact zv_cells) (by simp [hl', maxBytes]; omega) (by simp [hl', maxBytes]; omega) (fun u2 K2 hS2 hU2 hF2 => ?_)
      have T5 := T4.push hS2 hU2 hF2
      obtain ⟨q1, q2, q3⟩ := T5.stk.plain
      have T6 := T5.store (.row 55 5 [[.int .i64 (fn : Int), .int .i64 0, u2, .nilslice, .nilslice]] 0 0)
      simp (maxSteps:=999999) only [ey, implies_true, reduceMul, reducePow, reduceSub, Nat.reduceBEq, reduceToNat, reduceEqDiff, reduceLT, reduceCtorEq, reduceAdd, reduceLeDiff, e0, e1, e6, T5.row, q1, q2, q3, spl5s]
      have hl2 : (L' ++ [zv]).length = i + 1 := by rw [List.length_append, hl']; rfl
      refine ⟨⟨i + 1, u2, L' ++ [zv], by omega, hlt, hl2, T6, fun j a c ha hcj => ?_⟩, ?_⟩
      · by_cases hj : j < L'.length
        · rw [List.getElem?_append_left hj] at ha
          exact hE' j a c ha hcj
        · have hj2 := (List.getElem?_eq_some_iff.1 ha).1
          rw [hl2] at hj2
          rw [List.getElem?_append_right (by omega), show j - L'.length = 0 by omega] at ha
          rw [slots_zero (by omega) (by omega)] at hcj
          cases ha; cases hcj
          exact eqv_zero n Q
      · simp only [T6.stk.holds.len?, T.stk.holds.len?, Option.getD_some, hl2, hl']
        exact Nat.sub_lt_sub_left hlt (Nat.lt_succ_self i)
    · obtain rfl : i = S.toNat := by omega
      have hd : (((S.toNat : Nat) : Int) < S) = False := eq_false (by omega)
      simp (maxSteps:=999999) only [ey, implies_true, reduceMul, reducePow, reduceSub, Nat.reduceBEq, reduceToNat, reduceEqDiff, reduceLT, reduceCtorEq, reduceAdd, reduceLeDiff, e0, e1, e6, T.row, hbT, hlu, hix, hd]
      refine drawStep [] [0, 1, 2, 3, 4, 5, 6, 7, 8, 9, 10, 11, 12] _ rfl (by kernel_rfl) ?_
      obtain ⟨q1, q2, q3⟩ := T.stk.plain
      simp (maxSteps:=999999) only [ey, implies_true, reduceMul, reducePow, reduceSub, Nat.reduceBEq, reduceToNat, reduceEqDiff, reduceLT, reduceCtorEq, reduceAdd, reduceLeDiff, e0, e1, e6, T.row, hbT, T.free.at, T.free.hp, q1, q2, q3]
      have T4 := T.grow (T.free.hpU [.row 55 5 [[.int .i64 (fn : Int), .int .i64 0, u', .nilslice, .nilslice]] 0 0]) (T.free.hpF _)
      refine opStep_append app28 (G := HP H2 [.row 55 5 [[.int .i64 (fn : Int), .int .i64 0, u', .nilslice, .nilslice]] 0 0]) Own.nil T4.free (Up.refl _) (holds_hp (k := 0) (L := [[.int .i64 (fn : Int), .int .i64 0, u', .nilslice, .nilslice]]) rfl rfl (Nat.le_refl _) (by simp)) (by intro cs hcs; rw [List.mem_singleton] at hcs; rw [hcs]; simp only [List.all_cons, List.all_nil, q3]; rfl) (by simp [maxBytes]) (by simp [maxBytes]) (fun w K2 hOw hU2 hF2 => ?_)
      have T5 := T4.grow hU2 hF2
      obtain ⟨r1, r2, r3⟩ := own_plain hOw
      have hb5 := T5.up _ _ hbF
      simp (maxSteps:=999999) only [ey, implies_true, reduceMul, reducePow, reduceSub, Nat.reduceBEq, reduceToNat, reduceEqDiff, reduceLT, reduceCtorEq, reduceAdd, reduceLeDiff, e0, e1, e6, hb5, r1, r2, r3, spl15w]
      have hnw : rowOf w ≠ some b := fun e => by
        have := (own_row hOw e).1
        rw [T4.up _ _ hbF] at this; cases this
      have hnu : rowOf u' ≠ some b := fun e => by
        have := (T.stk.row e).1
        rw [but_blk (fun e => by rw [(own_row hO e).1] at hb; cases hb), hF1.hpU _ _ _ (hU1 _ _ hb)] at this
        cases this
      refine hK w u' L' _ (fun c x hx => ?_) (hF2.set (hF2.lt hb5) _) r3 (Heap.set_same _ _ _) ?_ ?_ hl' (fun j a c ha hcj => (hE' j a c ha hcj).up fun d x hx => ?_)
      · have hcb : some b ≠ some c := fun e => by simp only [hbut] at hx; rw [if_pos e] at hx; cases hx
        rw [but_blk hcb] at hx
        rw [Heap.set_other _ _ _ (fun e => hcb (by rw [e]))]
        exact T5.up _ _ (hHF _ _ hx)
      · exact (own_keep hOw fun c x hc hx => by rw [Heap.set_other _ _ _ (fun e => hnw (by rw [hc, e]))]; exact hx).holds
      · exact (T5.stk.keep fun c x hc hx => by rw [Heap.set_other _ _ _ (fun e => hnu (by rw [hc, e]))]; exact hx).holds
      · rw [Heap.set_other _ _ _ (fun e => by rw [e, hQb] at hx; cases hx)]
        exact T5.up _ _ (hQF _ _ hx)
end Go.Proofs.T
