import Derived.Test.YtakelljpblahbaaS10
set_option linter.unusedVariables false
set_option linter.unusedSimpArgs false
set_option maxRecDepth 100000
namespace Go.Proofs.T
open Go.Ev

/-- The keys after a use, with the values as they were. -/
theorem ents_use {H : Heap} {Fg : Nat → Prop} {cx cm : Nat} {kv : AV} {sz h m : Int} {M : Ents} {cl : Nat} {L : Stored} (hC : CInv H Fg cx cm kv sz h m M cl L) {key : List Nat} {n : Int} (hl : lk key L = some n) (k : List Nat) (H' : Heap) (Fn : Nat → Prop) :
    match lk k (without key L ++ [(key, n)]) with
      | some n' => ∃ g, vl k M = some (.agg (ptN g n')) ∧ ((lk k L = some n' ∧ vl k M = some (.agg (ptN g n'))) ∨ (Holds H' 5 g [vi 2 n'] ∧ ∀ b, blkOf g = some b → Fn b))
      | none => vl k M = none := by
  rw [lk_push]
  by_cases hk : k = key
  · rw [if_pos hk]
    have h1 := hC.ents key
    rw [hl] at h1
    obtain ⟨g, p1, _, _⟩ := h1
    subst hk
    exact ⟨g, p1, .inl ⟨hl, p1⟩⟩
  · rw [if_neg hk]
    have h1 := hC.ents k
    cases hn : lk k L with
    | none => rw [hn] at h1; exact h1
    | some n' => rw [hn] at h1; obtain ⟨g, p1, _, _⟩ := h1; exact ⟨g, p1, .inl ⟨rfl, p1⟩⟩

theorem ents_same {H : Heap} {Fg : Nat → Prop} {cx cm : Nat} {kv : AV} {sz h m : Int} {M : Ents} {cl : Nat} {L : Stored} (hC : CInv H Fg cx cm kv sz h m M cl L) (k : List Nat) (H' : Heap) (Fn : Nat → Prop) :
    match lk k L with
      | some n' => ∃ g, vl k M = some (.agg (ptN g n')) ∧ ((lk k L = some n' ∧ vl k M = some (.agg (ptN g n'))) ∨ (Holds H' 5 g [vi 2 n'] ∧ ∀ b, blkOf g = some b → Fn b))
      | none => vl k M = none := by
  have h1 := hC.ents k
  cases hn : lk k L with
  | none => rw [hn] at h1; exact h1
  | some n' => rw [hn] at h1; obtain ⟨g, p1, _, _⟩ := h1; exact ⟨g, p1, .inl ⟨rfl, p1⟩⟩

theorem use_len {key : List Nat} {n : Int} {L : Stored} (hl : lk key L = some n) : (without key L ++ [(key, n)]).length ≤ L.length := by
  have hm : key ∈ L.map Prod.fst := by
    apply Classical.byContradiction
    intro h
    rw [lk_none.2 h] at hl; cases hl
  obtain ⟨e, he, hk⟩ := List.mem_map.1 hm
  have : (without key L).length < L.length := List.length_filter_lt_length_iff_exists.2 ⟨e, he, by simp [keep, hk]⟩
  simp; omega

theorem off_fresh {H G : Heap} {B : Nat → Prop} (h : Off B H G) {b : Nat} (hb : H.blk b = none) (x : Blk) : Off B H (G.set b x) := fun c y hc hy => by
  rw [Heap.set_other _ _ _ (fun e : c = b => by rw [e, hb] at hy; cases hy)]; exact h c y hc hy

theorem f17_ok {H : Heap} {F : Nat → Prop} {cx : Nat} {sz h m : Int} {L : Stored} (key : List Nat) (hFr : Free H) (hC : Cache H F cx sz h m L) (hn : L.length ≤ 99) (Q : AV → Heap → Prop)
    (hQ1 : lk key L = none → ∀ u H', CPost H F cx sz h (IntKind.i64.wrap (m + 1)) L H' → Own H H' 60 5 u [] → Q (.tuple [.agg (pt u 0 0 0 false), .bool false]) H')
    (hQ2 : ∀ n, lk key L = some n → ∀ u H', CPostX (fun b => blkOf u = some b) H F cx sz (IntKind.i64.wrap (h + 1)) m (without key L ++ [(key, n)]) H' → Own H H' 60 5 u [vi 2 n] → Q (.tuple [.agg (ptN u n), .bool true]) H') : WF Try.prog 17 [.ptr cx 0 0 0, .str key] H Q := by
  have hC0 := hC
  obtain ⟨Fg, cm, kv, M, cl, hC, hF⟩ := hC
  refine WF_body Try.func17 (by kernel_rfl) rfl Try.ntmps17 (by rw [Try.results17]) (of_decide_eq_true (by kernel_rfl)) ?_
  simp (maxSteps := 1000000) only [sx, fx, implies_true, evBuildSlice, fillE, fillA, Nat.reduceMul, Nat.reducePow, AV.isCell, Nat.reduceSub, here, plain, laid, Nat.reduceBEq, evOp, avOf, avCell, strOf, UInt8.reduceToNat, evBin, evInt, evStr, evUn, Nat.reduceEqDiff, Nat.reduceLT, evResults, evResultsL, reduceCtorEq, AV.isUndef, AV.cells, Nat.reduceAdd, Heap.store, Nat.reduceLeDiff, hFr.at, hFr.hp]
  have hcxH : H.blk cx ≠ none := by rw [hC.row]; simp
  have hkH : ∀ b, blkOf kv = some b → H.blk b ≠ none := hC.keys.dom
  have hB : ∀ b, (b = cx ∨ b = cm ∨ blkOf kv = some b) → H.blk b ≠ none := fun b hb => by
    rcases hb with rfl | rfl | hb
    · exact hcxH
    · rw [hC.map]; simp
    · exact hkH b hb
  have hln : ∀ x a b c d, (pt x a b c d).length = 17 := fun _ _ _ _ _ => rfl
  have htk : ∀ x a b c d, (pt x a b c d).take 17 = pt x a b c d := fun _ _ _ _ _ => rfl
  have hsn : ∀ b, H.blk b ≠ none → (HP H [Blk.row 37 17 [pt .nilslice 0 0 0 false] 0 0]).blk b ≠ none := fun b hb => by
    cases hz : H.blk b with
    | none => exact absurd hz hb
    | some y => rw [hFr.hpU _ _ _ hz]; simp
  refine callStep (f11_ok key (hFr.hpF _) (hC0.up (hFr.hpU _)) _ (fun hl u H1 hU1 hF1 hO1 => ?_) (fun n hl u H1 hU1 hF1 hO1 => ?_))
  · have huc := own_isCell hO1
    simp (maxSteps := 1000000) only [sx, fx, implies_true, evBuildSlice, fillE, fillA, Nat.reduceMul, Nat.reducePow, AV.isCell, Nat.reduceSub, here, plain, laid, Nat.reduceBEq, evOp, avOf, avCell, strOf, UInt8.reduceToNat, evBin, evInt, evStr, evUn, Nat.reduceEqDiff, Nat.reduceLT, evResults, evResultsL, reduceCtorEq, AV.isUndef, AV.cells, Nat.reduceAdd, Heap.store, Nat.reduceLeDiff, hF1.at, hF1.hp, hln, htk, pt_cells huc]
    have hUG : Up H (HP H1 [Blk.row 37 17 [pt u 0 0 0 false] 0 0]) := ((hFr.hpU _).trans hU1).trans (hF1.hpU _)
    have z0 : (HP H1 [Blk.row 37 17 [pt u 0 0 0 false] 0 0]).blk H.next = some (.row 37 17 [pt .nilslice 0 0 0 false] 0 0) := hF1.hpU _ _ _ (hU1 _ _ (by rw [hp_blk0]; rfl))
    have p0 : (HP H1 [Blk.row 37 17 [pt u 0 0 0 false] 0 0]).blk H1.next = some (.row 37 17 [pt u 0 0 0 false] 0 0) := by rw [hp_blk0]; rfl
    have hOG := hO1.up (hF1.hpU [Blk.row 37 17 [pt u 0 0 0 false] 0 0])
    have hGF := hF1.hpF [Blk.row 37 17 [pt u 0 0 0 false] 0 0]
    have hne1 : H1.next ≠ H.next := by
      intro e
      have := hU1 _ _ (show (HP H [Blk.row 37 17 [pt .nilslice 0 0 0 false] 0 0]).blk H.next = _ by rw [hp_blk0]; rfl)
      rw [← e, hF1.at] at this; cases this
    generalize hG : HP H1 [Blk.row 37 17 [pt u 0 0 0 false] 0 0] = G at *
    have hCG := hC.up hUG
    have rowG := hCG.row
    refine callStep (f23_row _ rowG _ ?_)
    simp only [cacheRow] at rowG
    have hx0 : cx ≠ H.next := fun e => hcxH (by rw [e]; exact hFr.at)
    have hx1 : cx ≠ H1.next := fun e => hcxH (by
      cases hz : H.blk cx with
      | none => rfl
      | some y =>
        have := hU1 _ _ (hFr.hpU [Blk.row 37 17 [pt .nilslice 0 0 0 false] 0 0] _ _ hz)
        rw [e, hF1.at] at this; cases this)
    have z1 : ∀ x, (G.set cx x).blk H.next = some (.row 37 17 [pt .nilslice 0 0 0 false] 0 0) := fun x => by rw [Heap.set_other _ _ _ (Ne.symm hx0)]; exact z0
    have p1 : ∀ x, (G.set cx x).blk H1.next = some (.row 37 17 [pt u 0 0 0 false] 0 0) := fun x => by rw [Heap.set_other _ _ _ (Ne.symm hx1)]; exact p0
    have z2 : ∀ x y, ((G.set cx x).set H.next y).blk H1.next = some (.row 37 17 [pt u 0 0 0 false] 0 0) := fun x y => by rw [Heap.set_other _ _ _ hne1]; exact p1 x
    simp (maxSteps := 1000000) only [sx, fx, implies_true, evBuildSlice, fillE, fillA, Nat.reduceMul, Nat.reducePow, AV.isCell, Nat.reduceSub, here, plain, laid, Nat.reduceBEq, evOp, avOf, avCell, strOf, UInt8.reduceToNat, evBin, evInt, evStr, evUn, Nat.reduceEqDiff, Nat.reduceLT, evResults, evResultsL, reduceCtorEq, AV.isUndef, AV.cells, Nat.reduceAdd, Heap.store, Nat.reduceLeDiff, hC.pos, rowG, z1, p1, hln, htk, pt_cells huc]
    have hoffA : ∀ x y, Off (fun b => b = cx ∨ b = cm ∨ blkOf kv = some b) H ((G.set cx x).set H.next y) := fun x y =>
      off_fresh ((Off.of_up hUG).trans (Off.set (B := fun b => b = cx ∨ b = cm ∨ blkOf kv = some b) (.inl rfl) x)) hFr.at y
    have hFA : ∀ x y, Free ((G.set cx x).set H.next y) := fun x y => (hGF.set (hGF.lt hCG.row) x).set ((hGF.set (hGF.lt hCG.row) x).lt (z1 x)) y
    have hmx : cm ≠ H.next := fun e => by have := hC.map; rw [e, hFr.at] at this; cases this
    refine hQ1 hl u _ ?_ ?_
    · refine CPost.of_step (Fn := fun _ => False) hF (hC.step (fun _ => False) (hoffA _ _) (by rw [Heap.set_other _ _ _ hx0]; exact set_same) (by rw [Heap.set_other _ _ _ hmx, Heap.set_other _ _ _ (Ne.symm hC.ne)]; exact hCG.map)
        (keys' := hC.keys.off (B := fun b => b = cx ∨ H.blk b = none) (fun b x hb hx => ?_) (fun b hb e => ?_)) (kx' := fun b hb => .inl hb) (ents' := fun k => ents_same hC k _ _) (fun b hb => False.elim hb) hC.nod hC.nodL hC.len) (fun b hb => False.elim hb) (fun b hb => .inl hb) (hoffA _ _) (hFA _ _)
      · rw [Heap.set_other _ _ _ (fun e => hb (.inr (by rw [e]; exact hFr.at))), Heap.set_other _ _ _ (fun e => hb (.inl e))]; exact hUG _ _ hx
      · rcases e with e | e
        · exact (hC.kx b hb).1 e
        · exact hkH b hb e
    · exact (own_set (own_set hOG (c := cx) (hsn _ hcxH) _) (c := H.next) (by rw [hp_blk0]; simp) _).base (hFr.hpU _)
  · have huc := own_isCell hO1
    have hlnN : (ptN u n).length = 17 := rfl
    have htkN : (ptN u n).take 17 = ptN u n := rfl
    have hclN : (ptN u n).all AV.isCell = true := pt_cells huc
    simp (maxSteps := 1000000) only [sx, fx, implies_true, evBuildSlice, fillE, fillA, Nat.reduceMul, Nat.reducePow, AV.isCell, Nat.reduceSub, here, plain, laid, Nat.reduceBEq, evOp, avOf, avCell, strOf, UInt8.reduceToNat, evBin, evInt, evStr, evUn, Nat.reduceEqDiff, Nat.reduceLT, evResults, evResultsL, reduceCtorEq, AV.isUndef, AV.cells, Nat.reduceAdd, Heap.store, Nat.reduceLeDiff, hF1.at, hF1.hp, hlnN, htkN, hclN]
    have hUG : Up H (HP H1 [Blk.row 37 17 [ptN u n] 0 0]) := ((hFr.hpU _).trans hU1).trans (hF1.hpU _)
    have z0 : (HP H1 [Blk.row 37 17 [ptN u n] 0 0]).blk H.next = some (.row 37 17 [pt .nilslice 0 0 0 false] 0 0) := hF1.hpU _ _ _ (hU1 _ _ (by rw [hp_blk0]; rfl))
    have p0 : (HP H1 [Blk.row 37 17 [ptN u n] 0 0]).blk H1.next = some (.row 37 17 [ptN u n] 0 0) := by rw [hp_blk0]; rfl
    have hOG := hO1.up (hF1.hpU [Blk.row 37 17 [ptN u n] 0 0])
    have hGF := hF1.hpF [Blk.row 37 17 [ptN u n] 0 0]
    have hne1 : H1.next ≠ H.next := by
      intro e
      have := hU1 _ _ (show (HP H [Blk.row 37 17 [pt .nilslice 0 0 0 false] 0 0]).blk H.next = _ by rw [hp_blk0]; rfl)
      rw [← e, hF1.at] at this; cases this
    generalize hG : HP H1 [Blk.row 37 17 [ptN u n] 0 0] = G at *
    have hCG := hC.up hUG
    have rowG := hCG.row
    refine callStep (f23_row _ rowG _ ?_)
    simp only [cacheRow] at rowG
    have hx0 : cx ≠ H.next := fun e => hcxH (by rw [e]; exact hFr.at)
    have old1 : ∀ b, H.blk b ≠ none → b ≠ H1.next := fun b hb e => hb (by
      cases hz : H.blk b with
      | none => rfl
      | some y =>
        have := hU1 _ _ (hFr.hpU [Blk.row 37 17 [pt .nilslice 0 0 0 false] 0 0] _ _ hz)
        rw [e, hF1.at] at this; cases this)
    have hkx : blkOf kv ≠ some cx := fun e => (hC.kx _ e).1 rfl
    have hkm : blkOf kv ≠ some cm := fun e => (hC.kx _ e).2.1 rfl
    have hk0 : blkOf kv ≠ some H.next := fun e => hkH _ e hFr.at
    have hk1 : blkOf kv ≠ some H1.next := fun e => old1 _ (hkH _ e) rfl
    have hmx : cm ≠ H.next := fun e => by have := hC.map; rw [e, hFr.at] at this; cases this
    simp (maxSteps := 1000000) only [sx, fx, implies_true, evBuildSlice, fillE, fillA, Nat.reduceMul, Nat.reducePow, AV.isCell, Nat.reduceSub, here, plain, laid, Nat.reduceBEq, evOp, avOf, avCell, strOf, UInt8.reduceToNat, evBin, evInt, evStr, evUn, Nat.reduceEqDiff, Nat.reduceLT, evResults, evResultsL, reduceCtorEq, AV.isUndef, AV.cells, Nat.reduceAdd, Heap.store, Nat.reduceLeDiff, hC.pos, rowG]
    have r1 : (G.set cx (cacheRow sz cm kv (IntKind.i64.wrap (h + 1)) m)).blk cx = some (cacheRow sz cm kv (IntKind.i64.wrap (h + 1)) m) := set_same
    have hoff1 : Off (fun b => b = cx) G (G.set cx (cacheRow sz cm kv (IntKind.i64.wrap (h + 1)) m)) := Off.set (B := fun b => b = cx) rfl _
    have hF1' : Free (G.set cx (cacheRow sz cm kv (IntKind.i64.wrap (h + 1)) m)) := hGF.set (hGF.lt hCG.row) _
    have hOG1 := own_set hOG (c := cx) (hsn _ hcxH) (cacheRow sz cm kv (IntKind.i64.wrap (h + 1)) m)
    have hfold : Blk.row 63 5 [[.int .i64 sz, .map cm, kv, .int .i64 (IntKind.i64.wrap (h + 1)), .int .i64 m]] 0 0 = cacheRow sz cm kv (IntKind.i64.wrap (h + 1)) m := rfl
    rw [hfold]
    generalize hG1 : G.set cx (cacheRow sz cm kv (IntKind.i64.wrap (h + 1)) m) = G1 at *
    refine callStep (f25_ok key _ hF1' r1 (hCG.keys.off hoff1 (fun b hb => (hC.kx b hb).1)) (by simp; omega) hkx _ fun kv2 H2 r2row row2 keys2 hoff2 hF2 hbl2 => ?_)
    have hne2 : ∀ b, H.blk b ≠ none ∨ b = H.next ∨ b = H1.next → b ≠ cx → blkOf kv ≠ some b → ∀ x, G.blk b = some x → H2.blk b = some x := fun b _ hx hk x hb => hoff2 _ _ (fun e => e.elim hx hk) (hoff1 _ _ hx hb)
    have z2 : H2.blk H.next = some (.row 37 17 [pt .nilslice 0 0 0 false] 0 0) := hne2 _ (.inr (.inl rfl)) (Ne.symm hx0) hk0 _ z0
    have p2 : H2.blk H1.next = some (.row 37 17 [ptN u n] 0 0) := hne2 _ (.inr (.inr rfl)) (Ne.symm (old1 _ hcxH)) hk1 _ p0
    have map2 : H2.blk cm = some (.map (ent M) cl) := hne2 _ (.inl (by rw [hC.map]; simp)) (Ne.symm hC.ne) hkm _ hCG.map
    simp (maxSteps := 1000000) only [sx, fx, implies_true, evBuildSlice, fillE, fillA, Nat.reduceMul, Nat.reducePow, AV.isCell, Nat.reduceSub, here, plain, laid, Nat.reduceBEq, evOp, avOf, avCell, strOf, UInt8.reduceToNat, evBin, evInt, evStr, evUn, Nat.reduceEqDiff, Nat.reduceLT, evResults, evResultsL, reduceCtorEq, AV.isUndef, AV.cells, Nat.reduceAdd, Heap.store, Nat.reduceLeDiff, z2, p2, hln, hlnN, htkN, hclN]
    have hoffG : Off (fun b => b = cx ∨ b = cm ∨ blkOf kv = some b) H H2 := ((Off.of_up hUG).trans (hoff1.mono fun b hb => .inl hb)).trans (hoff2.mono fun b hb => hb.elim .inl (fun q => .inr (.inr q)))
    have hfr2 : ∀ b, blkOf kv2 = some b → blkOf kv = some b ∨ H.blk b = none := fun b hb => by
      rcases hbl2 b hb with q | q
      · exact .inl q
      · by_cases hbx : b = cx
        · exfalso; rw [hbx, r1] at q; cases q
        · right
          cases hz : H.blk b with
          | none => rfl
          | some y => rw [hoff1 _ _ hbx (hUG _ _ hz)] at q; cases q
    have hk20 : blkOf kv2 ≠ some H.next := fun e => by
      rcases hbl2 _ e with q | q
      · exact hk0 q
      · rw [hoff1 _ _ (Ne.symm hx0) z0] at q; cases q
    refine hQ2 n hl u _ ?_ ?_
    · refine CPostX.of_step (Fn := fun _ => False) hF (hC.step (fun _ => False) (off_fresh hoffG hFr.at _) (by rw [Heap.set_other _ _ _ hx0]; exact row2) (by rw [Heap.set_other _ _ _ hmx]; exact map2)
        (keys' := ?_) (kx' := hfr2) (ents' := fun k => ents_use hC hl k _ _) (fun b hb => False.elim hb) hC.nod (push_nodup hC.nodL) (Nat.le_trans (use_len hl) hC.len)) (fun b hb => False.elim hb) hfr2 (off_fresh hoffG hFr.at _) (hF2.set (hF2.lt z2) _) ?_
      · rw [List.map_append, without_fst]
        exact keys2.off (B := fun b => b = H.next) (Off.set (B := fun b => b = H.next) rfl _) (fun b hb e => hk20 (by rw [← e]; exact hb))
      · have hub : ∀ b, blkOf u = some b → H.blk b = none ∧ G1.blk b ≠ none := fun b hb => by
          have hOb := hOG1.base (hFr.hpU _)
          obtain ⟨_, ⟨_, q | q⟩ | ⟨b', g', w', q, q2, q3, q4⟩ | ⟨b', g', t', gen, w', q, q2, q3, q4⟩⟩ := hOb
          · rw [q] at hb; cases hb
          · rw [q] at hb; cases hb
          · rw [q] at hb; cases hb; exact ⟨q4, by rw [q2]; simp⟩
          · rw [q] at hb; cases hb; exact ⟨q4, by rw [q2]; simp⟩
        intro b hb hc
        obtain ⟨u1, u2⟩ := hub b hb
        rcases hc with e | e | e | e | e
        · exact hcxH (e ▸ u1)
        · have := hC.map; rw [← e, u1] at this; cases this
        · rcases hbl2 b e with q | q
          · exact hkH b q u1
          · exact u2 q
        · exact hC.dom b e u1
        · exact e
    · have hO2 : Own (HP H [Blk.row 37 17 [pt .nilslice 0 0 0 false] 0 0]) H2 60 5 u [vi 2 n] := hOG1.off hoff2 (fun b hb => by
        rcases hb with rfl | hb
        · exact hsn _ hcxH
        · exact hsn _ (hkH _ hb))
      exact (own_set hO2 (c := H.next) (by rw [hp_blk0]; simp) _).base (hFr.hpU _)
end Go.Proofs.T
