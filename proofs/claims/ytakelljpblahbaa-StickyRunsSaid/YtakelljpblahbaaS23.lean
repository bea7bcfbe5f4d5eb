import Derived.Test.YtakelljpblahbaaS22
set_option linter.unusedVariables false
set_option linter.unusedSimpArgs false
set_option maxRecDepth 100000
namespace Go.Proofs.T
open Go.Ev

theorem _root_.Go.Ev.Holds.off' {H H' : Heap} {esz : Nat} {v : AV} {L : List (List AV)} (h : Holds H esz v L) (hB : ∀ b x, blkOf v = some b → H.blk b = some x → H'.blk b = some x) : Holds H' esz v L := by
  obtain ⟨h0, h | h | ⟨b, off, cap, ex, g, ty, els, gen, wgen, rfl, h2, h3⟩⟩ := h
  · exact ⟨h0, .inl h⟩
  · exact ⟨h0, .inr (.inl h)⟩
  · exact ⟨h0, .inr (.inr ⟨b, off, cap, ex, g, ty, els, gen, wgen, rfl, hB _ _ rfl h2, h3⟩)⟩

/-- A heap without a slice's row. -/
def del (H : Heap) (v : AV) : Heap := ⟨fun b => if blkOf v = some b then none else H.blk b, H.next⟩
theorem own_del {G H : Heap} {ty esz : Nat} {v : AV} {L : List (List AV)} (h : Own G H ty esz v L) : Own (del H v) H ty esz v L := by
  obtain ⟨h0, h | ⟨b, g, wgen, h1, h2, h3, h4⟩ | ⟨b, g, ty', gen, wgen, h1, h2, h3, h4⟩⟩ := h
  · exact ⟨h0, .inl h⟩
  · exact ⟨h0, .inr (.inl ⟨b, g, wgen, h1, h2, h3, by simp [del, h1, blkOf]⟩)⟩
  · exact ⟨h0, .inr (.inr ⟨b, g, ty', gen, wgen, h1, h2, h3, by simp [del, h1, blkOf]⟩)⟩
theorem del_up (H : Heap) (v : AV) : Up (del H v) H := fun b x hb => by
  simp only [del] at hb
  split at hb
  · cases hb
  · exact hb
theorem del_blk {H : Heap} {v : AV} {b : Nat} (h : blkOf v ≠ some b) : (del H v).blk b = H.blk b := by simp [del, h]

theorem f33_ok {H : Heap} {G : Nat → Prop} {rx : Nat} {sz fo wr : Int} {L : Stored} (key : List Nat) (hF : Free H) (hR : Ref H G rx sz fo wr L) (Q : AV → Heap → Prop)
    (hQ1 : lk key L = none → ∀ H', Up H H' → Free H' → Q (.tuple [.agg (pt .nilslice 0 0 0 false), .bool false]) H')
    (hQ2 : ∀ n, lk key L = some n → ∀ g H', Up H H' → Free H' → Holds H' 5 g [vi 2 n] → Q (.tuple [.agg (ptN g n), .bool true]) H') : WF Try.prog 33 [.ptr rx 0 0 0, .str key] H Q := by
  obtain ⟨ev, E, hR⟩ := hR
  refine WF_body Try.func33 (by kernel_rfl) rfl Try.ntmps33 (by rw [Try.results33]) (of_decide_eq_true (by kernel_rfl)) ?_
  have hrow := hR.row
  simp only [refRow] at hrow
  have hrow0 := fun xs => hF.hpU xs _ _ hrow
  simp (maxSteps := 1000000) only [sx, fx, implies_true, evBuildSlice, fillE, fillA, Nat.reduceMul, Nat.reducePow, AV.isCell, Nat.reduceSub, here, plain, laid, Nat.reduceBEq, evOp, avOf, avCell, strOf, UInt8.reduceToNat, evBin, evInt, evStr, evUn, Nat.reduceEqDiff, Nat.reduceLT, evResults, evResultsL, reduceCtorEq, AV.isUndef, AV.cells, Nat.reduceAdd, Heap.store, Nat.reduceLeDiff, hF.at, hF.hp, eqOk, eqp54_p, hrow0]
  have hR0 : RInv (HP H [Blk.row 43 17 [pt .nilslice 0 0 0 false] 0 0]) G rx ev E sz fo wr L := by
    obtain ⟨a, b⟩ := hR
    exact ⟨hF.hpU _ _ _ a, b.up (hF.hpU _), ER.off (B := fun _ => False) (Off.of_up (hF.hpU _)) (fun _ _ => id) (by assumption), by assumption, by assumption, fun b hb => by
      rename_i dom _ _ 
      cases hx : H.blk b with
      | none => exact absurd hx (dom b hb)
      | some x => rw [hF.hpU _ _ _ hx]; simp, by assumption, by assumption⟩
  refine callStep (f54_ok key (hF.hpF _) hR0 _ fun out z H1 hU1 hF1 hO1 hz => ?_)
  obtain ⟨hlz, hcz⟩ := Found.cells hz
  have htz : z.take 18 = z := List.take_of_length_le (by omega)
  have b0 : ∀ xs, (HP H1 xs).blk H.next = some (.row 43 17 [pt .nilslice 0 0 0 false] 0 0) := fun xs => hF1.hpU xs _ _ (hU1 _ _ (by rw [hp_blk0]; rfl))
  have hU := (hF.hpU [Blk.row 43 17 [pt .nilslice 0 0 0 false] 0 0]).trans hU1
  have hln0 : (pt .nilslice 0 0 0 false).length = 17 := rfl
  have fin : ∀ xs x, Up H ((HP H1 xs).set H.next x) ∧ Free ((HP H1 xs).set H.next x) := fun xs x => ⟨(hU.trans (hF1.hpU xs)).set (hF _ (Nat.le_refl _)) x, (hF1.hpF xs).set ((hF1.hpF xs).lt (b0 xs)) x⟩
  cases hl : lk key L with
  | none =>
    rw [hl] at hz
    have hdr : (z.drop 1).take 17 = pt .nilslice 0 0 0 false := by rw [hz]; rfl
    have hcl0 : (pt .nilslice 0 0 0 false).all AV.isCell = true := rfl
    simp (maxSteps := 1000000) only [sx, fx, implies_true, evBuildSlice, fillE, fillA, Nat.reduceMul, Nat.reducePow, AV.isCell, Nat.reduceSub, here, plain, laid, Nat.reduceBEq, evOp, avOf, avCell, strOf, UInt8.reduceToNat, evBin, evInt, evStr, evUn, Nat.reduceEqDiff, Nat.reduceLT, evResults, evResultsL, reduceCtorEq, AV.isUndef, AV.cells, Nat.reduceAdd, Heap.store, Nat.reduceLeDiff, Option.isSome_none, hF1.at, hF1.hp, hlz, hcz, hdr, b0, hln0, hcl0]
    exact hQ1 hl _ (fin _ _).1 (fin _ _).2
  | some n =>
    rw [hl] at hz
    obtain ⟨g, hzg, hg, hgb⟩ := hz
    have hdr : (z.drop 1).take 17 = ptN g n := by rw [hzg]; rfl
    have hln : (ptN g n).length = 17 := rfl
    have hcl : (ptN g n).all AV.isCell = true := pt_cells (holds_isCell hg)
    simp (maxSteps := 1000000) only [sx, fx, implies_true, evBuildSlice, fillE, fillA, Nat.reduceMul, Nat.reducePow, AV.isCell, Nat.reduceSub, here, plain, laid, Nat.reduceBEq, evOp, avOf, avCell, strOf, UInt8.reduceToNat, evBin, evInt, evStr, evUn, Nat.reduceEqDiff, Nat.reduceLT, evResults, evResultsL, reduceCtorEq, AV.isUndef, AV.cells, Nat.reduceAdd, Heap.store, Nat.reduceLeDiff, Option.isSome_some, hF1.at, hF1.hp, hlz, hcz, hdr, b0, hln0, hln, hcl]
    refine hQ2 n hl g _ (fin _ _).1 (fin _ _).2 ?_
    refine (hg.up (hU1.trans (hF1.hpU _))).off (B := fun b => b = H.next) (Off.set (B := fun b => b = H.next) rfl _) (fun b hb e => ?_)
    exact hR.dom b (hgb b hb).1 (by rw [e]; exact hF.at)

theorem f32_ok {H : Heap} {G : Nat → Prop} {rx : Nat} {sz fo wr : Int} {L : Stored} (key : List Nat) (hF : Free H) (hR : Ref H G rx sz fo wr L) (Q : AV → Heap → Prop)
    (hQ1 : lk key L = none → ∀ H', RPost H G rx sz fo (IntKind.i64.wrap (wr + 1)) L H' → Q (.tuple [.agg (pt .nilslice 0 0 0 false), .bool false]) H')
    (hQ2 : ∀ n, lk key L = some n → ∀ g H', RPost H G rx sz (IntKind.i64.wrap (fo + 1)) wr (without key L ++ [(key, n)]) H' → Holds H' 5 g [vi 2 n] → Q (.tuple [.agg (ptN g n), .bool true]) H') : WF Try.prog 32 [.ptr rx 0 0 0, .str key] H Q := by
  have hRR := hR
  obtain ⟨ev, E, hR⟩ := hR
  refine WF_body Try.func32 (by kernel_rfl) rfl Try.ntmps32 (by rw [Try.results32]) (of_decide_eq_true (by kernel_rfl)) ?_
  have hrow := hR.row
  simp only [refRow] at hrow
  have hrow0 := fun xs => hF.hpU xs _ _ hrow
  simp (maxSteps := 1000000) only [sx, fx, implies_true, evBuildSlice, fillE, fillA, Nat.reduceMul, Nat.reducePow, AV.isCell, Nat.reduceSub, here, plain, laid, Nat.reduceBEq, evOp, avOf, avCell, strOf, UInt8.reduceToNat, evBin, evInt, evStr, evUn, Nat.reduceEqDiff, Nat.reduceLT, evResults, evResultsL, reduceCtorEq, AV.isUndef, AV.cells, Nat.reduceAdd, Heap.store, Nat.reduceLeDiff, hF.at, hF.hp, eqOk, eqp54_p, hrow0]
  have hR0 : RInv (HP H [Blk.row 43 17 [pt .nilslice 0 0 0 false] 0 0]) G rx ev E sz fo wr L := by
    obtain ⟨a, b⟩ := hR
    exact ⟨hF.hpU _ _ _ a, b.up (hF.hpU _), ER.off (B := fun _ => False) (Off.of_up (hF.hpU _)) (fun _ _ => id) (by assumption), by assumption, by assumption, fun b hb => by
      rename_i dom _ _ 
      cases hx : H.blk b with
      | none => exact absurd hx (dom b hb)
      | some x => rw [hF.hpU _ _ _ hx]; simp, by assumption, by assumption⟩
  refine callStep (f54_ok key (hF.hpF _) hR0 _ fun out z H1 hU1 hF1 hO1 hz => ?_)
  obtain ⟨hlz, hcz⟩ := Found.cells hz
  have htz : z.take 18 = z := List.take_of_length_le (by omega)
  have b0 : ∀ xs, (HP H1 xs).blk H.next = some (.row 43 17 [pt .nilslice 0 0 0 false] 0 0) := fun xs => hF1.hpU xs _ _ (hU1 _ _ (by rw [hp_blk0]; rfl))
  have hU := (hF.hpU [Blk.row 43 17 [pt .nilslice 0 0 0 false] 0 0]).trans hU1
  have hrow1 := fun xs => hF1.hpU xs _ _ (hU _ _ hrow)
  have hln0 : (pt .nilslice 0 0 0 false).length = 17 := rfl
  have hcl0 : (pt .nilslice 0 0 0 false).all AV.isCell = true := rfl
  have hx0 : rx ≠ H.next := fun e => by have := hF.at; rw [← e, hR.row] at this; cases this
  cases hl : lk key L with
  | none =>
    rw [hl] at hz
    have row1 : ∀ xs x, ((HP H1 xs).set rx x).blk H.next = some (.row 43 17 [pt .nilslice 0 0 0 false] 0 0) := fun xs x => by rw [Heap.set_other _ _ _ (Ne.symm hx0)]; exact b0 xs
    simp only [pt] at row1 hcl0
    simp (maxSteps := 1000000) only [sx, fx, implies_true, evBuildSlice, fillE, fillA, Nat.reduceMul, Nat.reducePow, AV.isCell, Nat.reduceSub, here, plain, laid, Nat.reduceBEq, evOp, avOf, avCell, strOf, UInt8.reduceToNat, evBin, evInt, evStr, evUn, Nat.reduceEqDiff, Nat.reduceLT, evResults, evResultsL, reduceCtorEq, AV.isUndef, AV.cells, Nat.reduceAdd, Heap.store, Nat.reduceLeDiff, Option.isSome_none, hF1.at, hF1.hp, hlz, hcz, hrow1, row1]
    have hoff : ∀ x y, Off (fun b => b = rx) H (((HP H1 [Blk.row 106 18 [z] 0 0]).set rx x).set H.next y) := fun x y => off_fresh ((Off.of_up (hU.trans (hF1.hpU _))).trans (Off.set (B := fun b => b = rx) rfl x)) hF.at y
    refine hQ1 hl _ ⟨_, ⟨ev, E, hR.new (fun _ => False) (hoff _ _) (by rw [Heap.set_other _ _ _ hx0]; exact set_same) (Holds.off hR.slice (hoff _ _) (fun b hb => (hR.ev b hb).2)) ((ER.off (hoff _ _) (fun b hb => hb.2) hR.ents).mono fun b hb => ⟨.inl hb.1, hb.2⟩)
      (fun b hb => ⟨.inl (hR.ev b hb).1, (hR.ev b hb).2⟩) (fun b hb => hb.elim) hR.nod hR.len⟩, fun b hb => hb.elim .inl False.elim, hoff _ _, ((hF1.hpF _).set ((hF1.hpF _).lt (hrow1 _)) _).set (((hF1.hpF _).set ((hF1.hpF _).lt (hrow1 _)) _).lt (row1 _ _)) _⟩
  | some n =>
    rw [hl] at hz
    obtain ⟨g, hzg, hg, hgb⟩ := hz
    have hdr : (z.drop 1).take 17 = ptN g n := by rw [hzg]; rfl
    have hln : (ptN g n).length = 17 := rfl
    have hcl : (ptN g n).all AV.isCell = true := pt_cells (holds_isCell hg)
    have p1 : (HP H1 [Blk.row 106 18 [z] 0 0]).blk H1.next = some (.row 106 18 [z] 0 0) := by rw [hp_blk0]; rfl
    have hx1 : rx ≠ H1.next := fun e => by have := hF1.at; rw [← e, hU _ _ hrow] at this; cases this
    simp (maxSteps := 1000000) only [sx, fx, implies_true, evBuildSlice, fillE, fillA, Nat.reduceMul, Nat.reducePow, AV.isCell, Nat.reduceSub, here, plain, laid, Nat.reduceBEq, evOp, avOf, avCell, strOf, UInt8.reduceToNat, evBin, evInt, evStr, evUn, Nat.reduceEqDiff, Nat.reduceLT, evResults, evResultsL, reduceCtorEq, AV.isUndef, AV.cells, Nat.reduceAdd, Heap.store, Nat.reduceLeDiff, Option.isSome_some, hF1.at, hF1.hp, hlz, hcz, hrow1]
    have hGF := (hF1.hpF [Blk.row 106 18 [z] 0 0]).set ((hF1.hpF _).lt (hrow1 _)) (refRow sz ev (IntKind.i64.wrap (fo + 1)) wr)
    have p1' : ((HP H1 [Blk.row 106 18 [z] 0 0]).set rx (refRow sz ev (IntKind.i64.wrap (fo + 1)) wr)).blk H1.next = some (.row 106 18 [z] 0 0) := by rw [Heap.set_other _ _ _ (Ne.symm hx1)]; exact p1
    have b1' : ((HP H1 [Blk.row 106 18 [z] 0 0]).set rx (refRow sz ev (IntKind.i64.wrap (fo + 1)) wr)).blk H.next = some (.row 43 17 [pt .nilslice 0 0 0 false] 0 0) := by rw [Heap.set_other _ _ _ (Ne.symm hx0)]; exact b0 _
    have r1' : ((HP H1 [Blk.row 106 18 [z] 0 0]).set rx (refRow sz ev (IntKind.i64.wrap (fo + 1)) wr)).blk rx = some (refRow sz ev (IntKind.i64.wrap (fo + 1)) wr) := set_same
    have hoff1 : Off (fun b => b = rx) H ((HP H1 [Blk.row 106 18 [z] 0 0]).set rx (refRow sz ev (IntKind.i64.wrap (fo + 1)) wr)) := (Off.of_up (hU.trans (hF1.hpU _))).trans (Off.set (B := fun b => b = rx) rfl _)
    have hOH : Own H H1 106 18 out (E.filter (keepE key)) := hO1.base (hF.hpU _)
    have hO1' : Own H ((HP H1 [Blk.row 106 18 [z] 0 0]).set rx (refRow sz ev (IntKind.i64.wrap (fo + 1)) wr)) 106 18 out (E.filter (keepE key)) := own_set (hOH.up (hF1.hpU _)) (c := rx) (by rw [hR.row]; simp) _
    have hfold : Blk.row 73 5 [[.bool true, .int .i64 sz, ev, .int .i64 (IntKind.i64.wrap (fo + 1)), .int .i64 wr]] 0 0 = refRow sz ev (IntKind.i64.wrap (fo + 1)) wr := rfl
    rw [hfold]
    generalize hG1 : (HP H1 [Blk.row 106 18 [z] 0 0]).set rx (refRow sz ev (IntKind.i64.wrap (fo + 1)) wr) = G1 at *
    simp (maxSteps := 1000000) only [sx, fx, implies_true, evBuildSlice, fillE, fillA, Nat.reduceMul, Nat.reducePow, AV.isCell, Nat.reduceSub, here, plain, laid, Nat.reduceBEq, evOp, avOf, avCell, strOf, UInt8.reduceToNat, evBin, evInt, evStr, evUn, Nat.reduceEqDiff, Nat.reduceLT, evResults, evResultsL, reduceCtorEq, AV.isUndef, AV.cells, Nat.reduceAdd, Heap.store, Nat.reduceLeDiff, p1', htz, hGF.at, hGF.hp, hlz]
    have hlE := hR.ents.len
    have hL100 := hR.len
    have hfl : (E.filter (keepE key)).length ≤ 100 := by have := List.length_filter_le (keepE key) E; omega
    have hone : ∀ cs ∈ [z], cs.all AV.isCell = true := fun cs hc => by rw [List.mem_singleton] at hc; rw [hc]; exact hcz
    have hlv := own_live hO1'
    have hnr : blkOf out ≠ some rx := fun e => by have := (hlv _ e).2; rw [hR.row] at this; cases this
    have hn0 : blkOf out ≠ some H.next := fun e => by
      have := (own_live hO1 _ e).2
      rw [hp_blk0] at this; cases this
    have hn1 : blkOf out ≠ some H1.next := fun e => (own_live hO1 _ e).1 hF1.at
    refine opStep_append app71 ((own_del hO1').up (hGF.hpU _)) (hGF.hpF _) ((del_up _ _).trans (hGF.hpU _)) (holds_hp (k := 0) rfl rfl (Nat.le_refl _) (fun cs hc => by rw [List.mem_singleton] at hc; rw [hc]; exact hlz)) hone (by simp [maxBytes]; omega) (by simp [maxBytes]; omega) (fun u K' hO4 hU4 hF4 => ?_)
    have rK : K'.blk rx = some (refRow sz ev (IntKind.i64.wrap (fo + 1)) wr) := hU4 _ _ (by rw [del_blk hnr]; exact r1')
    have pK : K'.blk H1.next = some (.row 106 18 [z] 0 0) := hU4 _ _ (by rw [del_blk hn1]; exact p1')
    have bK : K'.blk H.next = some (.row 43 17 [pt .nilslice 0 0 0 false] 0 0) := hU4 _ _ (by rw [del_blk hn0]; exact b1')
    have hoffK : Off (fun b => b = rx) H K' := fun b x hb hx => hU4 _ _ (by rw [del_blk (fun e => by have := (hlv _ e).2; rw [hx] at this; cases this)]; exact hoff1 _ _ hb hx)
    have hlu := own_live hO4
    have hun : ∀ b, blkOf u = some b → H.blk b = none := fun b hb => by
      cases hx : H.blk b with
      | none => rfl
      | some y =>
        exfalso
        have h1 := (hlu b hb).2
        by_cases hbo : blkOf out = some b
        · have := (hlv b hbo).2; rw [hx] at this; cases this
        · rw [del_blk hbo] at h1
          by_cases hbx : b = rx
          · rw [hbx, r1'] at h1; cases h1
          · rw [hoff1 _ _ hbx hx] at h1; cases h1
    have hu0 : blkOf u ≠ some H.next := fun e => by
      have := (hlu _ e).2
      rw [del_blk hn0, b1'] at this; cases this
    have p1r : ∀ x, (K'.set rx x).blk H1.next = some (.row 106 18 [z] 0 0) := fun x => by rw [Heap.set_other _ _ _ (Ne.symm hx1)]; exact pK
    have b1r : ∀ x, (K'.set rx x).blk H.next = some (.row 43 17 [pt .nilslice 0 0 0 false] 0 0) := fun x => by rw [Heap.set_other _ _ _ (Ne.symm hx0)]; exact bK
    have hrKF : ∀ x, Free (K'.set rx x) := fun x => hF4.set (hF4.lt rK) x
    have hoffF : ∀ x y, Off (fun b => b = rx) H ((K'.set rx x).set H.next y) := fun x y => off_fresh (hoffK.trans (Off.set (B := fun b => b = rx) rfl x)) hF.at y
    have hFF : ∀ x y, Free ((K'.set rx x).set H.next y) := fun x y => (hrKF x).set ((hrKF x).lt (b1r x)) y
    have hHu : ∀ x y, Holds ((K'.set rx x).set H.next y) 18 u (E.filter (keepE key) ++ [z]) := fun x y =>
      (hO4.holds.off (B := fun b => b = rx) (Off.set (B := fun b => b = rx) rfl _) (fun b hb e => by have := hun b hb; rw [e, hR.row] at this; cases this)).off (B := fun b => b = H.next) (Off.set (B := fun b => b = H.next) rfl _) (fun b hb e => hu0 (by rw [← e]; exact hb))
    have hgF : ∀ x y, Holds ((K'.set rx x).set H.next y) 5 g [vi 2 n] := fun x y => by
      obtain ⟨ev', E', hRR'⟩ := hRR
      have hgH : Holds H 5 g [vi 2 n] := by
        refine hg.off' (fun b x' hb hx => ?_)
        have := (hgb b hb).1
        cases hy : H.blk b with
        | none => exact absurd hy (hR.dom b this)
        | some y' => rw [hF.hpU _ _ _ hy] at hx; exact hx
      exact hgH.off (hoffF x y) (fun b hb => (hgb b hb).2)
    have hRP : ∀ y, RPost H G rx sz (IntKind.i64.wrap (fo + 1)) wr (without key L ++ [(key, n)]) ((K'.set rx (refRow sz u (IntKind.i64.wrap (fo + 1)) wr)).set H.next y) := fun y => by
      refine ⟨_, ⟨u, _, hR.new (fun b => blkOf u = some b) (hoffF _ y) (by rw [Heap.set_other _ _ _ hx0]; exact set_same) (hHu _ y) ?_ (fun b hb => ⟨.inr hb, fun e => by have := hun b hb; rw [e, hR.row] at this; cases this⟩) (fun b hb => ?_) (push_nodup hR.nod) (Nat.le_trans (use_len hl) hR.len)⟩, fun b hb => hb.elim .inl (fun q => .inr (hun b q)), hoffF _ y, hFF _ y⟩
      · refine ER.append ((ER.off (hoffF _ y) (fun b hb => hb.2) (ER.filter key hR.ents)).mono fun b hb => ⟨.inl hb.1, hb.2⟩) ⟨⟨g, hzg, hgF _ y, fun b hb => ⟨.inl (hgb b hb).1, (hgb b hb).2⟩⟩, trivial⟩
      · exact Heap.set_ne (Heap.set_ne (hlu b hb).1)
    simp only [refRow] at rK hRP
    rcases own_shape hO4 with rfl | rfl | ⟨ub, uo, ul, uc, uex, ug, rfl⟩
    all_goals
      simp (maxSteps := 1000000) only [sx, fx, implies_true, evBuildSlice, fillE, fillA, Nat.reduceMul, Nat.reducePow, AV.isCell, Nat.reduceSub, here, plain, laid, Nat.reduceBEq, evOp, avOf, avCell, strOf, UInt8.reduceToNat, evBin, evInt, evStr, evUn, Nat.reduceEqDiff, Nat.reduceLT, evResults, evResultsL, reduceCtorEq, AV.isUndef, AV.cells, Nat.reduceAdd, Heap.store, Nat.reduceLeDiff, rK, p1r, b1r, htz, hdr, hln0, hln, hcl]
      exact hQ2 n hl g _ (hRP _) (hgF _ _)
end Go.Proofs.T
