import Derived.Test.YtakelljpblahbaaS11
set_option linter.unusedVariables false
set_option linter.unusedSimpArgs false
set_option maxRecDepth 100000
namespace Go.Proofs.T
open Go.Ev

theorem CPost.trans {H H1 H2 : Heap} {F : Nat → Prop} {cx : Nat} {sz h m h' m' : Int} {L L' : Stored} (h1 : ∃ F1, Cache H1 F1 cx sz h m L ∧ (∀ b, F1 b → F b ∨ H.blk b = none) ∧ Off F H H1 ∧ CPost H1 F1 cx sz h' m' L' H2) : CPost H F cx sz h' m' L' H2 := by
  obtain ⟨F1, _, q1, q2, F2, p0, p1, p2, p3⟩ := h1
  refine ⟨F2, p0, fun b hb => ?_, fun b x hb hx => p2 b x (fun e => ?_) (q2 b x hb hx), p3⟩
  · rcases p1 b hb with h | h
    · exact q1 b h
    · by_cases hF : F b
      · exact .inl hF
      · right
        cases hx : H.blk b with
        | none => rfl
        | some x => rw [q2 b x hF hx] at h; cases h
  · rcases q1 b e with h | h
    · exact hb h
    · rw [hx] at h; cases h

theorem f22_ok {H : Heap} {F : Nat → Prop} {cx : Nat} {sz h m : Int} {L : Stored} (hFr : Free H) (hC : Cache H F cx sz h m L) (Q : AV → Heap → Prop) (hQ : ∀ r H', CPost H F cx sz h m [] H' → Q r H') : WF Try.prog 22 [.ptr cx 0 0 0] H Q := by
  obtain ⟨Fg, cm, kv, M, cl, hC, hF⟩ := hC
  refine WF_body Try.func22 (by kernel_rfl) rfl Try.ntmps22 (by rw [Try.results22]) (of_decide_eq_true (by kernel_rfl)) ?_
  simp (maxSteps := 1000000) only [sx, fx, implies_true, evBuildSlice, fillE, fillA, Nat.reduceMul, Nat.reducePow, AV.isCell, Nat.reduceSub, here, plain, laid, Nat.reduceBEq, evOp, avOf, avCell, strOf, UInt8.reduceToNat, evBin, evInt, evStr, evUn, Nat.reduceEqDiff, Nat.reduceLT, evResults, evResultsL, reduceCtorEq, AV.isUndef, AV.cells, Nat.reduceAdd, Heap.store, Nat.reduceLeDiff]
  refine callStep (f23_row _ hC.row _ ?_)
  have hrow := hC.row
  simp only [cacheRow] at hrow
  have hclr : evBuiltin Try.prog H .clear #[61] [.map cm] = some (.tuple [], H.set cm (.map [] cl)) := by simp [evBuiltin, evClear, und61, hC.map]
  have row1 : ∀ x, (H.set cm x).blk cx = some (.row 63 5 [[.int .i64 sz, .map cm, kv, .int .i64 h, .int .i64 m]] 0 0) := fun x => by rw [Heap.set_other _ _ _ hC.ne]; exact hrow
  simp (maxSteps := 1000000) only [sx, fx, implies_true, evBuildSlice, fillE, fillA, Nat.reduceMul, Nat.reducePow, AV.isCell, Nat.reduceSub, here, plain, laid, Nat.reduceBEq, evOp, avOf, avCell, strOf, UInt8.reduceToNat, evBin, evInt, evStr, evUn, Nat.reduceEqDiff, Nat.reduceLT, evResults, evResultsL, reduceCtorEq, AV.isUndef, AV.cells, Nat.reduceAdd, Heap.store, Nat.reduceLeDiff, hC.pos, hrow, hclr, row1]
  have hoff : Off (fun b => b = cx ∨ b = cm ∨ blkOf kv = some b) H ((H.set cm (.map [] cl)).set cx (cacheRow sz cm .nilslice h m)) :=
    (Off.set (B := fun b => b = cx ∨ b = cm ∨ blkOf kv = some b) (.inr (.inl rfl)) _).trans (Off.set (B := fun b => b = cx ∨ b = cm ∨ blkOf kv = some b) (.inl rfl) _)
  have hF1 := hFr.set (hFr.lt hC.map) (.map [] cl)
  have hF2 := hF1.set (hF1.lt (row1 _)) (cacheRow sz cm .nilslice h m)
  exact hQ _ _ (CPost.of_step (Fn := fun _ => False) hF (hC.step (M' := []) (L' := []) (fun _ => False) hoff set_same (by rw [Heap.set_other _ _ _ (Ne.symm hC.ne)]; exact set_same)
    (keys' := .inl ⟨rfl, rfl⟩) (kx' := fun b hb => by cases hb) (ents' := fun k => rfl) (fun b hb => False.elim hb) (by simp) (by simp) (by simp)) (fun b hb => False.elim hb) (fun b hb => by cases hb) hoff hF2)

/-- What is stored after Put. -/
def putL (sz : Int) (key : List Nat) (n : Int) (L : Stored) : Stored :=
  if ((without key L ++ [(key, n)]).length : Int) > sz then (without key L ++ [(key, n)]).tail else without key L ++ [(key, n)]

theorem without_head {e : List Nat × Int} {L : Stored} (h : ((e :: L).map Prod.fst).Nodup) : without e.1 (e :: L) = L := by
  simp only [List.map_cons, List.nodup_cons] at h
  have h1 : without e.1 (e :: L) = without e.1 L := by simp [without, keep]
  rw [h1]
  refine List.filter_eq_self.2 fun x hx => ?_
  have : x.1 ≠ e.1 := fun q => h.1 (by rw [← q]; exact List.mem_map_of_mem hx)
  simp [keep, this]

theorem f8_empty {H : Heap} {F : Nat → Prop} {cx : Nat} {sz h m : Int} {L : Stored} {g : AV} (n : Int) (hFr : Free H) (hC : Cache H F cx sz h m L) (hg : Holds H 5 g [vi 2 n]) (Q : AV → Heap → Prop) (hQ : ∀ H', Up H H' → Free H' → Q (.int .i64 2) H') : WF Try.prog 8 [.ptr cx 0 0 0, .str [], .agg (ptN g n)] H Q := by
  obtain ⟨Fg, cm, kv, M, cl, hC, hF⟩ := hC
  refine WF_body Try.func8 (by kernel_rfl) rfl Try.ntmps8 (by rw [Try.results8]) (of_decide_eq_true (by kernel_rfl)) ?_
  have hln : (ptN g n).length = 17 := rfl
  simp (maxSteps := 1000000) only [sx, fx, implies_true, evBuildSlice, fillE, fillA, Nat.reduceMul, Nat.reducePow, AV.isCell, Nat.reduceSub, here, plain, laid, Nat.reduceBEq, evOp, avOf, avCell, strOf, UInt8.reduceToNat, evBin, evInt, evStr, evUn, Nat.reduceEqDiff, Nat.reduceLT, evResults, evResultsL, reduceCtorEq, AV.isUndef, AV.cells, Nat.reduceAdd, Heap.store, Nat.reduceLeDiff, hFr.at, hFr.hp, hln]
  refine callStep (f23_row _ (hC.up (hFr.hpU _)).row _ ?_)
  simp (maxSteps := 1000000) only [sx, fx, implies_true, evBuildSlice, fillE, fillA, Nat.reduceMul, Nat.reducePow, AV.isCell, Nat.reduceSub, here, plain, laid, Nat.reduceBEq, evOp, avOf, avCell, strOf, UInt8.reduceToNat, evBin, evInt, evStr, evUn, Nat.reduceEqDiff, Nat.reduceLT, evResults, evResultsL, reduceCtorEq, AV.isUndef, AV.cells, Nat.reduceAdd, Heap.store, Nat.reduceLeDiff, hC.pos, BEq.rfl]
  exact hQ _ (hFr.hpU _) (hFr.hpF _)

theorem f8_ok {H : Heap} {F : Nat → Prop} {cx : Nat} {sz h m : Int} {L : Stored} {g : AV} (key : List Nat) (n : Int) (hkey : key ≠ []) (hFr : Free H) (hC : Cache H F cx sz h m L) (hn : L.length ≤ 98) (hg : Holds H 5 g [vi 2 n]) (Q : AV → Heap → Prop)
    (hQ : ∀ H', CPost H F cx sz h m (putL sz key n L) H' → Q (.int .i64 0) H') : WF Try.prog 8 [.ptr cx 0 0 0, .str key, .agg (ptN g n)] H Q := by
  obtain ⟨Fg, cm, kv, M, cl, hC, hF⟩ := hC
  refine WF_body Try.func8 (by kernel_rfl) rfl Try.ntmps8 (by rw [Try.results8]) (of_decide_eq_true (by kernel_rfl)) ?_
  have hgc := holds_isCell hg
  have hln : (ptN g n).length = 17 := rfl
  have htk : (ptN g n).take 17 = ptN g n := rfl
  have hkb : (key == []) = false := by cases key with
    | nil => exact absurd rfl hkey
    | cons a l => rfl
  simp (maxSteps := 1000000) only [sx, fx, implies_true, evBuildSlice, fillE, fillA, Nat.reduceMul, Nat.reducePow, AV.isCell, Nat.reduceSub, here, plain, laid, Nat.reduceBEq, evOp, avOf, avCell, strOf, UInt8.reduceToNat, evBin, evInt, evStr, evUn, Nat.reduceEqDiff, Nat.reduceLT, evResults, evResultsL, reduceCtorEq, AV.isUndef, AV.cells, Nat.reduceAdd, Heap.store, Nat.reduceLeDiff, hFr.at, hFr.hp, hln]
  refine callStep (f23_row _ (hC.up (hFr.hpU _)).row _ ?_)
  simp (maxSteps := 1000000) only [sx, fx, implies_true, evBuildSlice, fillE, fillA, Nat.reduceMul, Nat.reducePow, AV.isCell, Nat.reduceSub, here, plain, laid, Nat.reduceBEq, evOp, avOf, avCell, strOf, UInt8.reduceToNat, evBin, evInt, evStr, evUn, Nat.reduceEqDiff, Nat.reduceLT, evResults, evResultsL, reduceCtorEq, AV.isUndef, AV.cells, Nat.reduceAdd, Heap.store, Nat.reduceLeDiff, hC.pos, hkb]
  have hCs := hC.up (hFr.hpU [Blk.row 37 17 [ptN g n] 0 0])
  have rows := hCs.row
  have c0 : (HP H [Blk.row 37 17 [ptN g n] 0 0]).blk H.next = some (.row 37 17 [ptN g n] 0 0) := by rw [hp_blk0]; rfl
  simp only [cacheRow] at rows
  refine drawStep [6] [0, 1, 2, 3, 4, 5, 6, 7] _ rfl (by kernel_rfl) ?_
  simp (maxSteps := 1000000) only [sx, fx, implies_true, evBuildSlice, fillE, fillA, Nat.reduceMul, Nat.reducePow, AV.isCell, Nat.reduceSub, here, plain, laid, Nat.reduceBEq, evOp, avOf, avCell, strOf, UInt8.reduceToNat, evBin, evInt, evStr, evUn, Nat.reduceEqDiff, Nat.reduceLT, evResults, evResultsL, reduceCtorEq, AV.isUndef, AV.cells, Nat.reduceAdd, Heap.store, Nat.reduceLeDiff, rows, c0, hln, htk]
  refine callStep_flag ?_
  refine f24_ok (g := g) (L := [vi 2 n]) n (IntKind.i64.wrap (n.tdiv 2)) n (n.tmod 2 == 1) _ (hFr.hpF _) (hg.up (hFr.hpU _)) (ViL.one n) (by simp) _ fun u H1 hU1 hF1 hO1 => ⟨hU1, ?_⟩
  have hU : Up H H1 := (hFr.hpU _).trans hU1
  have hC1 := hC.up hU
  have hO : Own H H1 60 5 u [vi 2 n] := hO1.base (hFr.hpU _)
  -- the map after the update
  obtain ⟨M', cl', hupd, hvl, hnod⟩ : ∃ M' cl', evMapUpdate Try.prog H1 61 (.map cm) (.str key) (.agg (ptN u n)) = some (H1.set cm (.map (ent M') cl')) ∧ (∀ k, vl k M' = if k = key then some (.agg (ptN u n)) else vl k M) ∧ (M'.map Prod.fst).Nodup := by
    cases hf : fk key M 0 with
    | none =>
      refine ⟨M ++ [(key, .agg (ptN u n), cl)], cl + 1, ?_, fun k => vl_snoc k (fk_none.1 hf), nodup_snoc hC.nod (fk_none.1 hf)⟩
      simp [evMapUpdate, und61, str9, hC1.map, findK_ent, hf, ent_snoc]
    | some r =>
      obtain ⟨i, x, st⟩ := r
      refine ⟨M.set i (key, .agg (ptN u n), st), cl, ?_, fun k => vl_set k hf, nodup_set hC.nod hf⟩
      simp [evMapUpdate, und61, str9, hC1.map, findK_ent, hf, ent_set]
  simp only [ptN] at hupd
  simp (maxSteps := 1000000) only [sx, fx, implies_true, evBuildSlice, fillE, fillA, Nat.reduceMul, Nat.reducePow, AV.isCell, Nat.reduceSub, here, plain, laid, Nat.reduceBEq, evOp, avOf, avCell, strOf, UInt8.reduceToNat, evBin, evInt, evStr, evUn, Nat.reduceEqDiff, Nat.reduceLT, evResults, evResultsL, reduceCtorEq, AV.isUndef, AV.cells, Nat.reduceAdd, Heap.store, Nat.reduceLeDiff, hupd]
  have hkx : blkOf kv ≠ some cx := fun e => (hC.kx _ e).1 rfl
  have hkm : blkOf kv ≠ some cm := fun e => (hC.kx _ e).2.1 rfl
  have hoff1 : Off (fun b => b = cm) H1 (H1.set cm (.map (ent M') cl')) := Off.set (B := fun b => b = cm) rfl _
  have rG : (H1.set cm (.map (ent M') cl')).blk cx = some (cacheRow sz cm kv h m) := by rw [Heap.set_other _ _ _ hC.ne]; exact hC1.row
  have hFG : Free (H1.set cm (.map (ent M') cl')) := hF1.set (hF1.lt hC1.map) _
  refine callStep (f25_ok key _ hFG rG (hC1.keys.off hoff1 (fun b hb => (hC.kx b hb).2.1)) (by simp; omega) hkx _ fun kv2 H2 r2 row2 keys2 hoff2 hF2 hbl2 => ?_)
  have hoffA : Off (fun b => b = cx ∨ b = cm ∨ blkOf kv = some b) H H2 := ((Off.of_up hU).trans (hoff1.mono fun b hb => .inr (.inl hb))).trans (hoff2.mono fun b hb => hb.elim .inl (fun q => .inr (.inr q)))
  have map2 : H2.blk cm = some (.map (ent M') cl') := hoff2 _ _ (fun e => e.elim (Ne.symm hC.ne) hkm) set_same
  have hB : ∀ b, (b = cx ∨ b = cm ∨ blkOf kv = some b) → H.blk b ≠ none := fun b hb => by
    rcases hb with rfl | rfl | hb
    · rw [hC.row]; simp
    · rw [hC.map]; simp
    · exact hC.keys.dom b hb
  have hoff12 : Off (fun b => b = cx ∨ b = cm ∨ blkOf kv = some b) H1 H2 := (hoff1.mono fun b hb => .inr (.inl hb)).trans (hoff2.mono fun b hb => hb.elim .inl (fun q => .inr (.inr q)))
  have hO2 : Own H H2 60 5 u [vi 2 n] := hO.off hoff12 hB
  have hfr2 : ∀ b, blkOf kv2 = some b → blkOf kv = some b ∨ H1.blk b = none := fun b hb => by
    rcases hbl2 b hb with q | q
    · exact .inl q
    · by_cases hbm : b = cm
      · exfalso; rw [hbm, set_same] at q; cases q
      · rw [Heap.set_other _ _ _ hbm] at q; exact .inr q
  have hfrH : ∀ b, blkOf kv2 = some b → blkOf kv = some b ∨ H.blk b = none := fun b hb => by
    rcases hfr2 b hb with q | q
    · exact .inl q
    · right
      cases hz : H.blk b with
      | none => rfl
      | some y => rw [hU _ _ hz] at q; cases q
  have hub : ∀ b, blkOf u = some b → H.blk b = none ∧ H1.blk b ≠ none ∧ H2.blk b ≠ none := fun b hb => by
    obtain ⟨_, ⟨_, rfl | rfl⟩ | ⟨b', g', w', rfl, q2, q3, q4⟩ | ⟨b', g', t', gen, w', rfl, q2, q3, q4⟩⟩ := hO
    · cases hb
    · cases hb
    · cases hb
      refine ⟨q4, by rw [q2]; simp, ?_⟩
      rw [hoff12 _ _ (fun e => hB _ e q4) q2]; simp
    · cases hb
      refine ⟨q4, by rw [q2]; simp, ?_⟩
      rw [hoff12 _ _ (fun e => hB _ e q4) q2]; simp
  have hP1 : CPost H F cx sz h m (without key L ++ [(key, n)]) H2 := by
    refine CPost.of_step (Fn := fun b => blkOf u = some b) hF (hC.step (fun b => blkOf u = some b) hoffA row2 map2 (keys' := by rw [List.map_append, without_fst]; exact keys2) (kx' := hfrH) (ents' := fun k => ?_) (fun b hb => ⟨(hub b hb).1, (hub b hb).2.2, fun e => ?_⟩) hnod (push_nodup hC.nodL) ?_) (fun b hb => (hub b hb).1) hfrH hoffA hF2
    · rw [lk_push, hvl]
      by_cases hk : k = key
      · simp only [hk, if_true]
        exact ⟨u, rfl, .inr ⟨hO2.holds, fun b hb => hb⟩⟩
      · simp only [hk, if_false]
        have h1 := hC.ents k
        cases hx : lk k L with
        | none => rw [hx] at h1; exact h1
        | some n' => rw [hx] at h1; obtain ⟨g', p1, _, _⟩ := h1; exact ⟨g', p1, .inl ⟨rfl, p1⟩⟩
    · rcases hfr2 b e with q | q
      · exact hC.keys.dom b q (hub b hb).1
      · exact (hub b hb).2.1 q
    · have := without_len key L; simp; omega
  simp only [cacheRow] at row2
  have hl1 : (L.map Prod.fst).length = L.length := by simp
  have hkl : ((L.map Prod.fst).filter (keep key) ++ [key]).length = (without key L ++ [(key, n)]).length := by
    rw [← without_fst]; simp
  have hl2 := keys2.holds.lenAt und51
  rw [List.length_map, hkl] at hl2
  simp (maxSteps := 1000000) only [sx, fx, implies_true, evBuildSlice, fillE, fillA, Nat.reduceMul, Nat.reducePow, AV.isCell, Nat.reduceSub, here, plain, laid, Nat.reduceBEq, evOp, avOf, avCell, strOf, UInt8.reduceToNat, evBin, evInt, evStr, evUn, Nat.reduceEqDiff, Nat.reduceLT, evResults, evResultsL, reduceCtorEq, AV.isUndef, AV.cells, Nat.reduceAdd, Heap.store, Nat.reduceLeDiff]
  refine drawStep [] [0, 1, 2, 3, 4, 5, 6, 7, 8, 9] _ rfl (by kernel_rfl) ?_
  by_cases hbig : ((without key L ++ [(key, n)]).length : Int) > sz
  · simp (maxSteps := 1000000) only [sx, fx, implies_true, evBuildSlice, fillE, fillA, Nat.reduceMul, Nat.reducePow, AV.isCell, Nat.reduceSub, here, plain, laid, Nat.reduceBEq, evOp, avOf, avCell, strOf, UInt8.reduceToNat, evBin, evInt, evStr, evUn, Nat.reduceEqDiff, Nat.reduceLT, evResults, evResultsL, reduceCtorEq, AV.isUndef, AV.cells, Nat.reduceAdd, Heap.store, Nat.reduceLeDiff, row2, hl2, hbig]
    obtain ⟨F1, hCa, q1, q2, q3⟩ := hP1
    obtain ⟨e0, L0, hL0⟩ : ∃ e0 L0, without key L ++ [(key, n)] = e0 :: L0 := by
      cases hx : without key L ++ [(key, n)] with
      | nil => simp at hx
      | cons a b => exact ⟨a, b, rfl⟩
    have hK0 : (((L.map Prod.fst).filter (keep key) ++ [key]).map kcell)[0]? = some [.str e0.1] := by
      have : (L.map Prod.fst).filter (keep key) ++ [key] = (e0 :: L0).map Prod.fst := by rw [← hL0, List.map_append, without_fst]; rfl
      rw [this]; rfl
    obtain ⟨p, hp, hload, _⟩ := keys2.holds.index und51 sz9 .i64 hK0
    have hp' : evIndexAddr Try.prog H2 51 kv2 (.int .i64 0) = some p := hp
    simp (maxSteps := 1000000) only [sx, fx, implies_true, evBuildSlice, fillE, fillA, Nat.reduceMul, Nat.reducePow, AV.isCell, Nat.reduceSub, here, plain, laid, Nat.reduceBEq, evOp, avOf, avCell, strOf, UInt8.reduceToNat, evBin, evInt, evStr, evUn, Nat.reduceEqDiff, Nat.reduceLT, evResults, evResultsL, reduceCtorEq, AV.isUndef, AV.cells, Nat.reduceAdd, Heap.store, Nat.reduceLeDiff, row2, hp', hload _ (Up.refl _)]
    have hnd : ((e0 :: L0).map Prod.fst).Nodup := hL0 ▸ push_nodup hC.nodL
    refine callStep (f18_ok e0.1 hF2 hCa _ (fun hno => ?_) (fun n' hn' H3 hP3 => ?_))
    · exfalso
      rw [hL0, lk_cons] at hno
      simp at hno
    · simp (maxSteps := 1000000) only [sx, fx, implies_true, evBuildSlice, fillE, fillA, Nat.reduceMul, Nat.reducePow, AV.isCell, Nat.reduceSub, here, plain, laid, Nat.reduceBEq, evOp, avOf, avCell, strOf, UInt8.reduceToNat, evBin, evInt, evStr, evUn, Nat.reduceEqDiff, Nat.reduceLT, evResults, evResultsL, reduceCtorEq, AV.isUndef, AV.cells, Nat.reduceAdd, Heap.store, Nat.reduceLeDiff]
      refine hQ _ ?_
      have hput : putL sz key n L = without e0.1 (without key L ++ [(key, n)]) := by
        rw [putL, if_pos hbig, hL0, without_head hnd]; rfl
      rw [hput]
      exact CPost.trans ⟨F1, hCa, q1, q2, hP3⟩
  · simp (maxSteps := 1000000) only [sx, fx, implies_true, evBuildSlice, fillE, fillA, Nat.reduceMul, Nat.reducePow, AV.isCell, Nat.reduceSub, here, plain, laid, Nat.reduceBEq, evOp, avOf, avCell, strOf, UInt8.reduceToNat, evBin, evInt, evStr, evUn, Nat.reduceEqDiff, Nat.reduceLT, evResults, evResultsL, reduceCtorEq, AV.isUndef, AV.cells, Nat.reduceAdd, Heap.store, Nat.reduceLeDiff, row2, hl2, hbig]
    refine hQ _ ?_
    rw [putL, if_neg hbig]
    exact hP1
end Go.Proofs.T
