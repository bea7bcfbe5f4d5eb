import Derived.Test.YtakelljpblahbaaS8
set_option linter.unusedVariables false
set_option linter.unusedSimpArgs false
set_option maxRecDepth 100000
namespace Go.Proofs.T
open Go.Ev

theorem ptN_inj {g g' : AV} {n : Int} (h : AV.agg (ptN g n) = AV.agg (ptN g' n)) : g = g' := by
  simp only [ptN, pt, AV.agg.injEq, List.cons.injEq] at h
  exact h.1

/-- What a call on a cache does, told by what changes. -/
theorem CInv.step {H H' : Heap} {Fg : Nat → Prop} {cx cm : Nat} {kv kv' : AV} {sz h m h' m' : Int} {M M' : Ents} {cl cl' : Nat} {L L' : Stored} (hC : CInv H Fg cx cm kv sz h m M cl L) (Fn : Nat → Prop)
    (hoff : Off (fun b => b = cx ∨ b = cm ∨ blkOf kv = some b) H H') (row' : H'.blk cx = some (cacheRow sz cm kv' h' m')) (map' : H'.blk cm = some (.map (ent M') cl')) (keys' : Keys H' kv' (L'.map Prod.fst))
    (kx' : ∀ b, blkOf kv' = some b → blkOf kv = some b ∨ H.blk b = none)
    (ents' : ∀ key, match lk key L' with
      | some n => ∃ g, vl key M' = some (.agg (ptN g n)) ∧ ((lk key L = some n ∧ vl key M = some (.agg (ptN g n))) ∨ (Holds H' 5 g [vi 2 n] ∧ ∀ b, blkOf g = some b → Fn b))
      | none => vl key M' = none)
    (hFn : ∀ b, Fn b → H.blk b = none ∧ H'.blk b ≠ none ∧ blkOf kv' ≠ some b) (nod' : (M'.map Prod.fst).Nodup) (nodL' : (L'.map Prod.fst).Nodup) (len' : L'.length ≤ 100) : CInv H' (fun b => Fg b ∨ Fn b) cx cm kv' sz h' m' M' cl' L' := by
  have hFg : ∀ b, Fg b → ¬ (b = cx ∨ b = cm ∨ blkOf kv = some b) := fun b hb hc => by
    rcases hc with rfl | rfl | hc
    · exact hC.gx hb
    · exact hC.gm hb
    · exact (hC.kx b hc).2.2 hb
  refine ⟨row', map', keys', fun key => ?_, nod', nodL', hC.ne, ?_, ?_, fun b hb => ?_, fun b hb => ?_, hC.size, len'⟩
  · have h1 := ents' key
    have h2 := hC.ents key
    cases hn : lk key L' with
    | some n =>
      rw [hn] at h1
      obtain ⟨g, q1, ⟨q2, q3⟩ | ⟨q2, q3⟩⟩ := h1
      · rw [q2] at h2
        obtain ⟨g', p1, p2, p3⟩ := h2
        rw [q3, Option.some.injEq] at p1
        obtain rfl := ptN_inj p1
        exact ⟨g, q1, p2.off hoff (fun b hb => hFg b (p3 b hb)), fun b hb => .inl (p3 b hb)⟩
      · exact ⟨g, q1, q2, fun b hb => .inr (q3 b hb)⟩
    | none => rw [hn] at h1; exact h1
  · rintro (hb | hb)
    · exact hC.gx hb
    · have := (hFn _ hb).1; rw [hC.row] at this; cases this
  · rintro (hb | hb)
    · exact hC.gm hb
    · have := (hFn _ hb).1; rw [hC.map] at this; cases this
  · rcases kx' b hb with h | h
    · obtain ⟨q1, q2, q3⟩ := hC.kx b h
      refine ⟨q1, q2, ?_⟩
      rintro (hg | hg)
      · exact q3 hg
      · exact (hFn _ hg).2.2 hb
    · refine ⟨fun e => ?_, fun e => ?_, ?_⟩
      · rw [e, hC.row] at h; cases h
      · rw [e, hC.map] at h; cases h
      · rintro (hg | hg)
        · exact hC.dom b hg h
        · exact (hFn _ hg).2.2 hb
  · rcases hb with hb | hb
    · cases hx : H.blk b with
      | none => exact absurd hx (hC.dom b hb)
      | some x => rw [hoff _ _ (hFg b hb) hx]; simp
    · exact (hFn _ hb).2.1

/-- What a call on a cache leaves; the blocks of X are not the cache's. -/
def CPostX (X : Nat → Prop) (H : Heap) (F : Nat → Prop) (cx : Nat) (sz h m : Int) (L : Stored) (H' : Heap) : Prop :=
  ∃ F', Cache H' F' cx sz h m L ∧ (∀ b, F' b → F b ∨ H.blk b = none) ∧ Off F H H' ∧ Free H' ∧ ∀ b, X b → ¬ F' b
/-- What a call on a cache leaves. -/
def CPost (H : Heap) (F : Nat → Prop) (cx : Nat) (sz h m : Int) (L : Stored) (H' : Heap) : Prop :=
  ∃ F', Cache H' F' cx sz h m L ∧ (∀ b, F' b → F b ∨ H.blk b = none) ∧ Off F H H' ∧ Free H'

theorem CPostX.of_step {H H' : Heap} {X F Fg Fn : Nat → Prop} {cx cm : Nat} {kv kv' : AV} {sz h' m' : Int} {M' : Ents} {cl' : Nat} {L' : Stored} (hF : ∀ b, F b ↔ (b = cx ∨ b = cm ∨ blkOf kv = some b ∨ Fg b))
    (hC : CInv H' (fun b => Fg b ∨ Fn b) cx cm kv' sz h' m' M' cl' L') (hFn : ∀ b, Fn b → H.blk b = none) (kx' : ∀ b, blkOf kv' = some b → blkOf kv = some b ∨ H.blk b = none)
    (hoff : Off (fun b => b = cx ∨ b = cm ∨ blkOf kv = some b) H H') (hFr : Free H') (hX : ∀ b, X b → ¬ (b = cx ∨ b = cm ∨ blkOf kv' = some b ∨ (Fg b ∨ Fn b))) : CPostX X H F cx sz h' m' L' H' := by
  refine ⟨fun b => b = cx ∨ b = cm ∨ blkOf kv' = some b ∨ (Fg b ∨ Fn b), ⟨_, cm, kv', M', cl', hC, fun b => Iff.rfl⟩, fun b hb => ?_, hoff.mono fun b hb => ?_, hFr, hX⟩
  · rcases hb with h | h | h | h | h
    · exact .inl ((hF b).2 (.inl h))
    · exact .inl ((hF b).2 (.inr (.inl h)))
    · rcases kx' b h with h | h
      · exact .inl ((hF b).2 (.inr (.inr (.inl h))))
      · exact .inr h
    · exact .inl ((hF b).2 (.inr (.inr (.inr h))))
    · exact .inr (hFn b h)
  · rcases hb with h | h | h
    · exact (hF b).2 (.inl h)
    · exact (hF b).2 (.inr (.inl h))
    · exact (hF b).2 (.inr (.inr (.inl h)))

theorem CPost.of_step {H H' : Heap} {F Fg Fn : Nat → Prop} {cx cm : Nat} {kv kv' : AV} {sz h' m' : Int} {M' : Ents} {cl' : Nat} {L' : Stored} (hF : ∀ b, F b ↔ (b = cx ∨ b = cm ∨ blkOf kv = some b ∨ Fg b))
    (hC : CInv H' (fun b => Fg b ∨ Fn b) cx cm kv' sz h' m' M' cl' L') (hFn : ∀ b, Fn b → H.blk b = none) (kx' : ∀ b, blkOf kv' = some b → blkOf kv = some b ∨ H.blk b = none)
    (hoff : Off (fun b => b = cx ∨ b = cm ∨ blkOf kv = some b) H H') (hFr : Free H') : CPost H F cx sz h' m' L' H' := by
  refine ⟨fun b => b = cx ∨ b = cm ∨ blkOf kv' = some b ∨ (Fg b ∨ Fn b), ⟨_, cm, kv', M', cl', hC, fun b => Iff.rfl⟩, fun b hb => ?_, hoff.mono fun b hb => ?_, hFr⟩
  · rcases hb with h | h | h | h | h
    · exact .inl ((hF b).2 (.inl h))
    · exact .inl ((hF b).2 (.inr (.inl h)))
    · rcases kx' b h with h | h
      · exact .inl ((hF b).2 (.inr (.inr (.inl h))))
      · exact .inr h
    · exact .inl ((hF b).2 (.inr (.inr (.inr h))))
    · exact .inr (hFn b h)
  · rcases hb with h | h | h
    · exact (hF b).2 (.inl h)
    · exact (hF b).2 (.inr (.inl h))
    · exact (hF b).2 (.inr (.inr (.inl h)))

theorem CPost.up {H H' : Heap} {F : Nat → Prop} {cx : Nat} {sz h m : Int} {L : Stored} (hC : Cache H F cx sz h m L) (hU : Up H H') (hF : Free H') : CPost H F cx sz h m L H' :=
  ⟨F, hC.up hU, fun b hb => .inl hb, Off.of_up hU, hF⟩

theorem ev_delete {G : Heap} {cm i n cl : Nat} {M : Ents} {key : List Nat} {x : AV} (hm : G.blk cm = some (.map (ent M) cl)) (hf : fk key M 0 = some (i, x, n)) :
    evBuiltin Try.prog G .delete #[61, 9] [.map cm, .str key] = some (.tuple [], G.set cm (.map (ent (M.eraseIdx i)) cl)) := by
  simp [evBuiltin, evDelete, und61, str9, hm, findK_ent, hf, ent_erase]

theorem lk_some_of {H : Heap} {Fg : Nat → Prop} {cx cm : Nat} {kv : AV} {sz h m : Int} {M : Ents} {cl : Nat} {L : Stored} (hC : CInv H Fg cx cm kv sz h m M cl L) (key : List Nat) :
    (lk key L = none ∧ fk key M 0 = none) ∨ ∃ n g i st, lk key L = some n ∧ fk key M 0 = some (i, .agg (ptN g n), st) ∧ Holds H 5 g [vi 2 n] ∧ ∀ b, blkOf g = some b → Fg b := by
  have h1 := hC.ents key
  split at h1
  · rename_i n hn
    obtain ⟨g, q1, q2, q3⟩ := h1
    cases hf : fk key M 0 with
    | none => rw [vl, hf] at q1; cases q1
    | some r =>
      obtain ⟨i, x, st⟩ := r
      rw [vl, hf] at q1
      simp only [Option.map_some, Option.some.injEq] at q1
      subst q1
      exact .inr ⟨n, g, i, st, hn, rfl, q2, q3⟩
  · rename_i hn
    exact .inl ⟨hn, fk_none.2 h1⟩

theorem f18_ok {H : Heap} {F : Nat → Prop} {cx : Nat} {sz h m : Int} {L : Stored} (key : List Nat) (hFr : Free H) (hC : Cache H F cx sz h m L) (Q : AV → Heap → Prop)
    (hQ1 : lk key L = none → ∀ H', Up H H' → Free H' → Q (.bool false) H') (hQ2 : ∀ n, lk key L = some n → ∀ H', CPost H F cx sz h m (Go.Proofs.T.without key L) H' → Q (.bool true) H') : WF Try.prog 18 [.ptr cx 0 0 0, .str key] H Q := by
  obtain ⟨Fg, cm, kv, M, cl, hC, hF⟩ := hC
  refine WF_body Try.func18 (by kernel_rfl) rfl Try.ntmps18 (by rw [Try.results18]) (of_decide_eq_true (by kernel_rfl)) ?_
  simp (maxSteps := 1000000) only [sx, fx, implies_true, evBuildSlice, fillE, fillA, Nat.reduceMul, Nat.reducePow, AV.isCell, Nat.reduceSub, here, plain, laid, Nat.reduceBEq, evOp, avOf, avCell, strOf, UInt8.reduceToNat, evBin, evInt, evStr, evUn, Nat.reduceEqDiff, Nat.reduceLT, evResults, evResultsL, reduceCtorEq, AV.isUndef, AV.cells, Nat.reduceAdd, Heap.store, Nat.reduceLeDiff, hFr.at, hFr.hp]
  have hold : ∀ xs, CInv (HP H xs) Fg cx cm kv sz h m M cl L := fun xs => hC.up (hFr.hpU xs)
  refine callStep (f23_row _ (hold _).row _ ?_)
  have hrow := fun xs => (hold xs).row
  simp only [cacheRow] at hrow
  have hmap := fun xs => (hold xs).map
  have c0 : ∀ xs x, (HP H (x :: xs)).blk H.next = some x := fun xs x => by rw [hp_blk0]; rfl
  rcases lk_some_of hC key with ⟨hl, hf⟩ | ⟨n, g, i, st, hl, hf, hg, hgb⟩
  · simp (maxSteps := 1000000) only [sx, fx, implies_true, evBuildSlice, fillE, fillA, Nat.reduceMul, Nat.reducePow, AV.isCell, Nat.reduceSub, here, plain, laid, Nat.reduceBEq, evOp, avOf, avCell, strOf, UInt8.reduceToNat, evBin, evInt, evStr, evUn, Nat.reduceEqDiff, Nat.reduceLT, evResults, evResultsL, reduceCtorEq, AV.isUndef, AV.cells, Nat.reduceAdd, Heap.store, Nat.reduceLeDiff, hC.pos]
    refine drawStep [] [0, 1, 2, 3, 4, 5, 6, 7, 8, 9, 10, 11] _ rfl (by kernel_rfl) ?_
    simp (maxSteps := 1000000) only [sx, fx, implies_true, evBuildSlice, fillE, fillA, Nat.reduceMul, Nat.reducePow, AV.isCell, Nat.reduceSub, here, plain, laid, Nat.reduceBEq, evOp, avOf, avCell, strOf, UInt8.reduceToNat, evBin, evInt, evStr, evUn, Nat.reduceEqDiff, Nat.reduceLT, evResults, evResultsL, reduceCtorEq, AV.isUndef, AV.cells, Nat.reduceAdd, Heap.store, Nat.reduceLeDiff, hrow, c0, evLookup, str9, hmap, findK_ent, hf]
    exact hQ1 hl _ (hFr.hpU _) (hFr.hpF _)
  · have hgc := holds_isCell hg
    have htk : (ptN g n).take 17 = ptN g n := rfl
    have hln : (ptN g n).length = 17 := rfl
    have hcl : (ptN g n).all AV.isCell = true := pt_cells hgc
    simp (maxSteps := 1000000) only [sx, fx, implies_true, evBuildSlice, fillE, fillA, Nat.reduceMul, Nat.reducePow, AV.isCell, Nat.reduceSub, here, plain, laid, Nat.reduceBEq, evOp, avOf, avCell, strOf, UInt8.reduceToNat, evBin, evInt, evStr, evUn, Nat.reduceEqDiff, Nat.reduceLT, evResults, evResultsL, reduceCtorEq, AV.isUndef, AV.cells, Nat.reduceAdd, Heap.store, Nat.reduceLeDiff, hC.pos]
    refine drawStep [] [0, 1, 2, 3, 4, 5, 6, 7, 8, 9, 10, 11] _ rfl (by kernel_rfl) ?_
    simp (maxSteps := 1000000) only [sx, fx, implies_true, evBuildSlice, fillE, fillA, Nat.reduceMul, Nat.reducePow, AV.isCell, Nat.reduceSub, here, plain, laid, Nat.reduceBEq, evOp, avOf, avCell, strOf, UInt8.reduceToNat, evBin, evInt, evStr, evUn, Nat.reduceEqDiff, Nat.reduceLT, evResults, evResultsL, reduceCtorEq, AV.isUndef, AV.cells, Nat.reduceAdd, Heap.store, Nat.reduceLeDiff, hrow, c0, evLookup, str9, hmap, findK_ent, hf, hln, hcl]
    refine drawStep [] [0, 1, 2, 3, 4, 5] _ rfl (by kernel_rfl) ?_
    generalize hG : HP H [Blk.row 9 1 [[.str key]] 0 0, Blk.row 37 17 [ptN g n] 0 0] = G
    have hGF : Free G := hG ▸ hFr.hpF _
    have hGU : Up H G := hG ▸ hFr.hpU _
    have hGC := hC.up hGU
    have rowG := hGC.row
    simp only [cacheRow] at rowG
    have cG : G.blk H.next = some (.row 9 1 [[.str key]] 0 0) := by rw [← hG, hp_blk0]; rfl
    simp (maxSteps := 1000000) only [sx, fx, implies_true, evBuildSlice, fillE, fillA, Nat.reduceMul, Nat.reducePow, AV.isCell, Nat.reduceSub, here, plain, laid, Nat.reduceBEq, evOp, avOf, avCell, strOf, UInt8.reduceToNat, evBin, evInt, evStr, evUn, Nat.reduceEqDiff, Nat.reduceLT, evResults, evResultsL, reduceCtorEq, AV.isUndef, AV.cells, Nat.reduceAdd, Heap.store, Nat.reduceLeDiff, rowG, cG, ev_delete hGC.map hf]
    have hcm : cm ≠ H.next := fun e => by have := hFr.at; rw [← e, hC.map] at this; cases this
    have hcx : cx ≠ H.next := fun e => by have := hFr.at; rw [← e, hC.row] at this; cases this
    have row1 : ∀ x, (G.set cm x).blk cx = some (.row 63 5 [[.int .i64 sz, .map cm, kv, .int .i64 h, .int .i64 m]] 0 0) := fun x => by rw [Heap.set_other _ _ _ hC.ne]; exact rowG
    have cG1 : ∀ x, (G.set cm x).blk H.next = some (.row 9 1 [[.str key]] 0 0) := fun x => by rw [Heap.set_other _ _ _ (Ne.symm hcm)]; exact cG
    simp (maxSteps := 1000000) only [sx, fx, implies_true, evBuildSlice, fillE, fillA, Nat.reduceMul, Nat.reducePow, AV.isCell, Nat.reduceSub, here, plain, laid, Nat.reduceBEq, evOp, avOf, avCell, strOf, UInt8.reduceToNat, evBin, evInt, evStr, evUn, Nat.reduceEqDiff, Nat.reduceLT, evResults, evResultsL, reduceCtorEq, AV.isUndef, AV.cells, Nat.reduceAdd, Heap.store, Nat.reduceLeDiff, row1]
    generalize hG1 : G.set cm (.map (ent (M.eraseIdx i)) cl) = G1 at *
    have hG1F : Free G1 := hG1 ▸ hGF.set (hGF.lt hGC.map) _
    have hoff1 : Off (fun b => b = cm) G G1 := hG1 ▸ Off.set (B := fun b => b = cm) rfl _
    have hk1 : Keys G1 kv (L.map Prod.fst) := hGC.keys.off hoff1 (fun b hb => (hC.kx b hb).2.1)
    have hkn : blkOf kv ≠ some H.next := fun e => hC.keys.dom _ e hFr.at
    have hkx : blkOf kv ≠ some cx := fun e => (hC.kx _ e).1 rfl
    have hkm : blkOf kv ≠ some cm := fun e => (hC.kx _ e).2.1 rfl
    refine callStep (f28_ok 29 (.inr rfl) key H.next _ hG1F hk1 (by simp; have := hC.len; omega) (by rw [← hG1]; exact cG1 _) hkn _ fun kv2 H3 hk3 hb3 hoff3 hF3 hnx3 => ?_)
    have row3 : H3.blk cx = some (.row 63 5 [[.int .i64 sz, .map cm, kv, .int .i64 h, .int .i64 m]] 0 0) := hoff3 _ _ hkx (by rw [← hG1]; exact row1 _)
    have map3 : H3.blk cm = some (.map (ent (M.eraseIdx i)) cl) := hoff3 _ _ hkm (by rw [← hG1]; exact set_same)
    have hoffA : ∀ x, Off (fun b => b = cx ∨ b = cm ∨ blkOf kv = some b) H (H3.set cx x) := fun x =>
      (((Off.of_up hGU).trans (hoff1.mono fun b hb => .inr (.inl hb))).trans (hoff3.mono fun b hb => .inr (.inr hb))).trans (Off.set (B := fun b => b = cx ∨ b = cm ∨ blkOf kv = some b) (.inl rfl) x)
    have hF4 : ∀ x, Free (H3.set cx x) := fun x => hF3.set (hF3.lt row3) x
    have hfin : CPost H F cx sz h m (Go.Proofs.T.without key L) (H3.set cx (cacheRow sz cm kv2 h m)) := by
      refine CPost.of_step (Fn := fun _ => False) hF (hC.step (fun _ => False) (hoffA _) set_same (by rw [Heap.set_other _ _ _ (Ne.symm hC.ne)]; exact map3)
        (keys' := ?_) (kx' := fun b hb => .inl (hb3 ▸ hb)) (ents' := fun k => ?_) (fun b hb => False.elim hb) (nodup_erase hC.nod) (without_nodup hC.nodL) (Nat.le_trans (without_len _ _) hC.len)) (fun b hb => False.elim hb) (fun b hb => .inl (hb3 ▸ hb)) (hoffA _) (hF4 _)
      · rw [without_fst]
        exact hk3.off (Off.set (B := fun b => b = cx) rfl _) (fun b hb e => by rw [hb3, e] at hb; exact hkx hb)
      · rw [lk_without, vl_erase k hC.nod hf]
        by_cases hkk : k = key
        · simp [hkk]
        · simp only [hkk, if_false]
          have h1 := hC.ents k
          cases hn : lk k L with
          | none => rw [hn] at h1; exact h1
          | some n' => rw [hn] at h1; obtain ⟨g', p1, _, _⟩ := h1; exact ⟨g', p1, .inl ⟨rfl, p1⟩⟩
    simp only [cacheRow] at hfin
    rcases keys_shape hk3 with rfl | ⟨b, o, l, c, ex, g', rfl⟩
    all_goals
      simp (maxSteps := 1000000) only [sx, fx, implies_true, evBuildSlice, fillE, fillA, Nat.reduceMul, Nat.reducePow, AV.isCell, Nat.reduceSub, here, plain, laid, Nat.reduceBEq, evOp, avOf, avCell, strOf, UInt8.reduceToNat, evBin, evInt, evStr, evUn, Nat.reduceEqDiff, Nat.reduceLT, evResults, evResultsL, reduceCtorEq, AV.isUndef, AV.cells, Nat.reduceAdd, Heap.store, Nat.reduceLeDiff, row3]
      exact hQ2 n hl _ hfin
end Go.Proofs.T
