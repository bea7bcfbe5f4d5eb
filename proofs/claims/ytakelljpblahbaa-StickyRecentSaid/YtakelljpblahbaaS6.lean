import Derived.Test.YtakelljpblahbaaS5
set_option linter.unusedVariables false
set_option linter.unusedSimpArgs false
set_option maxRecDepth 100000
namespace Go.Proofs.T
open Go.Ev

theorem Keys.append {H : Heap} {kv : AV} {K : List (List Nat)} (hk : Keys H kv K) (hF : Free H) (hn : K.length ≤ 1000) {x : AV} {key : List Nat} (hx : Holds H 1 x [kcell key]) :
    ∃ kv' H', evBuiltin Try.prog H .append #[51, 51] [kv, x] = some (kv', H') ∧ Keys H' kv' (K ++ [key]) ∧ Free H' ∧ Off (fun b => blkOf kv = some b) H H' ∧ (H'.next = H.next ∨ H.blk H.next = none) ∧ (∀ b, blkOf kv' = some b → blkOf kv = some b ∨ H.blk b = none) ∧ H.next ≤ H'.next := by
  rw [append_ev app51 hx.len? hx.elems]
  have hcell : ([kcell key] : List (List AV)).all (fun cs => cs.all AV.isCell) = true := rfl
  rcases hk with ⟨rfl, rfl⟩ | ⟨b, c, els, g, ty, wgen, rfl, h2, h3, h4, h5, h6, h7⟩
  · refine ⟨.slice H.next 0 1 1 false 0, H.push (.row 9 1 [kcell key] 0 0), by simp [Heap.append, kcell, AV.isCell, maxBytes], .inr ⟨H.next, 1, [kcell key], 0, 9, 0, rfl, push_blk_same _ _, Nat.le_refl _, rfl, rfl, Nat.le_refl _, by simp [kcell]⟩, hF.push _, ?_, .inr hF.at, ?_, by simp [Heap.push]⟩
    · intro b x _ hb
      exact (Up.refl H).push hF _ _ _ hb
    · intro b hb
      simp only [blkOf, Option.some.injEq] at hb
      exact .inr (hb ▸ hF.at)
  · by_cases hfit : K.length + 1 ≤ c
    · refine ⟨.slice b 0 (K.length + 1) c false g, H.set b (.row ty 1 (setAll els K.length [kcell key]) g g), ?_, .inr ⟨b, c, _, g, ty, g, by simp, set_same, Nat.le_refl _, ?_, ?_, by simpa using hfit, ?_⟩, hF.set (hF.lt h2) _, Off.set (B := fun x => blkOf (.slice b 0 K.length c false g) = some x) rfl _, .inl rfl, fun b' hb' => .inl hb', Nat.le_refl _⟩
      · simp [Heap.append, hcell, h2, h3, hfit, maxBytes]
        omega
      · simp only [List.length_append, List.length_cons, List.length_nil, List.map_append, List.map_cons, List.map_nil, setAll, List.append_assoc]
        rw [List.take_append, List.take_take, Nat.min_eq_right (by omega), h4]
        have e : K.length + (0 + 1) - (K.map kcell).length = 1 := by simp
        rw [e]
        simp
      · rw [setAll_length (by simp; omega)]; exact h5
      · intro e he
        simp only [setAll, List.mem_append] at he
        rcases he with (he | he) | he
        · exact h7 e (List.mem_of_mem_take he)
        · exact ⟨key, by simpa [kcell] using he⟩
        · exact h7 e (List.mem_of_mem_drop he)
    · have hcl : c = K.length := by omega
      refine ⟨.slice b 0 (K.length + 1) (K.length + 1) false (g + 1), H.set b (.row ty 1 (els ++ [kcell key]) (g + 1) wgen), ?_, .inr ⟨b, K.length + 1, _, g + 1, ty, wgen, by simp, set_same, by omega, ?_, ?_, by simp, ?_⟩, hF.set (hF.lt h2) _, Off.set (B := fun x => blkOf (.slice b 0 K.length c false g) = some x) rfl _, .inl rfl, fun b' hb' => .inl hb', Nat.le_refl _⟩
      · simp [Heap.append, hcell, h2, h3, hfit, maxBytes]
        omega
      · have hel : els = K.map kcell := by rw [← h4, List.take_of_length_le (by omega)]
        rw [hel]
        simp only [List.length_append, List.length_cons, List.length_nil, List.map_append, List.map_cons, List.map_nil]
        rw [List.take_of_length_le (by simp)]
      · simp; omega
      · intro e he
        rcases List.mem_append.1 he with he | he
        · exact h7 e he
        · exact ⟨key, by simpa [kcell] using he⟩

/-- A cache's cells. -/
def cacheRow (sz : Int) (cm : Nat) (kv : AV) (h m : Int) : Blk := .row 63 5 [[.int .i64 sz, .map cm, kv, .int .i64 h, .int .i64 m]] 0 0

theorem keys_shape {H : Heap} {kv : AV} {K : List (List Nat)} (h : Keys H kv K) : kv = .nilslice ∨ ∃ b o l c ex g, kv = .slice b o l c ex g := by
  rcases h with ⟨_, h⟩ | ⟨_, _, _, _, _, _, h, _⟩
  · exact .inl h
  · exact .inr ⟨_, _, _, _, _, _, h⟩

theorem Keys.off {H H' : Heap} {kv : AV} {K : List (List Nat)} (h : Keys H kv K) {B : Nat → Prop} (ho : Off B H H') (hB : ∀ b, blkOf kv = some b → ¬ B b) : Keys H' kv K := by
  rcases h with h | ⟨b, c, els, g, ty, wgen, rfl, h2, h3, h4, h5, h6, h7⟩
  · exact .inl h
  · exact .inr ⟨b, c, els, g, ty, wgen, rfl, ho _ _ (hB b rfl) h2, h3, h4, h5, h6, h7⟩

theorem f25_ok {sz h m : Int} {cm cx : Nat} {kv : AV} {K : List (List Nat)} (key : List Nat) (H : Heap) (hF : Free H) (hrow : H.blk cx = some (cacheRow sz cm kv h m)) (hk : Keys H kv K) (hn : K.length ≤ 900) (hne : blkOf kv ≠ some cx) (Q : AV → Heap → Prop)
    (hQ : ∀ kv' H' r, H'.blk cx = some (cacheRow sz cm kv' h m) → Keys H' kv' (K.filter (keep key) ++ [key]) → Off (fun b => b = cx ∨ blkOf kv = some b) H H' → Free H' → (∀ b, blkOf kv' = some b → blkOf kv = some b ∨ H.blk b = none) → Q r H') : WF Try.prog 25 [.ptr cx 0 0 0, .str key] H Q := by
  refine WF_body Try.func25 (by kernel_rfl) rfl Try.ntmps25 (by rw [Try.results25]) (of_decide_eq_true (by kernel_rfl)) ?_
  have hcx : cx < H.next := hF.lt hrow
  have r1 : (HP H [Blk.row 9 1 [[.str key]] 0 0]).blk cx = some (cacheRow sz cm kv h m) := hF.hpU _ _ _ hrow
  have c1 : (HP H [Blk.row 9 1 [[.str key]] 0 0]).blk H.next = some (.row 9 1 [[.str key]] 0 0) := by rw [hp_blk0]; rfl
  simp only [cacheRow] at r1
  simp (maxSteps := 1000000) only [sx, fx, implies_true, evBuildSlice, fillE, fillA, Nat.reduceMul, Nat.reducePow, AV.isCell, Nat.reduceSub, here, plain, laid, Nat.reduceBEq, evOp, avOf, avCell, strOf, UInt8.reduceToNat, evBin, evInt, evStr, evUn, Nat.reduceEqDiff, Nat.reduceLT, evResults, evResultsL, reduceCtorEq, AV.isUndef, AV.cells, Nat.reduceAdd, Heap.store, Nat.reduceLeDiff, hF.at, hF.hp]
  have hF1 := hF.hpF [Blk.row 9 1 [[.str key]] 0 0]
  have hU1 := hF.hpU [Blk.row 9 1 [[.str key]] 0 0]
  have hk1 : Keys (HP H [Blk.row 9 1 [[.str key]] 0 0]) kv K := hk.off (B := fun _ => False) (Off.of_up hU1) (fun _ _ => id)
  have hkb : ∀ b, blkOf kv = some b → H.blk b ≠ none := by
    intro b hb
    rcases hk with ⟨_, rfl⟩ | ⟨b', c, els, g, ty, wgen, rfl, h2, _⟩
    · cases hb
    · cases hb; rw [h2]; simp
  have hne1 : blkOf kv ≠ some H.next := fun e => hkb _ e hF.at
  generalize hG : HP H [Blk.row 9 1 [[.str key]] 0 0] = G at *
  refine drawStepK (fun b => b = H.next) [7, 6] [0, 1, 2, 3, 4, 5, 7, 6, 8, 9, 10, 11, 12] _ rfl (by kernel_rfl) ?_
  have hkc : kv.isCell = true := by rcases keys_shape hk with rfl | ⟨b, o, l, c, ex, g, rfl⟩ <;> rfl
  simp (maxSteps := 1000000) only [sx, fx, implies_true, evBuildSlice, fillE, fillA, Nat.reduceMul, Nat.reducePow, AV.isCell, Nat.reduceSub, here, plain, laid, Nat.reduceBEq, evOp, avOf, avCell, strOf, UInt8.reduceToNat, evBin, evInt, evStr, evUn, Nat.reduceEqDiff, Nat.reduceLT, evResults, evResultsL, reduceCtorEq, AV.isUndef, AV.cells, Nat.reduceAdd, Heap.store, Nat.reduceLeDiff, hereStep_K, r1]
  refine opStepK_read (.str key) (fun G' m hG' => ?_) ?_
  · have hc' : G' H.next = some (.row 9 1 [[.str key]] 0 0) := hG' _ _ rfl c1
    simp (maxSteps := 1000000) only [sx, fx, implies_true, evBuildSlice, fillE, fillA, Nat.reduceMul, Nat.reducePow, AV.isCell, Nat.reduceSub, here, plain, laid, Nat.reduceBEq, evOp, avOf, avCell, strOf, UInt8.reduceToNat, evBin, evInt, evStr, evUn, Nat.reduceEqDiff, Nat.reduceLT, evResults, evResultsL, reduceCtorEq, AV.isUndef, AV.cells, Nat.reduceAdd, Heap.store, Nat.reduceLeDiff, hc']
  simp (maxSteps := 1000000) only [sx, fx, implies_true, evBuildSlice, fillE, fillA, Nat.reduceMul, Nat.reducePow, AV.isCell, Nat.reduceSub, here, plain, laid, Nat.reduceBEq, evOp, avOf, avCell, strOf, UInt8.reduceToNat, evBin, evInt, evStr, evUn, Nat.reduceEqDiff, Nat.reduceLT, evResults, evResultsL, reduceCtorEq, AV.isUndef, AV.cells, Nat.reduceAdd, Heap.store, Nat.reduceLeDiff]
  refine callStep_flag (f28_ok 51 (.inl rfl) key _ _ hF1 hk1 (by omega) c1 hne1 _ fun kv2 H2 hk2 hb2 hoff2 hF2 hnx2 => ⟨fun b x hb hx => hoff2 b x (by rw [hb]; exact hne1) hx, ?_⟩)
  have r2 : ∀ xs, (HP H2 xs).blk cx = some (.row 63 5 [[.int .i64 sz, .map cm, kv, .int .i64 h, .int .i64 m]] 0 0) := fun xs => hF2.hpU xs _ _ (hoff2 _ _ hne r1)
  simp (maxSteps := 1000000) only [sx, fx, implies_true, evBuildSlice, fillE, fillA, Nat.reduceMul, Nat.reducePow, AV.isCell, Nat.reduceSub, here, plain, laid, Nat.reduceBEq, evOp, avOf, avCell, strOf, UInt8.reduceToNat, evBin, evInt, evStr, evUn, Nat.reduceEqDiff, Nat.reduceLT, evResults, evResultsL, reduceCtorEq, AV.isUndef, AV.cells, Nat.reduceAdd, Heap.store, Nat.reduceLeDiff, hF2.at, hF2.hp]
  have hlen2 : (K.filter (keep key)).length ≤ 1000 := by have := List.length_filter_le (keep key) K; omega
  obtain ⟨kv3, H3, h3, hk3, hF3, hoff3, hnx3, hbl3, hle3⟩ := (hk2.off (B := fun _ => False) (Off.of_up (hF2.hpU [Blk.row 9 1 [[.str key]] 0 0])) (fun _ _ => id)).append (hF2.hpF _) hlen2 (x := .slice H2.next 0 1 1 true 0) (key := key) (holds_hp (k := 0) rfl rfl (Nat.le_refl _) (by simp [kcell]))
  rw [h3, opStep_some]
  refine ⟨hnx3, ?_⟩
  have r3 : H3.blk cx = some (.row 63 5 [[.int .i64 sz, .map cm, kv, .int .i64 h, .int .i64 m]] 0 0) := hoff3 _ _ (by rw [hb2]; exact hne) (r2 _)
  have hfin : ∀ row, Off (fun b => b = cx ∨ blkOf kv = some b) H (H3.set cx row) := fun row b x hb hx => by
    have h1 := hU1 _ _ hx
    have h2 := hF2.hpU [Blk.row 9 1 [[.str key]] 0 0] _ _ (hoff2 _ _ (fun e => hb (.inr e)) h1)
    have h3 := hoff3 _ _ (fun e => hb (.inr (by rw [← hb2]; exact e))) h2
    rw [Heap.set_other _ _ _ (fun e => hb (.inl e))]; exact h3
  have hfresh : ∀ b, blkOf kv3 = some b → blkOf kv = some b ∨ H.blk b = none := fun b hb => by
    rcases hbl3 b hb with e | e
    · exact .inl (by rw [← hb2]; exact e)
    · right
      cases hx : H.blk b with
      | none => rfl
      | some x =>
        exfalso
        by_cases hkv : blkOf kv = some b
        · rcases hk2 with ⟨_, rfl⟩ | ⟨b', c, els, g, ty, wgen, rfl, q2, _⟩
          · rw [← hb2] at hkv; cases hkv
          · rw [← hb2] at hkv; cases hkv
            have := hF2.hpU [Blk.row 9 1 [[.str key]] 0 0] _ _ q2
            rw [this] at e; cases e
        · have := hF2.hpU [Blk.row 9 1 [[.str key]] 0 0] _ _ (hoff2 _ _ hkv (hU1 _ _ hx))
          rw [this] at e; cases e
  have hk4 : ∀ row, Keys (H3.set cx row) kv3 (K.filter (keep key) ++ [key]) := fun row => hk3.off (B := fun b => b = cx) (Off.set (B := fun b => b = cx) rfl _) (fun b hb e => by
    rw [e] at hb
    rcases hfresh cx hb with q | q
    · exact hne q
    · rw [hrow] at q; cases q)
  have hF4 : ∀ row, Free (H3.set cx row) := fun row => hF3.set (hF3.lt r3) _
  rcases keys_shape hk3 with rfl | ⟨b, o, l, c, ex, g, rfl⟩
  all_goals
    simp (maxSteps := 1000000) only [sx, fx, implies_true, evBuildSlice, fillE, fillA, Nat.reduceMul, Nat.reducePow, AV.isCell, Nat.reduceSub, here, plain, laid, Nat.reduceBEq, evOp, avOf, avCell, strOf, UInt8.reduceToNat, evBin, evInt, evStr, evUn, Nat.reduceEqDiff, Nat.reduceLT, evResults, evResultsL, reduceCtorEq, AV.isUndef, AV.cells, Nat.reduceAdd, Heap.store, Nat.reduceLeDiff, r3]
    exact hQ _ _ _ set_same (hk4 _) (hfin _) (hF4 _) hfresh
end Go.Proofs.T
