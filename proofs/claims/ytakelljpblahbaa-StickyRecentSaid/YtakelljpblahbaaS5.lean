import Derived.Test.YtakelljpblahbaaS4
set_option linter.unusedVariables false
set_option linter.unusedSimpArgs false
set_option maxRecDepth 100000
namespace Go.Proofs.T
open Go.Ev

/-- A key that stays. -/
def keep (key k : List Nat) : Bool := !(k == key)

theorem keep_all {key : List Nat} {K : List (List Nat)} (h : ∀ k ∈ K, (k == key) = false) : K.filter (keep key) = K :=
  List.filter_eq_self.2 fun k hk => by simp [keep, h k hk]

theorem filter_snoc' {key : List Nat} {K : List (List Nat)} {j : Nat} {k : List Nat} (h : K[j]? = some k) : (K.take (j + 1)).filter (keep key) = (K.take j).filter (keep key) ++ (if (k == key) = true then [] else [k]) := by
  rw [List.take_add_one, h, Option.toList_some, List.filter_append]
  congr 1
  by_cases hk : (k == key) = true
  · simp [keep, hk]
  · simp [keep, hk]

theorem f28_ok {kv : AV} {K : List (List Nat)} (fn : Nat) (hfn : fn = 51 ∨ fn = 29) (key : List Nat) (c0 : Nat) (H : Heap) (hF : Free H) (hk : Keys H kv K) (hn : K.length ≤ 1000) (hc : H.blk c0 = some (.row 9 1 [[.str key]] 0 0)) (hne : blkOf kv ≠ some c0) (Q : AV → Heap → Prop)
    (hQ : ∀ kv' H', Keys H' kv' (K.filter (keep key)) → blkOf kv' = blkOf kv → Off (fun b => blkOf kv = some b) H H' → Free H' → H'.next = H.next → Q kv' H') : WF Try.prog 28 [kv, .func (.func fn) [] [.ptr c0 0 0 0]] H Q := by
  refine WF_body Try.func28 (by kernel_rfl) rfl Try.ntmps28 (by rw [Try.results28]) (of_decide_eq_true (by kernel_rfl)) ?_
  simp (maxSteps := 1000000) only [sx, fx, implies_true, evBuildSlice, fillE, fillA, Nat.reduceMul, Nat.reducePow, AV.isCell, Nat.reduceSub, here, plain, laid, Nat.reduceBEq, evOp, avOf, avCell, strOf, UInt8.reduceToNat, evBin, evInt, evStr, evUn, Nat.reduceEqDiff, Nat.reduceLT, evResults, evResultsL, reduceCtorEq, AV.isUndef, AV.cells, Nat.reduceAdd, Heap.store, Nat.reduceLeDiff]
  refine callStep (f53_ok fn hfn key c0 _ hk.holds (by omega) hc _ ?_)
  rcases idxK_cases key K 0 with ⟨hx, hno⟩ | ⟨i0, hi0, hx, ⟨k0, hk0, hk0'⟩, hno⟩
  · rw [hx]
    simp (maxSteps := 1000000) only [sx, fx, implies_true, evBuildSlice, fillE, fillA, Nat.reduceMul, Nat.reducePow, AV.isCell, Nat.reduceSub, here, plain, laid, Nat.reduceBEq, evOp, avOf, avCell, strOf, UInt8.reduceToNat, evBin, evInt, evStr, evUn, Nat.reduceEqDiff, Nat.reduceLT, evResults, evResultsL, reduceCtorEq, AV.isUndef, AV.cells, Nat.reduceAdd, Heap.store, Nat.reduceLeDiff, Int.reduceNeg, BEq.rfl]
    refine hQ _ _ ?_ rfl (Off.refl _) hF rfl
    rw [keep_all hno]; exact hk
  · rw [hx, Nat.zero_add]
    have hm1 : ((i0 : Int) == -1) = false := by simp
    rcases hk with ⟨rfl, _⟩ | ⟨b, c, els, g, ty, wgen, rfl, h2, h3, h4, h5, h6, h7⟩
    · simp at hi0
    have hl : ∀ G, evBuiltin Try.prog G .len #[51] [.slice b 0 K.length c false g] = some (.int .i64 K.length, G) := fun G => len_slice und51 G b 0 K.length c false g
    have hcb : c0 ≠ b := fun e => hne (by rw [e]; rfl)
    have hels : ∀ j k, K[j]? = some k → els[j]? = some [AV.str k] := fun j k hj => by
      have hjl := (List.getElem?_eq_some_iff.1 hj).1
      have : (els.take K.length)[j]? = (K.map kcell)[j]? := by rw [h4]
      rw [List.getElem?_take_of_lt hjl] at this
      rw [this]; simp [hj, kcell]
    simp (maxSteps := 1000000) only [sx, fx, implies_true, evBuildSlice, fillE, fillA, Nat.reduceMul, Nat.reducePow, AV.isCell, Nat.reduceSub, here, plain, laid, Nat.reduceBEq, evOp, avOf, avCell, strOf, UInt8.reduceToNat, evBin, evInt, evStr, evUn, Nat.reduceEqDiff, Nat.reduceLT, evResults, evResultsL, reduceCtorEq, AV.isUndef, AV.cells, Nat.reduceAdd, Heap.store, Nat.reduceLeDiff, Int.reduceNeg, hm1, wrap_succ (i := i0) (by omega)]
    refine loopStep' (fun env H' => Free H' ∧ H'.next = H.next ∧ Off (fun x => x = b) H H' ∧ ∃ (j : Nat) (els' : List (List AV)) (w' : Nat), j ≤ K.length ∧ env.at (.tmp 6) = .int .i64 j ∧ env.at (.tmp 5) = .int .i64 ((K.take j).filter (keep key)).length ∧
        env.at (.tmp 0) = .slice b 0 K.length c false g ∧ env.at (.tmp 1) = .func (.func fn) [] [.ptr c0 0 0 0] ∧ H'.blk b = some (.row ty 1 els' g w') ∧ w' ≤ g ∧ els'.length = c ∧
        els'.take ((K.take j).filter (keep key)).length = ((K.take j).filter (keep key)).map kcell ∧ els'.drop j = els.drop j ∧ (∀ e ∈ els', ∃ s, e = [.str s]))
      (fun env H' => match env.at (.tmp 6) with | .int _ i => ((K.length : Int) - i).toNat | _ => 0) ?_ ?_
    · have hf0 : (K.take (i0 + 1)).filter (keep key) = K.take i0 := by
        rw [filter_snoc' hk0, hk0']
        simp [keep_all hno]
      have hl0 : ((K.take (i0 + 1)).filter (keep key)).length = i0 := by rw [hf0]; simp; omega
      refine ⟨hF, rfl, Off.refl _, i0 + 1, els, wgen, hi0, ?_, ?_, ?_, ?_, h2, h3, h5, ?_, rfl, h7⟩
      · simp only [sx, fx, implies_true, evBuildSlice, fillE, fillA, splice, Nat.reduceMul, Nat.reducePow, AV.isCell, Nat.reduceSub, here, plain, laid, Nat.reduceBEq, evOp, avOf, avCell, strOf, UInt8.reduceToNat, evBin, evInt, evStr, evUn, Nat.reduceEqDiff, Nat.reduceLT, evResults, evResultsL, reduceCtorEq, AV.isUndef, AV.cells, Nat.reduceAdd, Heap.store, Nat.reduceLeDiff]
      · rw [hl0]; simp only [sx, fx, implies_true, evBuildSlice, fillE, fillA, splice, Nat.reduceMul, Nat.reducePow, AV.isCell, Nat.reduceSub, here, plain, laid, Nat.reduceBEq, evOp, avOf, avCell, strOf, UInt8.reduceToNat, evBin, evInt, evStr, evUn, Nat.reduceEqDiff, Nat.reduceLT, evResults, evResultsL, reduceCtorEq, AV.isUndef, AV.cells, Nat.reduceAdd, Heap.store, Nat.reduceLeDiff]
      · simp only [sx, fx, implies_true, evBuildSlice, fillE, fillA, splice, Nat.reduceMul, Nat.reducePow, AV.isCell, Nat.reduceSub, here, plain, laid, Nat.reduceBEq, evOp, avOf, avCell, strOf, UInt8.reduceToNat, evBin, evInt, evStr, evUn, Nat.reduceEqDiff, Nat.reduceLT, evResults, evResultsL, reduceCtorEq, AV.isUndef, AV.cells, Nat.reduceAdd, Heap.store, Nat.reduceLeDiff]
      · simp only [sx, fx, implies_true, evBuildSlice, fillE, fillA, splice, Nat.reduceMul, Nat.reducePow, AV.isCell, Nat.reduceSub, here, plain, laid, Nat.reduceBEq, evOp, avOf, avCell, strOf, UInt8.reduceToNat, evBin, evInt, evStr, evUn, Nat.reduceEqDiff, Nat.reduceLT, evResults, evResultsL, reduceCtorEq, AV.isUndef, AV.cells, Nat.reduceAdd, Heap.store, Nat.reduceLeDiff]
      · rw [hl0, hf0, List.map_take, ← h4, List.take_take, Nat.min_eq_left (by omega)]
    · rintro env H' ⟨hF', hnx, hoff, j, els', w', hj, e6, e5, e0, e1, hb, hw, hlen, htk, hdr, hstr⟩
      have hi : ((K.take j).filter (keep key)).length ≤ j := by
        have := List.length_filter_le (keep key) (K.take j)
        simp at this; omega
      generalize hii : ((K.take j).filter (keep key)).length = i at *
      by_cases hlt : j < K.length
      · obtain ⟨k, hk⟩ : ∃ k, K[j]? = some k := ⟨_, List.getElem?_eq_getElem hlt⟩
        have hej : els'[j]? = some [AV.str k] := by
          have : (els'.drop j)[0]? = (els.drop j)[0]? := by rw [hdr]
          simp only [List.getElem?_drop, Nat.add_zero] at this
          rw [this]; exact hels j k hk
        obtain ⟨s, hs⟩ : ∃ s, els'[i]? = some [AV.str s] := by
          obtain ⟨e, he⟩ : ∃ e, els'[i]? = some e := ⟨_, List.getElem?_eq_getElem (by omega)⟩
          obtain ⟨s, rfl⟩ := hstr e (List.mem_of_getElem? he)
          exact ⟨s, he⟩
        have hidx : ∀ (q : Nat), q < K.length → evIndexAddr Try.prog H' 51 (.slice b 0 K.length c false g) (.int .i64 q) = some (.ptr b q 0 g) := fun q hq => by simp [evIndexAddr, und51, sz9, Heap.eszOf, hb, hw, hq]
        have hcall : ∀ R : AV → Heap → Prop, R (.bool (k == key)) H' → WF Try.prog fn [.str k, .ptr c0 0 0 0] H' R := by
          have hc' := hoff _ _ hcb hc
          rcases hfn with rfl | rfl
          · exact fun R hR => f51_ok k key c0 _ hc' R hR
          · exact fun R hR => f29_ok k key c0 _ hc' R hR
        have hfs := filter_snoc' (key := key) hk
        simp (maxSteps := 1000000) only [sx, fx, implies_true, evBuildSlice, fillE, fillA, Nat.reduceMul, Nat.reducePow, AV.isCell, Nat.reduceSub, here, plain, laid, Nat.reduceBEq, evOp, avOf, avCell, strOf, UInt8.reduceToNat, evBin, evInt, evStr, evUn, Nat.reduceEqDiff, Nat.reduceLT, evResults, evResultsL, reduceCtorEq, AV.isUndef, AV.cells, Nat.reduceAdd, Heap.store, Nat.reduceLeDiff, e6, e5, e0, e1, hl, lt_true hlt, hidx j hlt, hb, hw, hej]
        refine callStep (hcall _ ?_)
        cases hkk : (k == key)
        · rw [hkk] at hfs
          simp only [Bool.false_eq_true, if_false] at hfs
          simp (maxSteps := 1000000) only [sx, fx, implies_true, evBuildSlice, fillE, fillA, Nat.reduceMul, Nat.reducePow, AV.isCell, Nat.reduceSub, here, plain, laid, Nat.reduceBEq, evOp, avOf, avCell, strOf, UInt8.reduceToNat, evBin, evInt, evStr, evUn, Nat.reduceEqDiff, Nat.reduceLT, evResults, evResultsL, reduceCtorEq, AV.isUndef, AV.cells, Nat.reduceAdd, Heap.store, Nat.reduceLeDiff, e6, e5, e0, e1, hidx i (by omega), hb, hs, wrap_succ (i := j) (by omega), wrap_succ (i := i) (by omega)]
          have hlf : ((K.take (j + 1)).filter (keep key)).length = i + 1 := by rw [hfs, List.length_append, hii]; rfl
          refine ⟨⟨hF'.set (hF'.lt hb) _, hnx, hoff.trans (Off.set (B := fun x => x = b) rfl _), j + 1, els'.set i [.str k], g, hlt, rfl, by rw [hlf], rfl, Nat.le_refl _, by simpa using hlen, ?_, ?_, ?_⟩, ?_⟩
          · rw [hlf, hfs, List.map_append, ← htk, List.take_add_one]
            rw [List.take_set_of_le (Nat.le_refl _), List.getElem?_set_self (by omega)]
            rfl
          · rw [List.drop_set_of_lt (by omega)]
            have := congrArg (List.drop 1) hdr
            simpa [List.drop_drop] using this
          · intro e he
            rcases List.mem_or_eq_of_mem_set he with he | rfl
            · exact hstr e he
            · exact ⟨k, rfl⟩
          · omega
        · rw [hkk] at hfs
          simp only [if_true, List.append_nil] at hfs
          simp (maxSteps := 1000000) only [sx, fx, implies_true, evBuildSlice, fillE, fillA, Nat.reduceMul, Nat.reducePow, AV.isCell, Nat.reduceSub, here, plain, laid, Nat.reduceBEq, evOp, avOf, avCell, strOf, UInt8.reduceToNat, evBin, evInt, evStr, evUn, Nat.reduceEqDiff, Nat.reduceLT, evResults, evResultsL, reduceCtorEq, AV.isUndef, AV.cells, Nat.reduceAdd, Heap.store, Nat.reduceLeDiff, e6, e5, e0, e1, wrap_succ (i := j) (by omega)]
          refine ⟨⟨hF', hnx, hoff, j + 1, els', w', hlt, rfl, by rw [hfs, hii], ⟨hb, hw, hlen, by rw [hfs, hii]; exact htk, ?_, hstr⟩⟩, ?_⟩
          · have := congrArg (List.drop 1) hdr
            simpa [List.drop_drop] using this
          · omega
      · obtain rfl : j = K.length := by omega
        rw [List.take_length] at hii htk
        have hin : i < K.length := by
          rw [← hii]
          refine List.length_filter_lt_length_iff_exists.2 ⟨k0, List.mem_of_getElem? hk0, by simp [keep, hk0']⟩
        have hsl1 : evSlice Try.prog H' 51 (.slice b 0 K.length c false g) (some (i : Int)) none none = some (.slice b i (K.length - i) (c - i) false g) := by
          have e1 : ((K.length : Int) - (i : Int)).toNat = K.length - i := by omega
          simp [evSlice, und51, sz9, Heap.eszOf, hb, hw, boundsOk, e1]
          omega
        have hclr : evBuiltin Try.prog H' .clear #[51] [.slice b i (K.length - i) (c - i) false g] = some (.tuple [], H'.set b (.row ty 1 (setAll els' i (List.replicate (K.length - i) [.str []])) g g)) := by
          have h0 : K.length - i ≠ 0 := by omega
          have h8 : i + (K.length - i) ≤ els'.length := by omega
          simp [evBuiltin, evClear, und51, sz9, ze9, hb, h0, h8, AV.cells, AV.isUndef, AV.isCell]
        have hsl2 : evSlice Try.prog (H'.set b (.row ty 1 (setAll els' i (List.replicate (K.length - i) [.str []])) g g)) 51 (.slice b 0 K.length c false g) none (some (i : Int)) none = some (.slice b 0 i c false g) := by
          simp [evSlice, und51, sz9, Heap.eszOf, set_same, boundsOk]
          omega
        simp (maxSteps := 1000000) only [sx, fx, implies_true, evBuildSlice, fillE, fillA, Nat.reduceMul, Nat.reducePow, AV.isCell, Nat.reduceSub, here, plain, laid, Nat.reduceBEq, evOp, avOf, avCell, strOf, UInt8.reduceToNat, evBin, evInt, evStr, evUn, Nat.reduceEqDiff, Nat.reduceLT, evResults, evResultsL, reduceCtorEq, AV.isUndef, AV.cells, Nat.reduceAdd, Heap.store, Nat.reduceLeDiff, e6, e5, e0, e1, hl, lt_false hlt, optInt, hsl1, hclr, hsl2]
        refine hQ _ _ (.inr ⟨b, c, _, g, ty, g, by rw [hii], set_same, Nat.le_refl _, ?_, ?_, by omega, ?_⟩) rfl ((hoff.mono fun x hx => by rw [hx]; rfl).trans (Off.set (B := fun x => blkOf (.slice b 0 K.length c false g) = some x) rfl _)) (hF'.set (hF'.lt hb) _) hnx
        · rw [hii]
          have : (setAll els' i (List.replicate (K.length - i) [.str []])).take i = els'.take i := by
            simp only [setAll, List.append_assoc]
            rw [List.take_append_of_le_length (by simp; omega), List.take_take, Nat.min_self]
          rw [this, htk]
        · rw [setAll_length (by simp; omega)]; exact hlen
        · intro e he
          simp only [setAll, List.mem_append] at he
          rcases he with (he | he) | he
          · exact hstr e (List.mem_of_mem_take he)
          · exact ⟨[], (List.mem_replicate.1 he).2⟩
          · exact hstr e (List.mem_of_mem_drop he)
end Go.Proofs.T
