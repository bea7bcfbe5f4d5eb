import Derived.Test.YtakelljpblahbaaS20
set_option linter.unusedVariables false
set_option linter.unusedSimpArgs false
set_option maxRecDepth 100000
namespace Go.Proofs.T
open Go.Ev

def ze : List AV := .str [] :: pt .nilslice 0 0 0 false

theorem ER.take {H : Heap} {P : Nat → Prop} : ∀ {E : List (List AV)} {L : Stored} (i : Nat), ER H P E L → ER H P (E.take i) (L.take i)
  | [], [], i, _ => by simp [ER]
  | e :: E, p :: L, 0, h => trivial
  | e :: E, p :: L, i + 1, h => ⟨h.1, ER.take i h.2⟩
  | [], p :: L, _, h => h.elim
  | e :: E, [], _, h => h.elim

theorem lk_take_succ {L : Stored} {key : List Nat} {i : Nat} {p : List Nat × Int} (hp : L[i]? = some p) : lk key (L.take (i + 1)) = (lk key (L.take i)).or (if p.1 = key then some p.2 else none) := by
  rw [List.take_add_one, hp, lk_append]
  congr 1
  rw [Option.toList_some, lk_cons]
  rfl

theorem lk_take_none {L : Stored} {key : List Nat} {i : Nat} {p : List Nat × Int} (hnd : (L.map Prod.fst).Nodup) (hp : L[i]? = some p) (hk : p.1 = key) : lk key (L.take i) = none := by
  rw [lk_none]
  intro hm
  obtain ⟨j, hj⟩ := List.getElem?_of_mem hm
  rw [List.getElem?_map] at hj
  cases hx : (L.take i)[j]? with
  | none => simp [hx] at hj
  | some q =>
    have hlt : j < i := by
      have := (List.getElem?_eq_some_iff.1 hx).1
      simp at this; omega
    rw [List.getElem?_take_of_lt hlt] at hx
    have h1 : (L.map Prod.fst)[j]? = some key := by simp [hx] ; simpa [List.getElem?_take_of_lt hlt, hx] using hj
    have h2 : (L.map Prod.fst)[i]? = some key := by simp [hp, hk]
    have := (List.getElem?_inj (by have := (List.getElem?_eq_some_iff.1 h1).1; exact this) hnd).1 (h1.trans h2.symm)
    omega

theorem own_redom {G G' H : Heap} {ty esz : Nat} {v : AV} {L : List (List AV)} (h : Own G H ty esz v L) (hd : ∀ b, G.blk b = none → G'.blk b = none) : Own G' H ty esz v L := by
  obtain ⟨h0, h | ⟨b, g, wgen, h1, h2, h3, h4⟩ | ⟨b, g, ty', gen, wgen, h1, h2, h3, h4⟩⟩ := h
  · exact ⟨h0, .inl h⟩
  · exact ⟨h0, .inr (.inl ⟨b, g, wgen, h1, h2, h3, hd _ h4⟩)⟩
  · exact ⟨h0, .inr (.inr ⟨b, g, ty', gen, wgen, h1, h2, h3, hd _ h4⟩)⟩

theorem f54_ok {H : Heap} {G : Nat → Prop} {rx : Nat} {ev : AV} {E : List (List AV)} {sz fo wr : Int} {L : Stored} (key : List Nat) (hF : Free H) (hR : RInv H G rx ev E sz fo wr L) (Q : AV → Heap → Prop)
    (hQ : ∀ out z H', Up H H' → Free H' → Own H H' 106 18 out (E.filter (keepE key)) → (match lk key L with | none => z = ze | some n => ∃ g, z = ecell key g n ∧ Holds H 5 g [vi 2 n] ∧ ∀ b, blkOf g = some b → G b ∧ b ≠ rx) → Q (.tuple [out, .agg z, .bool (lk key L).isSome]) H') : WF Try.prog 54 [.ptr rx 0 0 0, .str key] H Q := by
  refine WF_body Try.func54 (by kernel_rfl) rfl Try.ntmps54 (by rw [Try.results54]) (of_decide_eq_true (by kernel_rfl)) ?_
  have hrow := hR.row
  have hlen := hR.ents.len
  have hl := hR.slice.lenAt und71
  rw [hlen] at hl
  have hl100 := hR.len
  simp only [refRow] at hrow
  have hrow1 := fun xs => hF.hpU xs _ _ hrow
  simp (maxSteps := 1000000) only [sx, fx, implies_true, evBuildSlice, fillE, fillA, Nat.reduceMul, Nat.reducePow, AV.isCell, Nat.reduceSub, here, plain, laid, Nat.reduceBEq, evOp, avOf, avCell, strOf, UInt8.reduceToNat, evBin, evInt, evStr, evUn, Nat.reduceEqDiff, Nat.reduceLT, evResults, evResultsL, reduceCtorEq, AV.isUndef, AV.cells, Nat.reduceAdd, Heap.store, Nat.reduceLeDiff, hF.at, hF.hp, hrow1, hl]
  obtain ⟨G0, hG0, u0, b0, b1, f0⟩ : ∃ G0, G0 = HP H [Blk.row 106 18 [ze] 0 0, Blk.row 106 18 [ze] 0 0] ∧ Up H G0 ∧ G0.blk H.next = some (.row 106 18 [ze] 0 0) ∧ G0.blk (H.next + 1) = some (.row 106 18 [ze] 0 0) ∧ Free G0 :=
    ⟨_, rfl, hF.hpU _, by rw [hp_blk0]; rfl, by rw [hp_blk]; rfl, hF.hpF _⟩
  simp only [ze, pt] at hG0
  rw [← hG0]
  have hnx : H.next + 1 ≠ H.next := by omega
  refine loopStep' (fun env H' => Free H' ∧ Off (fun b => b = H.next + 1) G0 H' ∧ ∃ (i : Nat) (out : AV) (z : List AV), i ≤ L.length ∧ env.at (.tmp 17) = .int .i64 i ∧ env.at (.tmp 16) = .int .i64 L.length ∧ env.at (.tmp 15) = ev ∧ env.at (.tmp 1) = .str key ∧
      env.at (.tmp 7) = out ∧ env.at (.tmp 8) = .ptr (H.next + 1) 0 0 0 ∧ env.at (.tmp 5) = .ptr H.next 0 0 0 ∧ env.at (.tmp 9) = .bool (lk key (L.take i)).isSome ∧ Own G0 H' 106 18 out ((E.take i).filter (keepE key)) ∧
      H'.blk (H.next + 1) = some (.row 106 18 [z] 0 0) ∧ (match lk key (L.take i) with | none => z = ze | some n => ∃ g, z = ecell key g n ∧ Holds H 5 g [vi 2 n] ∧ ∀ b, blkOf g = some b → G b ∧ b ≠ rx))
    (fun env H' => match env.at (.tmp 17) with | .int _ i => ((L.length : Int) - i).toNat | _ => 0) ?_ ?_
  · refine ⟨f0, Off.refl _, 0, .nilslice, ze, Nat.zero_le _, ?_, ?_, ?_, ?_, ?_, ?_, ?_, ?_, by simpa using Own.nil, b1, rfl⟩
    · simp only [sx, fx, implies_true, evBuildSlice, fillE, fillA, splice, Nat.reduceMul, Nat.reducePow, AV.isCell, Nat.reduceSub, here, plain, laid, Nat.reduceBEq, evOp, avOf, avCell, strOf, UInt8.reduceToNat, evBin, evInt, evStr, evUn, Nat.reduceEqDiff, Nat.reduceLT, evResults, evResultsL, reduceCtorEq, AV.isUndef, AV.cells, Nat.reduceAdd, Heap.store, Nat.reduceLeDiff]; rfl
    · simp only [sx, fx, implies_true, evBuildSlice, fillE, fillA, splice, Nat.reduceMul, Nat.reducePow, AV.isCell, Nat.reduceSub, here, plain, laid, Nat.reduceBEq, evOp, avOf, avCell, strOf, UInt8.reduceToNat, evBin, evInt, evStr, evUn, Nat.reduceEqDiff, Nat.reduceLT, evResults, evResultsL, reduceCtorEq, AV.isUndef, AV.cells, Nat.reduceAdd, Heap.store, Nat.reduceLeDiff]
    · simp only [sx, fx, implies_true, evBuildSlice, fillE, fillA, splice, Nat.reduceMul, Nat.reducePow, AV.isCell, Nat.reduceSub, here, plain, laid, Nat.reduceBEq, evOp, avOf, avCell, strOf, UInt8.reduceToNat, evBin, evInt, evStr, evUn, Nat.reduceEqDiff, Nat.reduceLT, evResults, evResultsL, reduceCtorEq, AV.isUndef, AV.cells, Nat.reduceAdd, Heap.store, Nat.reduceLeDiff]
    · simp only [sx, fx, implies_true, evBuildSlice, fillE, fillA, splice, Nat.reduceMul, Nat.reducePow, AV.isCell, Nat.reduceSub, here, plain, laid, Nat.reduceBEq, evOp, avOf, avCell, strOf, UInt8.reduceToNat, evBin, evInt, evStr, evUn, Nat.reduceEqDiff, Nat.reduceLT, evResults, evResultsL, reduceCtorEq, AV.isUndef, AV.cells, Nat.reduceAdd, Heap.store, Nat.reduceLeDiff]
    · simp only [sx, fx, implies_true, evBuildSlice, fillE, fillA, splice, Nat.reduceMul, Nat.reducePow, AV.isCell, Nat.reduceSub, here, plain, laid, Nat.reduceBEq, evOp, avOf, avCell, strOf, UInt8.reduceToNat, evBin, evInt, evStr, evUn, Nat.reduceEqDiff, Nat.reduceLT, evResults, evResultsL, reduceCtorEq, AV.isUndef, AV.cells, Nat.reduceAdd, Heap.store, Nat.reduceLeDiff]
    · simp only [sx, fx, implies_true, evBuildSlice, fillE, fillA, splice, Nat.reduceMul, Nat.reducePow, AV.isCell, Nat.reduceSub, here, plain, laid, Nat.reduceBEq, evOp, avOf, avCell, strOf, UInt8.reduceToNat, evBin, evInt, evStr, evUn, Nat.reduceEqDiff, Nat.reduceLT, evResults, evResultsL, reduceCtorEq, AV.isUndef, AV.cells, Nat.reduceAdd, Heap.store, Nat.reduceLeDiff]
    · simp only [sx, fx, implies_true, evBuildSlice, fillE, fillA, splice, Nat.reduceMul, Nat.reducePow, AV.isCell, Nat.reduceSub, here, plain, laid, Nat.reduceBEq, evOp, avOf, avCell, strOf, UInt8.reduceToNat, evBin, evInt, evStr, evUn, Nat.reduceEqDiff, Nat.reduceLT, evResults, evResultsL, reduceCtorEq, AV.isUndef, AV.cells, Nat.reduceAdd, Heap.store, Nat.reduceLeDiff]
    · simp only [sx, fx, implies_true, evBuildSlice, fillE, fillA, splice, Nat.reduceMul, Nat.reducePow, AV.isCell, Nat.reduceSub, here, plain, laid, Nat.reduceBEq, evOp, avOf, avCell, strOf, UInt8.reduceToNat, evBin, evInt, evStr, evUn, Nat.reduceEqDiff, Nat.reduceLT, evResults, evResultsL, reduceCtorEq, AV.isUndef, AV.cells, Nat.reduceAdd, Heap.store, Nat.reduceLeDiff]; rfl
  · rintro env H' ⟨hF', hoff, i, out, z, hi, e17, e16, e15, e1, e7, e8, e5, e9, hO, hz, hzz⟩
    have hoffH : ∀ b x, H.blk b = some x → H'.blk b = some x := fun b x hb => hoff _ _ (fun e => by rw [e, hF _ (by omega)] at hb; cases hb) (u0 _ _ hb)
    by_cases hlt : i < L.length
    · obtain ⟨e, he⟩ : ∃ e, E[i]? = some e := ⟨_, List.getElem?_eq_getElem (by omega)⟩
      obtain ⟨p, g, hp, rfl, hg, hgb⟩ := hR.ents.get i e he
      obtain ⟨q, hq, hload, _⟩ := (hR.slice.up (show Up H H' from hoffH)).index und71 sz106 .i64 he
      have hcell : (ecell p.1 g p.2).all AV.isCell = true := (hR.ents.cells _ (List.mem_of_getElem? he)).2
      have hl18 : (ecell p.1 g p.2).length = 18 := rfl
      have htk18 : (ecell p.1 g p.2).take 18 = ecell p.1 g p.2 := rfl
      have htk1 : (ecell p.1 g p.2).take 1 = [.str p.1] := rfl
      have hlz : z.length = 18 := by
        cases hx : lk key (L.take i) with
        | none => rw [hx] at hzz; rw [hzz]; rfl
        | some n => rw [hx] at hzz; obtain ⟨g', rfl, _⟩ := hzz; rfl
      have hlks := lk_take_succ (key := key) hp
      have hfe : (E.take (i + 1)).filter (keepE key) = (E.take i).filter (keepE key) ++ (if (p.1 == key) = true then [] else [ecell p.1 g p.2]) := by
        rw [List.take_add_one, he, Option.toList_some, List.filter_append]
        congr 1
        have : keepE key (ecell p.1 g p.2) = keep key p.1 := rfl
        rw [List.filter_cons, this]
        cases hk : (p.1 == key) <;> simp [keep, hk]
      have z1 : ∀ xs, (HP H' xs).blk (H.next + 1) = some (.row 106 18 [z] 0 0) := fun xs => hF'.hpU xs _ _ hz
      have sp : splice z 0 (ecell p.1 g p.2) = ecell p.1 g p.2 := splice_whole (by rw [hl18, hlz])
      simp (maxSteps := 1000000) only [sx, fx, implies_true, evBuildSlice, fillE, fillA, Nat.reduceMul, Nat.reducePow, AV.isCell, Nat.reduceSub, here, plain, laid, Nat.reduceBEq, evOp, avOf, avCell, strOf, UInt8.reduceToNat, evBin, evInt, evStr, evUn, Nat.reduceEqDiff, Nat.reduceLT, evResults, evResultsL, reduceCtorEq, AV.isUndef, AV.cells, Nat.reduceAdd, Heap.store, Nat.reduceLeDiff, e17, e16, e15, e1, e7, e8, e5, lt_true hlt, hq, hload _ (Up.refl _), hF'.at, hF'.hp, hcell, hl18, htk18, htk1]
      cases hk : (p.1 == key)
      · have hpk : p.1 ≠ key := by simpa using hk
        rw [if_neg hpk, Option.or_none] at hlks
        rw [hk] at hfe
        simp only [Bool.false_eq_true, if_false] at hfe
        simp (maxSteps := 1000000) only [sx, fx, implies_true, evBuildSlice, fillE, fillA, Nat.reduceMul, Nat.reducePow, AV.isCell, Nat.reduceSub, here, plain, laid, Nat.reduceBEq, evOp, avOf, avCell, strOf, UInt8.reduceToNat, evBin, evInt, evStr, evUn, Nat.reduceEqDiff, Nat.reduceLT, evResults, evResultsL, reduceCtorEq, AV.isUndef, AV.cells, Nat.reduceAdd, Heap.store, Nat.reduceLeDiff, e17, e16, e15, e1, e7, e8, e5, hF'.at, hF'.hp, hcell, hl18, htk18, htk1]
        have hlo : ((E.take i).filter (keepE key)).length ≤ 100 := by
          have := List.length_filter_le (keepE key) (E.take i)
          simp at this; omega
        have hd1 : ∀ b, G0.blk b = none → (G0.set (H.next + 1) (.row 106 18 [z] 0 0)).blk b = none := fun b hb => by rw [Heap.set_other _ _ _ (fun e => by rw [e, b1] at hb; cases hb)]; exact hb
        have hd2 : ∀ b, (G0.set (H.next + 1) (.row 106 18 [z] 0 0)).blk b = none → G0.blk b = none := fun b hb => by
          by_cases hbe : b = H.next + 1
          · rw [hbe, set_same] at hb; cases hb
          · rw [Heap.set_other _ _ _ hbe] at hb; exact hb
        have hUp' : Up (G0.set (H.next + 1) (.row 106 18 [z] 0 0)) H' := fun b x hb => by
          by_cases hbe : b = H.next + 1
          · rw [hbe, set_same] at hb; cases hb; rw [hbe]; exact hz
          · rw [Heap.set_other _ _ _ hbe] at hb; exact hoff _ _ hbe hb
        have hone : ∀ cs ∈ [ecell p.1 g p.2], cs.all AV.isCell = true := fun cs hc => by
          rw [List.mem_singleton] at hc
          rw [hc]; exact hcell
        refine opStep_append app71 ((own_redom hO hd1).up (hF'.hpU _)) (hF'.hpF _) (hUp'.trans (hF'.hpU _)) (holds_hp (k := 1) rfl rfl (Nat.le_refl _) (by simp [hl18])) hone (by simp [maxBytes]; omega) (by simp [maxBytes]; omega) (fun u K' hO4 hU4 hF4 => ?_)
        simp (maxSteps := 1000000) only [sx, fx, implies_true, evBuildSlice, fillE, fillA, Nat.reduceMul, Nat.reducePow, AV.isCell, Nat.reduceSub, here, plain, laid, Nat.reduceBEq, evOp, avOf, avCell, strOf, UInt8.reduceToNat, evBin, evInt, evStr, evUn, Nat.reduceEqDiff, Nat.reduceLT, evResults, evResultsL, reduceCtorEq, AV.isUndef, AV.cells, Nat.reduceAdd, Heap.store, Nat.reduceLeDiff, e17, e16, e15, e1, e7, e8, e5, e9, wrap_succ (i := i) (by omega)]
        refine ⟨⟨hF4, fun b x hb hx => hU4 _ _ (by rw [Heap.set_other _ _ _ hb]; exact hx), i + 1, u, z, hlt, rfl, rfl, by rw [hlks], by rw [hfe]; exact own_redom hO4 hd2, hU4 _ _ set_same, by rw [hlks]; exact hzz⟩, ?_⟩
        omega
      · have hpk : p.1 = key := by simpa using hk
        have hno := lk_take_none hR.nod hp hpk
        rw [hno, if_pos hpk] at hlks
        simp only [Option.none_or] at hlks
        rw [hk] at hfe
        simp only [if_true, List.append_nil] at hfe
        simp (maxSteps := 1000000) only [sx, fx, implies_true, evBuildSlice, fillE, fillA, Nat.reduceMul, Nat.reducePow, AV.isCell, Nat.reduceSub, here, plain, laid, Nat.reduceBEq, evOp, avOf, avCell, strOf, UInt8.reduceToNat, evBin, evInt, evStr, evUn, Nat.reduceEqDiff, Nat.reduceLT, evResults, evResultsL, reduceCtorEq, AV.isUndef, AV.cells, Nat.reduceAdd, Heap.store, Nat.reduceLeDiff, e17, e16, e15, e1, e7, e8, e5, z1, sp, hcell, hl18, htk18, htk1, wrap_succ (i := i) (by omega)]
        refine ⟨⟨(hF'.hpF _).set ((hF'.hpF _).lt (z1 _)) _, (hoff.trans (Off.of_up (hF'.hpU _))).trans (Off.set (B := fun b => b = H.next + 1) rfl _), i + 1, out, _, hlt, rfl, rfl, by rw [hlks]; rfl, ?_, rfl, ?_⟩, ?_⟩
        · rw [hfe]; exact own_set (hO.up (hF'.hpU _)) (c := H.next + 1) (by rw [b1]; simp) _
        · rw [hlks]; subst hpk; exact ⟨g, rfl, hg, hgb⟩
        · omega
    · obtain rfl : i = L.length := by omega
      rw [List.take_length] at e9 hzz
      rw [← hlen, List.take_length] at hO
      have hlz : z.length = 18 := by
        cases hx : lk key L with
        | none => rw [hx] at hzz; rw [hzz]; rfl
        | some n => rw [hx] at hzz; obtain ⟨g', rfl, _⟩ := hzz; rfl
      have htz : z.take 18 = z := List.take_of_length_le (by omega)
      have hcz : z.all AV.isCell = true := by
        cases hx : lk key L with
        | none => rw [hx] at hzz; rw [hzz]; rfl
        | some n =>
          rw [hx] at hzz
          obtain ⟨g', rfl, hg', _⟩ := hzz
          simp only [ecell, List.all_cons]
          rw [show (ptN g' n).all AV.isCell = true from pt_cells (holds_isCell hg')]; rfl
      have b0' : H'.blk H.next = some (.row 106 18 [ze] 0 0) := hoff _ _ (by omega) b0
      have hle : ze.length = 18 := rfl
      have spz : splice ze 0 z = z := splice_whole (by rw [hlz]; rfl)
      simp (maxSteps := 1000000) only [sx, fx, implies_true, evBuildSlice, fillE, fillA, Nat.reduceMul, Nat.reducePow, AV.isCell, Nat.reduceSub, here, plain, laid, Nat.reduceBEq, evOp, avOf, avCell, strOf, UInt8.reduceToNat, evBin, evInt, evStr, evUn, Nat.reduceEqDiff, Nat.reduceLT, evResults, evResultsL, reduceCtorEq, AV.isUndef, AV.cells, Nat.reduceAdd, Heap.store, Nat.reduceLeDiff, e17, e16, e15, e1, e7, e8, e5, lt_false hlt]
      refine drawStep [] [0, 1, 2, 3, 4, 5] _ rfl (by kernel_rfl) ?_
      simp (maxSteps := 1000000) only [sx, fx, implies_true, evBuildSlice, fillE, fillA, Nat.reduceMul, Nat.reducePow, AV.isCell, Nat.reduceSub, here, plain, laid, Nat.reduceBEq, evOp, avOf, avCell, strOf, UInt8.reduceToNat, evBin, evInt, evStr, evUn, Nat.reduceEqDiff, Nat.reduceLT, evResults, evResultsL, reduceCtorEq, AV.isUndef, AV.cells, Nat.reduceAdd, Heap.store, Nat.reduceLeDiff, e17, e16, e15, e1, e7, e8, e5, e9, hz, htz, hlz, hcz, b0', hle, spz]
      refine hQ out z _ ?_ (hF'.set (hF'.lt b0') _) ?_ hzz
      · intro b x hb
        rw [Heap.set_other _ _ _ (fun e => by rw [e, hF.at] at hb; cases hb)]
        exact hoffH _ _ hb
      · exact (own_set hO (c := H.next) (by rw [b0]; simp) _).base u0
end Go.Proofs.T
