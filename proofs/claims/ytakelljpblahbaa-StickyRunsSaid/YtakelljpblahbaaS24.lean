import Derived.Test.YtakelljpblahbaaS23
set_option linter.unusedVariables false
set_option linter.unusedSimpArgs false
set_option maxRecDepth 100000
namespace Go.Proofs.T
open Go.Ev

theorem f31_empty {H : Heap} {G : Nat → Prop} {rx : Nat} {sz fo wr : Int} {L : Stored} {g : AV} (n : Int) (hF : Free H) (hR : Ref H G rx sz fo wr L) (Q : AV → Heap → Prop) (hQ : ∀ H', Up H H' → Free H' → Q (.int .i64 2) H') : WF Try.prog 31 [.ptr rx 0 0 0, .str [], .agg (ptN g n)] H Q := by
  obtain ⟨ev, E, hR⟩ := hR
  refine WF_body Try.func31 (by kernel_rfl) rfl Try.ntmps31 (by rw [Try.results31]) (of_decide_eq_true (by kernel_rfl)) ?_
  have hrow := hR.row
  simp only [refRow] at hrow
  have hrow0 := fun xs => hF.hpU xs _ _ hrow
  have hln : (ptN g n).length = 17 := rfl
  simp (maxSteps := 1000000) only [sx, fx, implies_true, evBuildSlice, fillE, fillA, Nat.reduceMul, Nat.reducePow, AV.isCell, Nat.reduceSub, here, plain, laid, Nat.reduceBEq, evOp, avOf, avCell, strOf, UInt8.reduceToNat, evBin, evInt, evStr, evUn, Nat.reduceEqDiff, Nat.reduceLT, evResults, evResultsL, reduceCtorEq, AV.isUndef, AV.cells, Nat.reduceAdd, Heap.store, Nat.reduceLeDiff, hF.at, hF.hp, eqOk, eqp54_p, hrow0, hln, BEq.rfl]
  exact hQ _ (hF.hpU _) (hF.hpF _)

theorem putL_nodup {sz : Int} {key : List Nat} {n : Int} {L : Stored} (h : (L.map Prod.fst).Nodup) : ((putL sz key n L).map Prod.fst).Nodup := by
  have h1 := push_nodup (key := key) (n := n) h
  unfold putL
  split
  · rw [List.map_tail]; exact h1.tail
  · exact h1

/-- What Put leaves: the blocks of the point that came are the cache's now. -/
def RPostG (X : Nat → Prop) (H : Heap) (G : Nat → Prop) (rx : Nat) (sz fo wr : Int) (L : Stored) (H' : Heap) : Prop :=
  ∃ G', Ref H' G' rx sz fo wr L ∧ (∀ b, G' b → G b ∨ H.blk b = none ∨ X b) ∧ Off (fun b => b = rx) H H' ∧ Free H'

theorem f31_ok {H : Heap} {G : Nat → Prop} {rx : Nat} {sz fo wr : Int} {L : Stored} {g : AV} (key : List Nat) (n : Int) (hkey : key ≠ []) (hF : Free H) (hR : Ref H G rx sz fo wr L) (hg : Holds H 5 g [vi 2 n]) (hgx : ∀ b, blkOf g = some b → b ≠ rx ∧ H.blk b ≠ none) (hn : L.length ≤ 98) (Q : AV → Heap → Prop)
    (hQ : ∀ H', RPostG (fun b => blkOf g = some b) H G rx sz fo wr (putL sz key n L) H' → Q (.int .i64 0) H') : WF Try.prog 31 [.ptr rx 0 0 0, .str key, .agg (ptN g n)] H Q := by
  obtain ⟨ev, E, hR⟩ := hR
  refine WF_body Try.func31 (by kernel_rfl) rfl Try.ntmps31 (by rw [Try.results31]) (of_decide_eq_true (by kernel_rfl)) ?_
  have hrow := hR.row
  simp only [refRow] at hrow
  have hrow0 := fun xs => hF.hpU xs _ _ hrow
  have hln : (ptN g n).length = 17 := rfl
  have htk : (ptN g n).take 17 = ptN g n := rfl
  have hgc := holds_isCell hg
  have hcl : (ptN g n).all AV.isCell = true := pt_cells hgc
  have hkb : (key == []) = false := by cases key with
    | nil => exact absurd rfl hkey
    | cons a l => rfl
  have hbu : evBuild Try.prog 106 [(0, .str key), (1, .agg (ptN g n))] = some (.agg (ecell key g n)) := by
    simp only [ptN, pt, bu106]
    rfl
  simp (maxSteps := 1000000) only [sx, fx, implies_true, evBuildSlice, fillE, fillA, Nat.reduceMul, Nat.reducePow, AV.isCell, Nat.reduceSub, here, plain, laid, Nat.reduceBEq, evOp, avOf, avCell, strOf, UInt8.reduceToNat, evBin, evInt, evStr, evUn, Nat.reduceEqDiff, Nat.reduceLT, evResults, evResultsL, reduceCtorEq, AV.isUndef, AV.cells, Nat.reduceAdd, Heap.store, Nat.reduceLeDiff, hF.at, hF.hp, eqOk, eqp54_p, hrow0, hln, hkb]
  have hR0 : RInv (HP H [Blk.row 43 17 [ptN g n] 0 0]) G rx ev E sz fo wr L := by
    obtain ⟨a, b⟩ := hR
    exact ⟨hF.hpU _ _ _ a, b.up (hF.hpU _), ER.off (B := fun _ => False) (Off.of_up (hF.hpU _)) (fun _ _ => id) (by assumption), by assumption, by assumption, fun b hb => by
      rename_i dom _ _ 
      cases hx : H.blk b with
      | none => exact absurd hx (dom b hb)
      | some x => rw [hF.hpU _ _ _ hx]; simp, by assumption, by assumption⟩
  refine callStep (f54_ok key (hF.hpF _) hR0 _ fun out z H1 hU1 hF1 hO1 hz => ?_)
  obtain ⟨hlz, hcz⟩ := Found.cells hz
  have hU := (hF.hpU [Blk.row 43 17 [ptN g n] 0 0]).trans hU1
  have b0 : ∀ xs, (HP H1 xs).blk H.next = some (.row 43 17 [ptN g n] 0 0) := fun xs => hF1.hpU xs _ _ (hU1 _ _ (by rw [hp_blk0]; rfl))
  have hle : (ecell key g n).length = 18 := rfl
  have hce : (ecell key g n).all AV.isCell = true := by simp only [ecell, List.all_cons, hcl]; rfl
  simp (maxSteps := 1000000) only [sx, fx, implies_true, evBuildSlice, fillE, fillA, Nat.reduceMul, Nat.reducePow, AV.isCell, Nat.reduceSub, here, plain, laid, Nat.reduceBEq, evOp, avOf, avCell, strOf, UInt8.reduceToNat, evBin, evInt, evStr, evUn, Nat.reduceEqDiff, Nat.reduceLT, evResults, evResultsL, reduceCtorEq, AV.isUndef, AV.cells, Nat.reduceAdd, Heap.store, Nat.reduceLeDiff, hF1.at, hF1.hp, hlz, hcz, b0, htk, hbu, hle]
  have hOX := hO1.up (hF1.hpU [Blk.row 106 18 [z] 0 0, Blk.row 106 18 [ecell key g n] 0 0])
  have hFX := hF1.hpF [Blk.row 106 18 [z] 0 0, Blk.row 106 18 [ecell key g n] 0 0]
  have hUX := hU.trans (hF1.hpU [Blk.row 106 18 [z] 0 0, Blk.row 106 18 [ecell key g n] 0 0])
  have hlv := own_live (hOX.base (hF.hpU _))
  have hnr : blkOf out ≠ some rx := fun e => by have := (hlv _ e).2; rw [hR.row] at this; cases this
  have hlE := hR.ents.len
  have hfl : (E.filter (keepE key)).length ≤ 100 := by have := List.length_filter_le (keepE key) E; omega
  refine opStep_append app71 (own_del hOX) hFX (del_up _ _) (holds_hp (k := 1) rfl rfl (Nat.le_refl _) (fun cs hc => by rw [List.mem_singleton] at hc; rw [hc]; rfl)) (fun cs hc => by rw [List.mem_singleton] at hc; rw [hc]; exact hce) (by simp [maxBytes]; omega) (by simp [maxBytes]; omega) (fun u K' hO4 hU4 hF4 => ?_)
  have hXH : ∀ b x, H.blk b = some x → K'.blk b = some x := fun b x hx => hU4 _ _ (by rw [del_blk (fun e => by have := (hlv _ e).2; rw [hx] at this; cases this)]; exact hUX _ _ hx)
  have rK : K'.blk rx = some (refRow sz ev fo wr) := hXH _ _ hrow
  have hEF : ER H (fun b => G b ∧ b ≠ rx) (E.filter (keepE key)) (without key L) := ER.filter key hR.ents
  have hlen1 : (E.filter (keepE key) ++ [ecell key g n]).length = (without key L ++ [(key, n)]).length := by simp [hEF.len]
  obtain ⟨ub, ug, ut, uw, uex, rfl, hurow, huw, huf⟩ : ∃ ub ug ut uw uex, u = .slice ub 0 (E.filter (keepE key) ++ [ecell key g n]).length (E.filter (keepE key) ++ [ecell key g n]).length uex ug ∧ K'.blk ub = some (.row ut 18 (E.filter (keepE key) ++ [ecell key g n]) ug uw) ∧ uw ≤ ug ∧ H.blk ub = none := by
    have hun : ∀ b, blkOf u = some b → H.blk b = none := fun b hb => by
      cases hx : H.blk b with
      | none => rfl
      | some y =>
        exfalso
        have h1 := (own_live hO4 b hb).2
        by_cases hbo : blkOf out = some b
        · have := (hlv b hbo).2; rw [hx] at this; cases this
        · rw [del_blk hbo, hUX _ _ hx] at h1; cases h1
    obtain ⟨_, ⟨q, _⟩ | ⟨b', g', w', q, q2, q3, q4⟩ | ⟨b', g', t', gen, w', q, q2, q3, q4⟩⟩ := hO4
    · simp at q
    · exact ⟨b', g', _, w', _, q, q2, q3, hun b' (by rw [q]; rfl)⟩
    · obtain ⟨q3, rfl⟩ := q3
      exact ⟨b', gen, _, w', _, q, q2, q3, hun b' (by rw [q]; rfl)⟩
  have hubx : ub ≠ rx := fun e => by rw [e, hR.row] at huf; cases huf
  generalize hNN : (E.filter (keepE key) ++ [ecell key g n]).length = N at *
  have hl2 : ∀ Z, evBuiltin Try.prog Z .len #[71] [.slice ub 0 N N uex ug] = some (.int .i64 N, Z) := fun Z => len_slice und71 Z ub 0 N N uex ug
  have hoffF : ∀ x, Off (fun b => b = rx) H (K'.set rx x) := fun x => (show Off (fun b => b = rx) H K' from fun b y _ hy => hXH b y hy).trans (Off.set (B := fun b => b = rx) rfl x)
  have hFF : ∀ x, Free (K'.set rx x) := fun x => hF4.set (hF4.lt rK) x
  have uF : ∀ x, (K'.set rx x).blk ub = some (.row ut 18 (E.filter (keepE key) ++ [ecell key g n]) ug uw) := fun x => by rw [Heap.set_other _ _ _ hubx]; exact hurow
  have hER : ∀ x, ER (K'.set rx x) (fun b => (G b ∨ (b = ub ∨ blkOf g = some b)) ∧ b ≠ rx) (E.filter (keepE key) ++ [ecell key g n]) (without key L ++ [(key, n)]) := fun x =>
    ER.append ((ER.off (hoffF x) (fun b hb => hb.2) hEF).mono fun b hb => ⟨.inl hb.1, hb.2⟩) ⟨⟨g, rfl, hg.off (hoffF x) (fun b hb => (hgx b hb).1), fun b hb => ⟨.inr (.inr hb), (hgx b hb).1⟩⟩, trivial⟩
  have hdn : ∀ x b, (b = ub ∨ blkOf g = some b) → (K'.set rx x).blk b ≠ none := fun x b hb => by
    rcases hb with rfl | hb
    · rw [uF]; simp
    · cases hx : H.blk b with
      | none => exact absurd hx (hgx b hb).2
      | some y => rw [hoffF x _ _ (hgx b hb).1 hx]; simp
  have hGG : ∀ b, (G b ∨ (b = ub ∨ blkOf g = some b)) → G b ∨ H.blk b = none ∨ blkOf g = some b := fun b hb => by
    rcases hb with h | rfl | h
    · exact .inl h
    · exact .inr (.inl huf)
    · exact .inr (.inr h)
  have hcells : ∀ cs ∈ E.filter (keepE key) ++ [ecell key g n], cs.length = 18 := fun cs hc => by
    rcases List.mem_append.1 hc with hc | hc
    · exact (hEF.cells cs hc).1
    · rw [List.mem_singleton] at hc; rw [hc]; rfl
  simp only [refRow] at rK
  by_cases hbig : (N : Int) > sz
  · have hput : putL sz key n L = (without key L ++ [(key, n)]).tail := by rw [putL, if_pos (by rw [← hlen1]; exact hbig)]
    have hsl : evSlice Try.prog K' 71 (.slice ub 0 N N uex ug) (some 1) none none = some (.slice ub 1 (N - 1) (N - 1) uex ug) := by
      have hN1 : 1 ≤ N := by rw [← hNN]; simp
      have e1 : ((N : Int) - 1).toNat = N - 1 := by omega
      simp [evSlice, und71, sz106, Heap.eszOf, hurow, huw, boundsOk, e1]
      omega
    simp (maxSteps := 1000000) only [sx, fx, implies_true, evBuildSlice, fillE, fillA, Nat.reduceMul, Nat.reducePow, AV.isCell, Nat.reduceSub, here, plain, laid, Nat.reduceBEq, evOp, avOf, avCell, strOf, UInt8.reduceToNat, evBin, evInt, evStr, evUn, Nat.reduceEqDiff, Nat.reduceLT, evResults, evResultsL, reduceCtorEq, AV.isUndef, AV.cells, Nat.reduceAdd, Heap.store, Nat.reduceLeDiff, hl2, rK, hbig, optInt, hsl]
    refine hQ _ ⟨_, ⟨_, _, hR.new (fun b => b = ub ∨ blkOf g = some b) (hoffF _) set_same (E' := (E.filter (keepE key) ++ [ecell key g n]).tail) ?_ (by rw [hput]; exact ER.tail (hER _)) (fun b hb => ?_) (hdn _) (putL_nodup hR.nod) ?_⟩, hGG, hoffF _, hFF _⟩
    · refine ⟨fun cs hc => hcells cs (List.mem_of_mem_tail hc), .inr (.inr ⟨ub, 1, N - 1, uex, ug, ut, _, ug, uw, ?_, uF _, huw, ?_, ?_, ?_⟩)⟩
      · rw [List.length_tail, hNN]
      · rw [List.drop_one, List.take_length]
      · rw [List.length_tail, hNN]; have : 1 ≤ N := by rw [← hNN]; simp
        omega
      · rw [List.length_tail, hNN]; exact Nat.le_refl _
    · simp only [blkOf, Option.some.injEq] at hb
      exact ⟨.inr (.inl hb.symm), by rw [← hb]; exact hubx⟩
    · have := without_len key L; rw [hput, List.length_tail]; simp; omega
  · have hput : putL sz key n L = without key L ++ [(key, n)] := by rw [putL, if_neg (by rw [← hlen1]; exact hbig)]
    simp (maxSteps := 1000000) only [sx, fx, implies_true, evBuildSlice, fillE, fillA, Nat.reduceMul, Nat.reducePow, AV.isCell, Nat.reduceSub, here, plain, laid, Nat.reduceBEq, evOp, avOf, avCell, strOf, UInt8.reduceToNat, evBin, evInt, evStr, evUn, Nat.reduceEqDiff, Nat.reduceLT, evResults, evResultsL, reduceCtorEq, AV.isUndef, AV.cells, Nat.reduceAdd, Heap.store, Nat.reduceLeDiff, hl2, rK, hbig]
    refine hQ _ ⟨_, ⟨_, _, hR.new (fun b => b = ub ∨ blkOf g = some b) (hoffF _) set_same (E' := E.filter (keepE key) ++ [ecell key g n]) ?_ (by rw [hput]; exact hER _) (fun b hb => ?_) (hdn _) (putL_nodup hR.nod) ?_⟩, hGG, hoffF _, hFF _⟩
    · refine ⟨hcells, .inr (.inr ⟨ub, 0, N, uex, ug, ut, _, ug, uw, ?_, uF _, huw, ?_, ?_, ?_⟩)⟩
      · rw [hNN]
      · rw [List.drop_zero, List.take_length]
      · rw [hNN]; omega
      · rw [hNN]; exact Nat.le_refl _
    · simp only [blkOf, Option.some.injEq] at hb
      exact ⟨.inr (.inl hb.symm), by rw [← hb]; exact hubx⟩
    · have := without_len key L; rw [hput]; simp; omega
end Go.Proofs.T
