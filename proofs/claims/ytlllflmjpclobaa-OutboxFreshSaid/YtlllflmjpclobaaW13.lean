import Derived.Test.YtlllflmjpclobaaW12
set_option linter.unusedVariables false
set_option linter.unusedSimpArgs false
set_option linter.unusedVariables false
set_option linter.unusedSimpArgs false
set_option maxRecDepth 100000
namespace Go.Proofs.T
open Go.Ev

set_option maxHeartbeats 8000000 in
theorem f85_ok {n n0 B : Nat} {H : Heap} {dk di : Int} {ds : List Nat} {dv dw : AV} {L M : List (List AV)} {x : List AV} {ky : List Nat} (hv : Holds H 5 dv L) (hvw : Holds H 1 dw M) (hL : ∀ c ∈ L, VR n0 H c) (hM : StrL M) (hlen : L.length = M.length) (hLB : L.length ≤ B) (hx : VR n H x) (hB : B ≤ 10000000) (hF : Free H) (K : AV → Heap → Prop)
    (hK : ∀ vI wK LI LK H', Own H H' 26 5 vI LI → Own H H' 9 1 wK LK → LI.length = LK.length → LI.length ≤ L.length + 1 → (∀ c ∈ LI, c ∈ L ∨ c = x) → StrL LK → Up H H' → Free H' → K (.agg [.int .i64 5, .int .i64 0, .str [], vI, wK]) H') :
    WF Try.prog 85 [.agg [.int .i64 dk, .int .i64 di, .str ds, dv, dw], .str ky, .agg x] H K := by
  have xl := hx.len
  have xc := hx.cells
  have xt : x.take 5 = x := List.take_of_length_le (by omega)
  refine WF_body Try.func85 (by kernel_rfl) rfl Try.ntmps85 (by rw [Try.results85]) (of_decide_eq_true (by kernel_rfl)) ?_
  simp (maxSteps := 1000000) only [sx, fx, ux, implies_true, evBuildSlice, fillE, fillA, here, plain, laid, evOp, avOf, avCell, strOf, evBin, evInt, evStr, evUn, evResults, evResultsL, Heap.store, wbool_off, after_scope, Nat.reduceMul, Nat.reducePow, Nat.reduceSub, Nat.reduceBEq, UInt8.reduceToNat, Nat.reduceEqDiff, Nat.reduceLT, reduceCtorEq, Nat.reduceAdd, Nat.reduceLeDiff, hF.at, hF.hp, xl]
  generalize hH1 : HP H [Blk.row 26 5 [[.int .i64 dk, .int .i64 di, .str ds, dv, dw]] 0 0, Blk.row 26 5 [x] 0 0, Blk.row 26 5 [zv] 0 0, Blk.row 26 5 [[.int .i64 5, .int .i64 0, .str [], .nilslice, .nilslice]] 0 0] = H1
  have hH1' := hH1
  unfold zv at hH1'
  simp only [hH1']
  have wi0 : WI H H1 [.int .i64 dk, .int .i64 di, .str ds, dv, dw] x .nilslice .nilslice [] [] := ⟨by rw [← hH1, hp_blk0]; rfl, by rw [← hH1, hp_blk]; rfl, by rw [← hH1, hp_blk]; rfl, by rw [← hH1, hp_blk]; rfl, hH1 ▸ hF.hpU _, hH1 ▸ hF.hpF _, Own.nil, Own.nil, by simp [rowOf]⟩
  refine loopStep' (fun env H' => ∃ (i : Nat) (dn : Bool) (vI wK : AV) (LI LK : List (List AV)), i ≤ M.length ∧ env.at (.tmp 9) = .int .i64 i ∧ env.at (.tmp 8) = .bool dn ∧ env.at (.tmp 3) = .ptr H.next 0 0 0 ∧ env.at (.tmp 5) = .ptr (H.next + 1) 0 0 0 ∧ env.at (.tmp 6) = .ptr (H.next + 2) 0 0 0 ∧ env.at (.tmp 7) = .ptr (H.next + 3) 0 0 0 ∧ env.at (.tmp 1) = .str ky ∧
      WI H H' [.int .i64 dk, .int .i64 di, .str ds, dv, dw] x vI wK LI LK ∧ LI.length = LK.length ∧ LI.length ≤ i + dn.toNat ∧ (∀ c ∈ LI, c ∈ L ∨ c = x) ∧ StrL LK)
    (fun env H' => match env.at (.tmp 9) with | .int _ i => ((M.length : Int) - i).toNat | _ => 0) ?_ ?_
  · exact ⟨0, false, .nilslice, .nilslice, [], [], Nat.zero_le _, by simp only [sx, fx, ux, implies_true, evBuildSlice, fillE, fillA, here, plain, laid, evOp, avOf, avCell, strOf, evBin, evInt, evStr, evUn, evResults, evResultsL, Heap.store, wbool_off, after_scope, Nat.reduceMul, Nat.reducePow, Nat.reduceSub, Nat.reduceBEq, UInt8.reduceToNat, Nat.reduceEqDiff, Nat.reduceLT, reduceCtorEq, Nat.reduceAdd, Nat.reduceLeDiff]; rfl, by simp only [sx, fx, ux, implies_true, evBuildSlice, fillE, fillA, here, plain, laid, evOp, avOf, avCell, strOf, evBin, evInt, evStr, evUn, evResults, evResultsL, Heap.store, wbool_off, after_scope, Nat.reduceMul, Nat.reducePow, Nat.reduceSub, Nat.reduceBEq, UInt8.reduceToNat, Nat.reduceEqDiff, Nat.reduceLT, reduceCtorEq, Nat.reduceAdd, Nat.reduceLeDiff], by simp only [sx, fx, ux, implies_true, evBuildSlice, fillE, fillA, here, plain, laid, evOp, avOf, avCell, strOf, evBin, evInt, evStr, evUn, evResults, evResultsL, Heap.store, wbool_off, after_scope, Nat.reduceMul, Nat.reducePow, Nat.reduceSub, Nat.reduceBEq, UInt8.reduceToNat, Nat.reduceEqDiff, Nat.reduceLT, reduceCtorEq, Nat.reduceAdd, Nat.reduceLeDiff], by simp only [sx, fx, ux, implies_true, evBuildSlice, fillE, fillA, here, plain, laid, evOp, avOf, avCell, strOf, evBin, evInt, evStr, evUn, evResults, evResultsL, Heap.store, wbool_off, after_scope, Nat.reduceMul, Nat.reducePow, Nat.reduceSub, Nat.reduceBEq, UInt8.reduceToNat, Nat.reduceEqDiff, Nat.reduceLT, reduceCtorEq, Nat.reduceAdd, Nat.reduceLeDiff], by simp only [sx, fx, ux, implies_true, evBuildSlice, fillE, fillA, here, plain, laid, evOp, avOf, avCell, strOf, evBin, evInt, evStr, evUn, evResults, evResultsL, Heap.store, wbool_off, after_scope, Nat.reduceMul, Nat.reducePow, Nat.reduceSub, Nat.reduceBEq, UInt8.reduceToNat, Nat.reduceEqDiff, Nat.reduceLT, reduceCtorEq, Nat.reduceAdd, Nat.reduceLeDiff], by simp only [sx, fx, ux, implies_true, evBuildSlice, fillE, fillA, here, plain, laid, evOp, avOf, avCell, strOf, evBin, evInt, evStr, evUn, evResults, evResultsL, Heap.store, wbool_off, after_scope, Nat.reduceMul, Nat.reducePow, Nat.reduceSub, Nat.reduceBEq, UInt8.reduceToNat, Nat.reduceEqDiff, Nat.reduceLT, reduceCtorEq, Nat.reduceAdd, Nat.reduceLeDiff], by simp only [sx, fx, ux, implies_true, evBuildSlice, fillE, fillA, here, plain, laid, evOp, avOf, avCell, strOf, evBin, evInt, evStr, evUn, evResults, evResultsL, Heap.store, wbool_off, after_scope, Nat.reduceMul, Nat.reducePow, Nat.reduceSub, Nat.reduceBEq, UInt8.reduceToNat, Nat.reduceEqDiff, Nat.reduceLT, reduceCtorEq, Nat.reduceAdd, Nat.reduceLeDiff], wi0, rfl, by simp, by simp, by simp [StrL]⟩
  · rintro env H' ⟨i, dn, vI, wK, LI, LK, hi, e9, e8, e3, e5, e6, e7, e1, wi, hll, hlb, hvr, hst⟩
    obtain ⟨p1, p2, p3⟩ := own_plain wi.oI
    obtain ⟨q1, q2, q3⟩ := own_plain wi.oK
    by_cases hlt : i < M.length
    · obtain ⟨c, hc⟩ : ∃ c, M[i]? = some c := ⟨_, List.getElem?_eq_getElem hlt⟩
      obtain ⟨s', rfl⟩ := hM c (List.mem_of_getElem? hc)
      obtain ⟨y, hy⟩ : ∃ y, L[i]? = some y := ⟨_, List.getElem?_eq_getElem (by omega)⟩
      have hyR := hL y (List.mem_of_getElem? hy)
      have yl := hyR.len
      have yc := hyR.cells
      have yt : y.take 5 = y := List.take_of_length_le (by omega)
      have hw := wrap_succ (i := i) (by omega)
      have lk := hvw.lenAt (P := Try.prog) und24
      obtain ⟨pk, hpk, hlk, hnk⟩ := hvw.index (P := Try.prog) und24 sz9 .i64 hc
      obtain ⟨py, hpy, hly, hny⟩ := hv.index (P := Try.prog) und23 sz26 .i64 hy
      have hpk' : ∀ G, Up H G → evIndexAddr Try.prog G 24 dw (.int .i64 i) = some pk := fun G hG => evIndexAddr_up (P := Try.prog) hpk hG
      have hpy' : ∀ G, Up H G → evIndexAddr Try.prog G 23 dv (.int .i64 i) = some py := fun G hG => evIndexAddr_up (P := Try.prog) hpy hG
      cases dn with
      | true =>
        simp only [Bool.toNat_true] at hlb
        have vr0 : ∀ c ∈ LI, c ∈ L ∨ c = x := hvr
        have st0 : StrL LK := hst
        have ix := hpk' _ wi.U
        have il := hlk _ wi.U
        cases hq : (s' == ky) with
        | true =>
          simp (maxSteps := 1000000) only [sx, fx, ux, implies_true, evBuildSlice, fillE, fillA, here, plain, laid, evOp, avOf, avCell, strOf, evBin, evInt, evStr, evUn, evResults, evResultsL, Heap.store, wbool_off, after_scope, Nat.reduceMul, Nat.reducePow, Nat.reduceSub, Nat.reduceBEq, UInt8.reduceToNat, Nat.reduceEqDiff, Nat.reduceLT, reduceCtorEq, Nat.reduceAdd, Nat.reduceLeDiff, e9, e8, e3, e5, e6, e7, e1, wi.b0, ix, il, hq, hw, lk, lt_true hlt]
          refine ⟨⟨i + 1, true, vI, wK, LI, LK, hlt, rfl, rfl, wi, by first | omega | (simp only [Bool.toNat_true, Bool.toNat_false, List.length_append, List.length_cons, List.length_nil]; omega), by first | omega | (simp only [Bool.toNat_true, Bool.toNat_false, List.length_append, List.length_cons, List.length_nil]; omega), vr0, st0⟩, ?_⟩
          omega
        | false =>
          have hub : ∀ (G : Heap), Free G → ∀ xs, UpB G.blk (HP G xs).blk = True := fun G hG xs => eq_true (fun b z hb => hG.hpU xs b z hb)
          simp (maxSteps := 1000000) only [sx, fx, ux, implies_true, evBuildSlice, fillE, fillA, here, plain, laid, evOp, avOf, avCell, strOf, evBin, evInt, evStr, evUn, evResults, evResultsL, Heap.store, wbool_off, after_scope, Nat.reduceMul, Nat.reducePow, Nat.reduceSub, Nat.reduceBEq, UInt8.reduceToNat, Nat.reduceEqDiff, Nat.reduceLT, reduceCtorEq, Nat.reduceAdd, Nat.reduceLeDiff, e9, e8, e3, e5, e6, e7, e1, wi.b0, ix, il, hq, lk, lt_true hlt]
          refine drawStep [7] [0, 1, 2, 3, 4, 5, 6, 7, 8, 9, 10] _ rfl (by kernel_rfl) ?_
          simp (maxSteps := 1000000) only [sx, fx, ux, implies_true, evBuildSlice, fillE, fillA, here, plain, laid, evOp, avOf, avCell, strOf, evBin, evInt, evStr, evUn, evResults, evResultsL, Heap.store, wbool_off, after_scope, Nat.reduceMul, Nat.reducePow, Nat.reduceSub, Nat.reduceBEq, UInt8.reduceToNat, Nat.reduceEqDiff, Nat.reduceLT, reduceCtorEq, Nat.reduceAdd, Nat.reduceLeDiff, e9, e8, e3, e5, e6, e7, e1, wi.b0, wi.b3, ix, il, wi.F.at, wi.F.hp, hub _ wi.F]
          refine opStep_append app24 (own_but (wi.hp _).oK) (wi.hp _).F but_up (holds_hp (k := 0) (L := [[.str s']]) rfl rfl (Nat.le_refl _) (by simp)) (fun cs hcs => by rw [List.mem_singleton] at hcs; rw [hcs]; rfl) (by simp only [maxBytes, List.length_cons, List.length_nil, List.nil_append, List.length_append]; omega) (by simp only [maxBytes, List.length_cons, List.length_nil, List.nil_append, List.length_append]; omega) (fun x1 K3 cO cU cF => ?_)
          obtain ⟨c3, wi3⟩ := (wi.hp _).keys hF cO cU cF
          obtain ⟨x1a, x1b, x1c⟩ := own_plain cO
          simp (maxSteps := 1000000) only [sx, fx, ux, implies_true, evBuildSlice, fillE, fillA, here, plain, laid, evOp, avOf, avCell, strOf, evBin, evInt, evStr, evUn, evResults, evResultsL, Heap.store, wbool_off, after_scope, Nat.reduceMul, Nat.reducePow, Nat.reduceSub, Nat.reduceBEq, UInt8.reduceToNat, Nat.reduceEqDiff, Nat.reduceLT, reduceCtorEq, Nat.reduceAdd, Nat.reduceLeDiff, e9, e8, e3, e5, e6, e7, e1, c3, x1a, x1b, x1c]
          generalize hH7 : K3.set (H.next + 3) (.row 26 5 [[.int .i64 5, .int .i64 0, .str [], vI, x1]] 0 0) = H7 at *
          refine drawStep [7] [0, 1, 2, 3, 4, 5, 6, 7, 8, 9, 10] _ rfl (by kernel_rfl) ?_
          have ix2 := hpy' _ wi3.U
          have il2 := hly _ wi3.U
          simp (maxSteps := 1000000) only [sx, fx, ux, implies_true, evBuildSlice, fillE, fillA, here, plain, laid, evOp, avOf, avCell, strOf, evBin, evInt, evStr, evUn, evResults, evResultsL, Heap.store, wbool_off, after_scope, Nat.reduceMul, Nat.reducePow, Nat.reduceSub, Nat.reduceBEq, UInt8.reduceToNat, Nat.reduceEqDiff, Nat.reduceLT, reduceCtorEq, Nat.reduceAdd, Nat.reduceLeDiff, e9, e8, e3, e5, e6, e7, e1, wi3.b0, wi3.b3, ix2, il2, yl, yt, yc, wi3.F.at, wi3.F.hp, hub _ wi3.F]
          refine opStep_append app23 (own_but (wi3.hp _).oI) (wi3.hp _).F but_up (holds_hp (k := 0) (L := [y]) rfl rfl (Nat.le_refl _) (by simp [yl])) (fun cs hcs => by rw [List.mem_singleton] at hcs; rw [hcs]; exact yc) (by simp only [maxBytes, List.length_cons, List.length_nil, List.nil_append, List.length_append]; omega) (by simp only [maxBytes, List.length_cons, List.length_nil, List.nil_append, List.length_append]; omega) (fun x2 K4 dO dU dF => ?_)
          obtain ⟨d3, wi4⟩ := (wi3.hp _).items hF dO dU dF
          obtain ⟨x2a, x2b, x2c⟩ := own_plain dO
          simp (maxSteps := 1000000) only [sx, fx, ux, implies_true, evBuildSlice, fillE, fillA, here, plain, laid, evOp, avOf, avCell, strOf, evBin, evInt, evStr, evUn, evResults, evResultsL, Heap.store, wbool_off, after_scope, Nat.reduceMul, Nat.reducePow, Nat.reduceSub, Nat.reduceBEq, UInt8.reduceToNat, Nat.reduceEqDiff, Nat.reduceLT, reduceCtorEq, Nat.reduceAdd, Nat.reduceLeDiff, e9, e8, e3, e5, e6, e7, e1, d3, x2a, x2b, x2c, hw]
          refine ⟨⟨i + 1, true, x2, x1, (LI ++ [y]), (LK ++ [[.str s']]), hlt, rfl, rfl, wi4, by first | omega | (simp only [Bool.toNat_true, Bool.toNat_false, List.length_append, List.length_cons, List.length_nil]; omega), by first | omega | (simp only [Bool.toNat_true, Bool.toNat_false, List.length_append, List.length_cons, List.length_nil]; omega), fun c hc => (List.mem_append.1 hc).elim (vr0 c) fun hc => by rw [List.mem_singleton] at hc; rw [hc]; exact .inl (List.mem_of_getElem? hy), fun c hc => (List.mem_append.1 hc).elim (st0 c) fun hc => by rw [List.mem_singleton] at hc; exact ⟨_, hc⟩⟩, ?_⟩
          omega
      | false =>
        simp only [Bool.toNat_false] at hlb
        cases hge : lessA s' ky with
        | true =>
          have vr0 : ∀ c ∈ LI, c ∈ L ∨ c = x := hvr
          have st0 : StrL LK := hst
          have ix := hpk' _ wi.U
          have il := hlk _ wi.U
          cases hq : (s' == ky) with
          | true =>
            simp (maxSteps := 1000000) only [sx, fx, ux, implies_true, evBuildSlice, fillE, fillA, here, plain, laid, evOp, avOf, avCell, strOf, evBin, evInt, evStr, evUn, evResults, evResultsL, Heap.store, wbool_off, after_scope, Nat.reduceMul, Nat.reducePow, Nat.reduceSub, Nat.reduceBEq, UInt8.reduceToNat, Nat.reduceEqDiff, Nat.reduceLT, reduceCtorEq, Nat.reduceAdd, Nat.reduceLeDiff, e9, e8, e3, e5, e6, e7, e1, wi.b0, ix, il, hq, hw, lk, lt_true hlt, hge]
            refine ⟨⟨i + 1, false, vI, wK, LI, LK, hlt, rfl, rfl, wi, by first | omega | (simp only [Bool.toNat_true, Bool.toNat_false, List.length_append, List.length_cons, List.length_nil]; omega), by first | omega | (simp only [Bool.toNat_true, Bool.toNat_false, List.length_append, List.length_cons, List.length_nil]; omega), vr0, st0⟩, ?_⟩
            omega
          | false =>
            have hub : ∀ (G : Heap), Free G → ∀ xs, UpB G.blk (HP G xs).blk = True := fun G hG xs => eq_true (fun b z hb => hG.hpU xs b z hb)
            simp (maxSteps := 1000000) only [sx, fx, ux, implies_true, evBuildSlice, fillE, fillA, here, plain, laid, evOp, avOf, avCell, strOf, evBin, evInt, evStr, evUn, evResults, evResultsL, Heap.store, wbool_off, after_scope, Nat.reduceMul, Nat.reducePow, Nat.reduceSub, Nat.reduceBEq, UInt8.reduceToNat, Nat.reduceEqDiff, Nat.reduceLT, reduceCtorEq, Nat.reduceAdd, Nat.reduceLeDiff, e9, e8, e3, e5, e6, e7, e1, wi.b0, ix, il, hq, lk, lt_true hlt, hge]
            refine drawStep [7] [0, 1, 2, 3, 4, 5, 6, 7, 8, 9, 10] _ rfl (by kernel_rfl) ?_
            simp (maxSteps := 1000000) only [sx, fx, ux, implies_true, evBuildSlice, fillE, fillA, here, plain, laid, evOp, avOf, avCell, strOf, evBin, evInt, evStr, evUn, evResults, evResultsL, Heap.store, wbool_off, after_scope, Nat.reduceMul, Nat.reducePow, Nat.reduceSub, Nat.reduceBEq, UInt8.reduceToNat, Nat.reduceEqDiff, Nat.reduceLT, reduceCtorEq, Nat.reduceAdd, Nat.reduceLeDiff, e9, e8, e3, e5, e6, e7, e1, wi.b0, wi.b3, ix, il, wi.F.at, wi.F.hp, hub _ wi.F]
            refine opStep_append app24 (own_but (wi.hp _).oK) (wi.hp _).F but_up (holds_hp (k := 0) (L := [[.str s']]) rfl rfl (Nat.le_refl _) (by simp)) (fun cs hcs => by rw [List.mem_singleton] at hcs; rw [hcs]; rfl) (by simp only [maxBytes, List.length_cons, List.length_nil, List.nil_append, List.length_append]; omega) (by simp only [maxBytes, List.length_cons, List.length_nil, List.nil_append, List.length_append]; omega) (fun x1 K3 cO cU cF => ?_)
            obtain ⟨c3, wi3⟩ := (wi.hp _).keys hF cO cU cF
            obtain ⟨x1a, x1b, x1c⟩ := own_plain cO
            simp (maxSteps := 1000000) only [sx, fx, ux, implies_true, evBuildSlice, fillE, fillA, here, plain, laid, evOp, avOf, avCell, strOf, evBin, evInt, evStr, evUn, evResults, evResultsL, Heap.store, wbool_off, after_scope, Nat.reduceMul, Nat.reducePow, Nat.reduceSub, Nat.reduceBEq, UInt8.reduceToNat, Nat.reduceEqDiff, Nat.reduceLT, reduceCtorEq, Nat.reduceAdd, Nat.reduceLeDiff, e9, e8, e3, e5, e6, e7, e1, c3, x1a, x1b, x1c]
            generalize hH7 : K3.set (H.next + 3) (.row 26 5 [[.int .i64 5, .int .i64 0, .str [], vI, x1]] 0 0) = H7 at *
            refine drawStep [7] [0, 1, 2, 3, 4, 5, 6, 7, 8, 9, 10] _ rfl (by kernel_rfl) ?_
            have ix2 := hpy' _ wi3.U
            have il2 := hly _ wi3.U
            simp (maxSteps := 1000000) only [sx, fx, ux, implies_true, evBuildSlice, fillE, fillA, here, plain, laid, evOp, avOf, avCell, strOf, evBin, evInt, evStr, evUn, evResults, evResultsL, Heap.store, wbool_off, after_scope, Nat.reduceMul, Nat.reducePow, Nat.reduceSub, Nat.reduceBEq, UInt8.reduceToNat, Nat.reduceEqDiff, Nat.reduceLT, reduceCtorEq, Nat.reduceAdd, Nat.reduceLeDiff, e9, e8, e3, e5, e6, e7, e1, wi3.b0, wi3.b3, ix2, il2, yl, yt, yc, wi3.F.at, wi3.F.hp, hub _ wi3.F]
            refine opStep_append app23 (own_but (wi3.hp _).oI) (wi3.hp _).F but_up (holds_hp (k := 0) (L := [y]) rfl rfl (Nat.le_refl _) (by simp [yl])) (fun cs hcs => by rw [List.mem_singleton] at hcs; rw [hcs]; exact yc) (by simp only [maxBytes, List.length_cons, List.length_nil, List.nil_append, List.length_append]; omega) (by simp only [maxBytes, List.length_cons, List.length_nil, List.nil_append, List.length_append]; omega) (fun x2 K4 dO dU dF => ?_)
            obtain ⟨d3, wi4⟩ := (wi3.hp _).items hF dO dU dF
            obtain ⟨x2a, x2b, x2c⟩ := own_plain dO
            simp (maxSteps := 1000000) only [sx, fx, ux, implies_true, evBuildSlice, fillE, fillA, here, plain, laid, evOp, avOf, avCell, strOf, evBin, evInt, evStr, evUn, evResults, evResultsL, Heap.store, wbool_off, after_scope, Nat.reduceMul, Nat.reducePow, Nat.reduceSub, Nat.reduceBEq, UInt8.reduceToNat, Nat.reduceEqDiff, Nat.reduceLT, reduceCtorEq, Nat.reduceAdd, Nat.reduceLeDiff, e9, e8, e3, e5, e6, e7, e1, d3, x2a, x2b, x2c, hw]
            refine ⟨⟨i + 1, false, x2, x1, (LI ++ [y]), (LK ++ [[.str s']]), hlt, rfl, rfl, wi4, by first | omega | (simp only [Bool.toNat_true, Bool.toNat_false, List.length_append, List.length_cons, List.length_nil]; omega), by first | omega | (simp only [Bool.toNat_true, Bool.toNat_false, List.length_append, List.length_cons, List.length_nil]; omega), fun c hc => (List.mem_append.1 hc).elim (vr0 c) fun hc => by rw [List.mem_singleton] at hc; rw [hc]; exact .inl (List.mem_of_getElem? hy), fun c hc => (List.mem_append.1 hc).elim (st0 c) fun hc => by rw [List.mem_singleton] at hc; exact ⟨_, hc⟩⟩, ?_⟩
            omega
        | false =>
          have ix0 := hpk' _ wi.U
          have il0 := hlk _ wi.U
          simp (maxSteps := 1000000) only [sx, fx, ux, implies_true, evBuildSlice, fillE, fillA, here, plain, laid, evOp, avOf, avCell, strOf, evBin, evInt, evStr, evUn, evResults, evResultsL, Heap.store, wbool_off, after_scope, Nat.reduceMul, Nat.reducePow, Nat.reduceSub, Nat.reduceBEq, UInt8.reduceToNat, Nat.reduceEqDiff, Nat.reduceLT, reduceCtorEq, Nat.reduceAdd, Nat.reduceLeDiff, e9, e8, e3, e5, e6, e7, e1, wi.b0, wi.b3, lk, lt_true hlt, hge, ix0, il0, wi.F.at, wi.F.hp]
          refine opStep_append app24 (own_but (wi.hp _).oK) (wi.hp _).F but_up (holds_hp (k := 0) (L := [[.str ky]]) rfl rfl (Nat.le_refl _) (by simp)) (fun cs hcs => by rw [List.mem_singleton] at hcs; rw [hcs]; rfl) (by simp only [maxBytes, List.length_cons, List.length_nil, List.nil_append, List.length_append]; omega) (by simp only [maxBytes, List.length_cons, List.length_nil, List.nil_append, List.length_append]; omega) (fun u K1 aO aU aF => ?_)
          obtain ⟨a3, wi1⟩ := (wi.hp _).keys hF aO aU aF
          obtain ⟨u1, u2, u3⟩ := own_plain aO
          simp (maxSteps := 1000000) only [sx, fx, ux, implies_true, evBuildSlice, fillE, fillA, here, plain, laid, evOp, avOf, avCell, strOf, evBin, evInt, evStr, evUn, evResults, evResultsL, Heap.store, wbool_off, after_scope, Nat.reduceMul, Nat.reducePow, Nat.reduceSub, Nat.reduceBEq, UInt8.reduceToNat, Nat.reduceEqDiff, Nat.reduceLT, reduceCtorEq, Nat.reduceAdd, Nat.reduceLeDiff, e9, e8, e3, e5, e6, e7, e1, a3, u1, u2, u3]
          generalize hH5 : K1.set (H.next + 3) (.row 26 5 [[.int .i64 5, .int .i64 0, .str [], vI, u]] 0 0) = H5 at *
          simp (maxSteps := 1000000) only [sx, fx, ux, implies_true, evBuildSlice, fillE, fillA, here, plain, laid, evOp, avOf, avCell, strOf, evBin, evInt, evStr, evUn, evResults, evResultsL, Heap.store, wbool_off, after_scope, Nat.reduceMul, Nat.reducePow, Nat.reduceSub, Nat.reduceBEq, UInt8.reduceToNat, Nat.reduceEqDiff, Nat.reduceLT, reduceCtorEq, Nat.reduceAdd, Nat.reduceLeDiff, e9, e8, e3, e5, e6, e7, e1, wi1.b3, wi1.b1, xl, xt, xc, wi1.F.at, wi1.F.hp]
          refine opStep_append app23 (own_but (wi1.hp _).oI) (wi1.hp _).F but_up (holds_hp (k := 0) (L := [x]) rfl rfl (Nat.le_refl _) (by simp [xl])) (fun cs hcs => by rw [List.mem_singleton] at hcs; rw [hcs]; exact xc) (by simp only [maxBytes, List.length_cons, List.length_nil, List.nil_append, List.length_append]; omega) (by simp only [maxBytes, List.length_cons, List.length_nil, List.nil_append, List.length_append]; omega) (fun v2 K2 bO bU bF => ?_)
          obtain ⟨b3, wi2⟩ := (wi1.hp _).items hF bO bU bF
          obtain ⟨w1, w2, w3⟩ := own_plain bO
          simp (maxSteps := 1000000) only [sx, fx, ux, implies_true, evBuildSlice, fillE, fillA, here, plain, laid, evOp, avOf, avCell, strOf, evBin, evInt, evStr, evUn, evResults, evResultsL, Heap.store, wbool_off, after_scope, Nat.reduceMul, Nat.reducePow, Nat.reduceSub, Nat.reduceBEq, UInt8.reduceToNat, Nat.reduceEqDiff, Nat.reduceLT, reduceCtorEq, Nat.reduceAdd, Nat.reduceLeDiff, e9, e8, e3, e5, e6, e7, e1, b3, w1, w2, w3]
          generalize hH6 : K2.set (H.next + 3) (.row 26 5 [[.int .i64 5, .int .i64 0, .str [], v2, u]] 0 0) = H6 at *
          have vr0 : ∀ c ∈ (LI ++ [x]), c ∈ L ∨ c = x := fun c hc => (List.mem_append.1 hc).elim (hvr c) fun hc => by rw [List.mem_singleton] at hc; exact .inr hc
          have st0 : StrL (LK ++ [[.str ky]]) := fun c hc => (List.mem_append.1 hc).elim (hst c) fun hc => by rw [List.mem_singleton] at hc; exact ⟨_, hc⟩
          have ix := hpk' _ wi2.U
          have il := hlk _ wi2.U
          cases hq : (s' == ky) with
          | true =>
            simp (maxSteps := 1000000) only [sx, fx, ux, implies_true, evBuildSlice, fillE, fillA, here, plain, laid, evOp, avOf, avCell, strOf, evBin, evInt, evStr, evUn, evResults, evResultsL, Heap.store, wbool_off, after_scope, Nat.reduceMul, Nat.reducePow, Nat.reduceSub, Nat.reduceBEq, UInt8.reduceToNat, Nat.reduceEqDiff, Nat.reduceLT, reduceCtorEq, Nat.reduceAdd, Nat.reduceLeDiff, e9, e8, e3, e5, e6, e7, e1, wi2.b0, ix, il, hq, hw, ]
            refine ⟨⟨i + 1, true, v2, u, (LI ++ [x]), (LK ++ [[.str ky]]), hlt, rfl, rfl, wi2, by first | omega | (simp only [Bool.toNat_true, Bool.toNat_false, List.length_append, List.length_cons, List.length_nil]; omega), by first | omega | (simp only [Bool.toNat_true, Bool.toNat_false, List.length_append, List.length_cons, List.length_nil]; omega), vr0, st0⟩, ?_⟩
            omega
          | false =>
            have hub : ∀ (G : Heap), Free G → ∀ xs, UpB G.blk (HP G xs).blk = True := fun G hG xs => eq_true (fun b z hb => hG.hpU xs b z hb)
            simp (maxSteps := 1000000) only [sx, fx, ux, implies_true, evBuildSlice, fillE, fillA, here, plain, laid, evOp, avOf, avCell, strOf, evBin, evInt, evStr, evUn, evResults, evResultsL, Heap.store, wbool_off, after_scope, Nat.reduceMul, Nat.reducePow, Nat.reduceSub, Nat.reduceBEq, UInt8.reduceToNat, Nat.reduceEqDiff, Nat.reduceLT, reduceCtorEq, Nat.reduceAdd, Nat.reduceLeDiff, e9, e8, e3, e5, e6, e7, e1, wi2.b0, ix, il, hq, ]
            refine drawStep [7] [0, 1, 2, 3, 4, 5, 6, 7, 8, 9, 10] _ rfl (by kernel_rfl) ?_
            simp (maxSteps := 1000000) only [sx, fx, ux, implies_true, evBuildSlice, fillE, fillA, here, plain, laid, evOp, avOf, avCell, strOf, evBin, evInt, evStr, evUn, evResults, evResultsL, Heap.store, wbool_off, after_scope, Nat.reduceMul, Nat.reducePow, Nat.reduceSub, Nat.reduceBEq, UInt8.reduceToNat, Nat.reduceEqDiff, Nat.reduceLT, reduceCtorEq, Nat.reduceAdd, Nat.reduceLeDiff, e9, e8, e3, e5, e6, e7, e1, wi2.b0, wi2.b3, ix, il, wi2.F.at, wi2.F.hp, hub _ wi2.F]
            refine opStep_append app24 (own_but (wi2.hp _).oK) (wi2.hp _).F but_up (holds_hp (k := 0) (L := [[.str s']]) rfl rfl (Nat.le_refl _) (by simp)) (fun cs hcs => by rw [List.mem_singleton] at hcs; rw [hcs]; rfl) (by simp only [maxBytes, List.length_cons, List.length_nil, List.nil_append, List.length_append]; omega) (by simp only [maxBytes, List.length_cons, List.length_nil, List.nil_append, List.length_append]; omega) (fun x1 K3 cO cU cF => ?_)
            obtain ⟨c3, wi3⟩ := (wi2.hp _).keys hF cO cU cF
            obtain ⟨x1a, x1b, x1c⟩ := own_plain cO
            simp (maxSteps := 1000000) only [sx, fx, ux, implies_true, evBuildSlice, fillE, fillA, here, plain, laid, evOp, avOf, avCell, strOf, evBin, evInt, evStr, evUn, evResults, evResultsL, Heap.store, wbool_off, after_scope, Nat.reduceMul, Nat.reducePow, Nat.reduceSub, Nat.reduceBEq, UInt8.reduceToNat, Nat.reduceEqDiff, Nat.reduceLT, reduceCtorEq, Nat.reduceAdd, Nat.reduceLeDiff, e9, e8, e3, e5, e6, e7, e1, c3, x1a, x1b, x1c]
            generalize hH7 : K3.set (H.next + 3) (.row 26 5 [[.int .i64 5, .int .i64 0, .str [], v2, x1]] 0 0) = H7 at *
            refine drawStep [7] [0, 1, 2, 3, 4, 5, 6, 7, 8, 9, 10] _ rfl (by kernel_rfl) ?_
            have ix2 := hpy' _ wi3.U
            have il2 := hly _ wi3.U
            simp (maxSteps := 1000000) only [sx, fx, ux, implies_true, evBuildSlice, fillE, fillA, here, plain, laid, evOp, avOf, avCell, strOf, evBin, evInt, evStr, evUn, evResults, evResultsL, Heap.store, wbool_off, after_scope, Nat.reduceMul, Nat.reducePow, Nat.reduceSub, Nat.reduceBEq, UInt8.reduceToNat, Nat.reduceEqDiff, Nat.reduceLT, reduceCtorEq, Nat.reduceAdd, Nat.reduceLeDiff, e9, e8, e3, e5, e6, e7, e1, wi3.b0, wi3.b3, ix2, il2, yl, yt, yc, wi3.F.at, wi3.F.hp, hub _ wi3.F]
            refine opStep_append app23 (own_but (wi3.hp _).oI) (wi3.hp _).F but_up (holds_hp (k := 0) (L := [y]) rfl rfl (Nat.le_refl _) (by simp [yl])) (fun cs hcs => by rw [List.mem_singleton] at hcs; rw [hcs]; exact yc) (by simp only [maxBytes, List.length_cons, List.length_nil, List.nil_append, List.length_append]; omega) (by simp only [maxBytes, List.length_cons, List.length_nil, List.nil_append, List.length_append]; omega) (fun x2 K4 dO dU dF => ?_)
            obtain ⟨d3, wi4⟩ := (wi3.hp _).items hF dO dU dF
            obtain ⟨x2a, x2b, x2c⟩ := own_plain dO
            simp (maxSteps := 1000000) only [sx, fx, ux, implies_true, evBuildSlice, fillE, fillA, here, plain, laid, evOp, avOf, avCell, strOf, evBin, evInt, evStr, evUn, evResults, evResultsL, Heap.store, wbool_off, after_scope, Nat.reduceMul, Nat.reducePow, Nat.reduceSub, Nat.reduceBEq, UInt8.reduceToNat, Nat.reduceEqDiff, Nat.reduceLT, reduceCtorEq, Nat.reduceAdd, Nat.reduceLeDiff, e9, e8, e3, e5, e6, e7, e1, d3, x2a, x2b, x2c, hw]
            refine ⟨⟨i + 1, true, x2, x1, ((LI ++ [x]) ++ [y]), ((LK ++ [[.str ky]]) ++ [[.str s']]), hlt, rfl, rfl, wi4, by first | omega | (simp only [Bool.toNat_true, Bool.toNat_false, List.length_append, List.length_cons, List.length_nil]; omega), by first | omega | (simp only [Bool.toNat_true, Bool.toNat_false, List.length_append, List.length_cons, List.length_nil]; omega), fun c hc => (List.mem_append.1 hc).elim (vr0 c) fun hc => by rw [List.mem_singleton] at hc; rw [hc]; exact .inl (List.mem_of_getElem? hy), fun c hc => (List.mem_append.1 hc).elim (st0 c) fun hc => by rw [List.mem_singleton] at hc; exact ⟨_, hc⟩⟩, ?_⟩
            omega
    · obtain rfl : i = M.length := by omega
      have lk := hvw.lenAt (P := Try.prog) und24
      have fin : ∀ {G : Heap} {vI wK : AV} {LI LK : List (List AV)} (y : Blk), WI H G [.int .i64 dk, .int .i64 di, .str ds, dv, dw] x vI wK LI LK → LI.length = LK.length → LI.length ≤ L.length + 1 → (∀ c ∈ LI, c ∈ L ∨ c = x) → StrL LK → K (.agg [.int .i64 5, .int .i64 0, .str [], vI, wK]) (G.set (H.next + 2) y) := fun y w h1 h2 h3 h4 => by
        have hu := w.U.set (hF (H.next + 2) (by omega)) y
        exact hK _ _ _ _ _ (own_dom (own_set w.oI (dom_some (by omega)) y) fun b hb => (dom_none hb).2) (own_dom (own_set w.oK (dom_some (by omega)) y) fun b hb => (dom_none hb).2) h1 h2 h3 h4 hu (w.F.set (w.F.lt w.b2) _)
      cases dn with
      | true =>
        simp only [Bool.toNat_true] at hlb
        have b2 := wi.b2
        unfold zv at b2
        simp (maxSteps := 1000000) only [sx, fx, ux, implies_true, evBuildSlice, fillE, fillA, here, plain, laid, evOp, avOf, avCell, strOf, evBin, evInt, evStr, evUn, evResults, evResultsL, Heap.store, wbool_off, after_scope, Nat.reduceMul, Nat.reducePow, Nat.reduceSub, Nat.reduceBEq, UInt8.reduceToNat, Nat.reduceEqDiff, Nat.reduceLT, reduceCtorEq, Nat.reduceAdd, Nat.reduceLeDiff, e9, e8, e3, e5, e6, e7, e1, wi.b0, wi.b3, b2, lk, lt_false hlt, p3, q3]
        exact fin _ wi hll (by omega) hvr hst
      | false =>
        simp only [Bool.toNat_false] at hlb
        simp (maxSteps := 1000000) only [sx, fx, ux, implies_true, evBuildSlice, fillE, fillA, here, plain, laid, evOp, avOf, avCell, strOf, evBin, evInt, evStr, evUn, evResults, evResultsL, Heap.store, wbool_off, after_scope, Nat.reduceMul, Nat.reducePow, Nat.reduceSub, Nat.reduceBEq, UInt8.reduceToNat, Nat.reduceEqDiff, Nat.reduceLT, reduceCtorEq, Nat.reduceAdd, Nat.reduceLeDiff, e9, e8, e3, e5, e6, e7, e1, wi.b0, wi.b3, lk, lt_false hlt, wi.F.at, wi.F.hp]
        refine opStep_append app24 (own_but (wi.hp _).oK) (wi.hp _).F but_up (holds_hp (k := 0) (L := [[.str ky]]) rfl rfl (Nat.le_refl _) (by simp)) (fun cs hcs => by rw [List.mem_singleton] at hcs; rw [hcs]; rfl) (by simp only [maxBytes, List.length_cons, List.length_nil, List.nil_append, List.length_append]; omega) (by simp only [maxBytes, List.length_cons, List.length_nil, List.nil_append, List.length_append]; omega) (fun u K1 aO aU aF => ?_)
        obtain ⟨a3, wi1⟩ := (wi.hp _).keys hF aO aU aF
        obtain ⟨u1, u2, u3⟩ := own_plain aO
        simp (maxSteps := 1000000) only [sx, fx, ux, implies_true, evBuildSlice, fillE, fillA, here, plain, laid, evOp, avOf, avCell, strOf, evBin, evInt, evStr, evUn, evResults, evResultsL, Heap.store, wbool_off, after_scope, Nat.reduceMul, Nat.reducePow, Nat.reduceSub, Nat.reduceBEq, UInt8.reduceToNat, Nat.reduceEqDiff, Nat.reduceLT, reduceCtorEq, Nat.reduceAdd, Nat.reduceLeDiff, e9, e8, e3, e5, e6, e7, e1, a3, u1, u2, u3]
        generalize hH5 : K1.set (H.next + 3) (.row 26 5 [[.int .i64 5, .int .i64 0, .str [], vI, u]] 0 0) = H5 at *
        simp (maxSteps := 1000000) only [sx, fx, ux, implies_true, evBuildSlice, fillE, fillA, here, plain, laid, evOp, avOf, avCell, strOf, evBin, evInt, evStr, evUn, evResults, evResultsL, Heap.store, wbool_off, after_scope, Nat.reduceMul, Nat.reducePow, Nat.reduceSub, Nat.reduceBEq, UInt8.reduceToNat, Nat.reduceEqDiff, Nat.reduceLT, reduceCtorEq, Nat.reduceAdd, Nat.reduceLeDiff, e9, e8, e3, e5, e6, e7, e1, wi1.b3, wi1.b1, xl, xt, xc, wi1.F.at, wi1.F.hp]
        refine opStep_append app23 (own_but (wi1.hp _).oI) (wi1.hp _).F but_up (holds_hp (k := 0) (L := [x]) rfl rfl (Nat.le_refl _) (by simp [xl])) (fun cs hcs => by rw [List.mem_singleton] at hcs; rw [hcs]; exact xc) (by simp only [maxBytes, List.length_cons, List.length_nil, List.nil_append, List.length_append]; omega) (by simp only [maxBytes, List.length_cons, List.length_nil, List.nil_append, List.length_append]; omega) (fun v2 K2 bO bU bF => ?_)
        obtain ⟨b3, wi2⟩ := (wi1.hp _).items hF bO bU bF
        obtain ⟨w1, w2, w3⟩ := own_plain bO
        simp (maxSteps := 1000000) only [sx, fx, ux, implies_true, evBuildSlice, fillE, fillA, here, plain, laid, evOp, avOf, avCell, strOf, evBin, evInt, evStr, evUn, evResults, evResultsL, Heap.store, wbool_off, after_scope, Nat.reduceMul, Nat.reducePow, Nat.reduceSub, Nat.reduceBEq, UInt8.reduceToNat, Nat.reduceEqDiff, Nat.reduceLT, reduceCtorEq, Nat.reduceAdd, Nat.reduceLeDiff, e9, e8, e3, e5, e6, e7, e1, b3, w1, w2, w3]
        generalize hH6 : K2.set (H.next + 3) (.row 26 5 [[.int .i64 5, .int .i64 0, .str [], v2, u]] 0 0) = H6 at *
        have b2 := wi2.b2
        unfold zv at b2
        simp (maxSteps := 1000000) only [sx, fx, ux, implies_true, evBuildSlice, fillE, fillA, here, plain, laid, evOp, avOf, avCell, strOf, evBin, evInt, evStr, evUn, evResults, evResultsL, Heap.store, wbool_off, after_scope, Nat.reduceMul, Nat.reducePow, Nat.reduceSub, Nat.reduceBEq, UInt8.reduceToNat, Nat.reduceEqDiff, Nat.reduceLT, reduceCtorEq, Nat.reduceAdd, Nat.reduceLeDiff, e9, e8, e3, e5, e6, e7, e1, wi2.b0, wi2.b3, b2, u3, w3]
        exact fin _ wi2 (by simp [hll]) (by simp; omega) (fun c hc => (List.mem_append.1 hc).elim (hvr c) fun hc => by rw [List.mem_singleton] at hc; exact .inr hc) (fun c hc => (List.mem_append.1 hc).elim (hst c) fun hc => by rw [List.mem_singleton] at hc; exact ⟨_, hc⟩)
end Go.Proofs.T
