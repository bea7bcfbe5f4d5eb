import Derived.Test.YtjlmgabhhodhfaaGreatDoorX13X17
import Derived.Test.YtjlmgabhhodhfaaGreatDoorX18
set_option linter.unusedVariables false
set_option linter.unusedSimpArgs false
namespace Go.Proofs.T
open Go.Ev
theorem ag28 : aggOf Tryz.prog 28 = some false := by kernel_rfl
theorem sz28 : szOf Tryz.prog 28 = some 1 := by kernel_rfl
theorem und28 : Tryz.prog.underlying 28 = some (.slice 55) := by kernel_rfl
theorem el28 : elemOfSlice Tryz.prog 28 = some 55 := by kernel_rfl
theorem ag31 : aggOf Tryz.prog 31 = some true := by kernel_rfl
theorem sz31 : szOf Tryz.prog 31 = some 6 := by kernel_rfl
theorem ag53 : aggOf Tryz.prog 53 = some false := by kernel_rfl
theorem sz53 : szOf Tryz.prog 53 = some 1 := by kernel_rfl
theorem und53 : Tryz.prog.underlying 53 = some (.slice 92) := by kernel_rfl
theorem el53 : elemOfSlice Tryz.prog 53 = some 92 := by kernel_rfl
theorem ag55 : aggOf Tryz.prog 55 = some true := by kernel_rfl
theorem sz55 : szOf Tryz.prog 55 = some 5 := by kernel_rfl
theorem ag90 : aggOf Tryz.prog 90 = some false := by kernel_rfl
theorem sz90 : szOf Tryz.prog 90 = some 1 := by kernel_rfl
theorem und90 : Tryz.prog.underlying 90 = some (.slice 94) := by kernel_rfl
theorem el90 : elemOfSlice Tryz.prog 90 = some 94 := by kernel_rfl
theorem ag92 : aggOf Tryz.prog 92 = some true := by kernel_rfl
theorem sz92 : szOf Tryz.prog 92 = some 10 := by kernel_rfl
theorem ag94 : aggOf Tryz.prog 94 = some true := by kernel_rfl
theorem sz94 : szOf Tryz.prog 94 = some 2 := by kernel_rfl
theorem ag100 : aggOf Tryz.prog 100 = some true := by kernel_rfl
theorem sz100 : szOf Tryz.prog 100 = some 15 := by kernel_rfl
theorem ag110 : aggOf Tryz.prog 110 = some true := by kernel_rfl
theorem sz110 : szOf Tryz.prog 110 = some 15 := by kernel_rfl
theorem ag131 : aggOf Tryz.prog 131 = some false := by kernel_rfl
theorem sz131 : szOf Tryz.prog 131 = some 1 := by kernel_rfl
theorem und131 : Tryz.prog.underlying 131 = some (.pointer 134) := by kernel_rfl
theorem ag132 : aggOf Tryz.prog 132 = some false := by kernel_rfl
theorem sz132 : szOf Tryz.prog 132 = some 1 := by kernel_rfl
theorem und132 : Tryz.prog.underlying 132 = some (.map 3 29) := by kernel_rfl
theorem ag134 : aggOf Tryz.prog 134 = some true := by kernel_rfl
theorem sz134 : szOf Tryz.prog 134 = some 5 := by kernel_rfl
theorem ag310 : aggOf Tryz.prog 310 = some false := by kernel_rfl
theorem sz310 : szOf Tryz.prog 310 = some 1 := by kernel_rfl
theorem und310 : Tryz.prog.underlying 310 = some (.map 9 4) := by kernel_rfl
theorem ag325 : aggOf Tryz.prog 325 = some false := by kernel_rfl
theorem sz325 : szOf Tryz.prog 325 = some 1 := by kernel_rfl
theorem fd31_0 : fieldOf Tryz.prog 31 0 = some ({ name := "State", type := 3, offset := 0, embedded := false, tag := "", pkgPath := "", byteOffset := 0 }) := by kernel_rfl
theorem fd31_1 : fieldOf Tryz.prog 31 1 = some ({ name := "Frames", type := 28, offset := 1, embedded := false, tag := "", pkgPath := "", byteOffset := 8 }) := by kernel_rfl
theorem fd31_2 : fieldOf Tryz.prog 31 2 = some ({ name := "Future", type := 3, offset := 2, embedded := false, tag := "", pkgPath := "", byteOffset := 32 }) := by kernel_rfl
theorem fd31_3 : fieldOf Tryz.prog 31 3 = some ({ name := "Waits", type := 29, offset := 3, embedded := false, tag := "", pkgPath := "", byteOffset := 40 }) := by kernel_rfl
theorem fd31_4 : fieldOf Tryz.prog 31 4 = some ({ name := "Select", type := 4, offset := 4, embedded := false, tag := "", pkgPath := "", byteOffset := 64 }) := by kernel_rfl
theorem fd31_5 : fieldOf Tryz.prog 31 5 = some ({ name := "Key", type := 9, offset := 5, embedded := false, tag := "", pkgPath := "", byteOffset := 72 }) := by kernel_rfl
theorem fd55_0 : fieldOf Tryz.prog 55 0 = some ({ name := "Func", type := 3, offset := 0, embedded := false, tag := "", pkgPath := "", byteOffset := 0 }) := by kernel_rfl
theorem fd55_1 : fieldOf Tryz.prog 55 1 = some ({ name := "PC", type := 3, offset := 1, embedded := false, tag := "", pkgPath := "", byteOffset := 8 }) := by kernel_rfl
theorem fd55_2 : fieldOf Tryz.prog 55 2 = some ({ name := "Slots", type := 24, offset := 2, embedded := false, tag := "", pkgPath := "", byteOffset := 16 }) := by kernel_rfl
theorem fd55_3 : fieldOf Tryz.prog 55 3 = some ({ name := "Stack", type := 24, offset := 3, embedded := false, tag := "", pkgPath := "", byteOffset := 40 }) := by kernel_rfl
theorem fd55_4 : fieldOf Tryz.prog 55 4 = some ({ name := "Marks", type := 53, offset := 4, embedded := false, tag := "", pkgPath := "", byteOffset := 64 }) := by kernel_rfl
theorem fd92_0 : fieldOf Tryz.prog 92 0 = some ({ name := "Kind", type := 3, offset := 0, embedded := false, tag := "", pkgPath := "", byteOffset := 0 }) := by kernel_rfl
theorem fd92_1 : fieldOf Tryz.prog 92 1 = some ({ name := "Target", type := 3, offset := 1, embedded := false, tag := "", pkgPath := "", byteOffset := 8 }) := by kernel_rfl
theorem fd92_2 : fieldOf Tryz.prog 92 2 = some ({ name := "Slot", type := 3, offset := 2, embedded := false, tag := "", pkgPath := "", byteOffset := 16 }) := by kernel_rfl
theorem fd92_3 : fieldOf Tryz.prog 92 3 = some ({ name := "Height", type := 3, offset := 3, embedded := false, tag := "", pkgPath := "", byteOffset := 24 }) := by kernel_rfl
theorem fd92_4 : fieldOf Tryz.prog 92 4 = some ({ name := "Undos", type := 90, offset := 4, embedded := false, tag := "", pkgPath := "", byteOffset := 32 }) := by kernel_rfl
theorem fd92_5 : fieldOf Tryz.prog 92 5 = some ({ name := "Thrown", type := 34, offset := 5, embedded := false, tag := "", pkgPath := "", byteOffset := 56 }) := by kernel_rfl
theorem fd94_0 : fieldOf Tryz.prog 94 0 = some ({ name := "Func", type := 3, offset := 0, embedded := false, tag := "", pkgPath := "", byteOffset := 0 }) := by kernel_rfl
theorem fd94_1 : fieldOf Tryz.prog 94 1 = some ({ name := "Args", type := 24, offset := 1, embedded := false, tag := "", pkgPath := "", byteOffset := 8 }) := by kernel_rfl
theorem fd100_0 : fieldOf Tryz.prog 100 0 = some ({ name := "c", type := 27, offset := 0, embedded := false, tag := "", pkgPath := "workflow/frame", byteOffset := 0 }) := by kernel_rfl
theorem fd100_2 : fieldOf Tryz.prog 100 2 = some ({ name := "k", type := 31, offset := 5, embedded := false, tag := "", pkgPath := "workflow/frame", byteOffset := 120 }) := by kernel_rfl
theorem fd110_0 : fieldOf Tryz.prog 110 0 = some ({ name := "c", type := 27, offset := 0, embedded := false, tag := "", pkgPath := "workflow/workflowref14", byteOffset := 0 }) := by kernel_rfl
theorem fd110_2 : fieldOf Tryz.prog 110 2 = some ({ name := "k", type := 31, offset := 5, embedded := false, tag := "", pkgPath := "workflow/workflowref14", byteOffset := 120 }) := by kernel_rfl
theorem fd134_0 : fieldOf Tryz.prog 134 0 = some ({ name := "c", type := 27, offset := 0, embedded := false, tag := "", pkgPath := "workflow/frame", byteOffset := 0 }) := by kernel_rfl
theorem fd134_1 : fieldOf Tryz.prog 134 1 = some ({ name := "heights", type := 132, offset := 4, embedded := false, tag := "", pkgPath := "workflow/frame", byteOffset := 96 }) := by kernel_rfl
theorem ze4 : zeroOf Tryz.prog 4 = some (AV.bool false) := by kernel_rfl
theorem ze9 : zeroOf Tryz.prog 9 = some (AV.str []) := by kernel_rfl
theorem ze31 : zeroOf Tryz.prog 31 = some (AV.agg [AV.int IntKind.i64 0, AV.nilslice, AV.int IntKind.i64 0, AV.nilslice, AV.bool false, AV.str []]) := by kernel_rfl
theorem ze100 : zeroOf Tryz.prog 100 = some (AV.agg [AV.nilslice, AV.nilslice, AV.nilslice, AV.nilslice, AV.nilslice, AV.int IntKind.i64 0, AV.nilslice, AV.int IntKind.i64 0, AV.nilslice, AV.bool false, AV.str [], AV.int IntKind.i64 0, AV.str [], AV.int IntKind.i64 0, AV.nilslice]) := by kernel_rfl
theorem ze110 : zeroOf Tryz.prog 110 = some (AV.agg [AV.nilslice, AV.nilslice, AV.nilslice, AV.nilslice, AV.nilslice, AV.int IntKind.i64 0, AV.nilslice, AV.int IntKind.i64 0, AV.nilslice, AV.bool false, AV.str [], AV.int IntKind.i64 0, AV.str [], AV.int IntKind.i64 0, AV.nilslice]) := by kernel_rfl
theorem ze55 : zeroOf Tryz.prog 55 = some (AV.agg [AV.int IntKind.i64 0, AV.int IntKind.i64 0, AV.nilslice, AV.nilslice, AV.nilslice]) := by kernel_rfl
theorem ze92 : zeroOf Tryz.prog 92 = some (AV.agg [AV.int IntKind.i64 0, AV.int IntKind.i64 0, AV.int IntKind.i64 0, AV.int IntKind.i64 0, AV.nilslice, AV.int IntKind.i64 0, AV.int IntKind.i64 0, AV.str [], AV.nilslice, AV.nilslice]) := by kernel_rfl
theorem ze134 : zeroOf Tryz.prog 134 = some (AV.agg [AV.nilslice, AV.nilslice, AV.nilslice, AV.nilslice, AV.nilMap]) := by kernel_rfl
theorem ze29 : zeroOf Tryz.prog 29 = some (AV.nilslice) := by kernel_rfl
theorem ze325 : zeroOf Tryz.prog 325 = some (AV.nilFunc) := by kernel_rfl
theorem bu31 (parts : List (Nat × AV)) : evBuild Tryz.prog 31 parts = (fillA (fun i => ([(0, 1), (1, 1), (2, 1), (3, 1), (4, 1), (5, 1)] : List (Nat × Nat))[i]?) [AV.int IntKind.i64 0, AV.nilslice, AV.int IntKind.i64 0, AV.nilslice, AV.bool false, AV.str []] parts).map .agg := evBuild_struct ze31 (by kernel_rfl) parts
theorem bu100 (parts : List (Nat × AV)) : evBuild Tryz.prog 100 parts = (fillA (fun i => ([(0, 4), (4, 1), (5, 6), (11, 4)] : List (Nat × Nat))[i]?) [AV.nilslice, AV.nilslice, AV.nilslice, AV.nilslice, AV.nilslice, AV.int IntKind.i64 0, AV.nilslice, AV.int IntKind.i64 0, AV.nilslice, AV.bool false, AV.str [], AV.int IntKind.i64 0, AV.str [], AV.int IntKind.i64 0, AV.nilslice] parts).map .agg := evBuild_struct ze100 (by kernel_rfl) parts
theorem bu110 (parts : List (Nat × AV)) : evBuild Tryz.prog 110 parts = (fillA (fun i => ([(0, 4), (4, 1), (5, 6), (11, 4)] : List (Nat × Nat))[i]?) [AV.nilslice, AV.nilslice, AV.nilslice, AV.nilslice, AV.nilslice, AV.int IntKind.i64 0, AV.nilslice, AV.int IntKind.i64 0, AV.nilslice, AV.bool false, AV.str [], AV.int IntKind.i64 0, AV.str [], AV.int IntKind.i64 0, AV.nilslice] parts).map .agg := evBuild_struct ze110 (by kernel_rfl) parts
theorem bu55 (parts : List (Nat × AV)) : evBuild Tryz.prog 55 parts = (fillA (fun i => ([(0, 1), (1, 1), (2, 1), (3, 1), (4, 1)] : List (Nat × Nat))[i]?) [AV.int IntKind.i64 0, AV.int IntKind.i64 0, AV.nilslice, AV.nilslice, AV.nilslice] parts).map .agg := evBuild_struct ze55 (by kernel_rfl) parts
theorem bu134 (parts : List (Nat × AV)) : evBuild Tryz.prog 134 parts = (fillA (fun i => ([(0, 4), (4, 1)] : List (Nat × Nat))[i]?) [AV.nilslice, AV.nilslice, AV.nilslice, AV.nilslice, AV.nilMap] parts).map .agg := evBuild_struct ze134 (by kernel_rfl) parts
theorem bu104 (parts : List (Nat × AV)) : evBuild Tryz.prog 104 parts = (fillA (fun i => ([(0, 1), (1, 1), (2, 1), (3, 1), (4, 5)] : List (Nat × Nat))[i]?) [AV.int IntKind.i64 0, AV.int IntKind.i64 0, AV.int IntKind.i64 0, AV.str [], AV.int IntKind.i64 0, AV.int IntKind.i64 0, AV.str [], AV.nilslice, AV.nilslice] parts).map .agg := evBuild_struct ze104 (by kernel_rfl) parts
theorem fx3 : (((((((type_of% @ag28) ∧ (type_of% @sz28)) ∧ ((type_of% @und28) ∧ (type_of% @el28))) ∧ (((type_of% @ag31) ∧ (type_of% @sz31)) ∧ ((type_of% @ag53) ∧ ((type_of% @sz53) ∧ (type_of% @und53))))) ∧ ((((type_of% @el53) ∧ (type_of% @ag55)) ∧ ((type_of% @sz55) ∧ ((type_of% @ag90) ∧ (type_of% @sz90)))) ∧ (((type_of% @und90) ∧ (type_of% @el90)) ∧ ((type_of% @ag92) ∧ ((type_of% @sz92) ∧ (type_of% @ag94)))))) ∧ (((((type_of% @sz94) ∧ (type_of% @ag100)) ∧ ((type_of% @sz100) ∧ ((type_of% @ag110) ∧ (type_of% @sz110)))) ∧ (((type_of% @ag131) ∧ (type_of% @sz131)) ∧ ((type_of% @und131) ∧ ((type_of% @ag132) ∧ (type_of% @sz132))))) ∧ ((((type_of% @und132) ∧ (type_of% @ag134)) ∧ ((type_of% @sz134) ∧ ((type_of% @ag310) ∧ (type_of% @sz310)))) ∧ (((type_of% @und310) ∧ (type_of% @ag325)) ∧ ((type_of% @sz325) ∧ ((type_of% @fd31_0) ∧ (type_of% @fd31_1))))))) ∧ ((((((type_of% @fd31_2) ∧ (type_of% @fd31_3)) ∧ ((type_of% @fd31_4) ∧ (type_of% @fd31_5))) ∧ (((type_of% @fd55_0) ∧ (type_of% @fd55_1)) ∧ ((type_of% @fd55_2) ∧ ((type_of% @fd55_3) ∧ (type_of% @fd55_4))))) ∧ ((((type_of% @fd92_0) ∧ (type_of% @fd92_1)) ∧ ((type_of% @fd92_2) ∧ ((type_of% @fd92_3) ∧ (type_of% @fd92_4)))) ∧ (((type_of% @fd92_5) ∧ (type_of% @fd94_0)) ∧ ((type_of% @fd94_1) ∧ ((type_of% @fd100_0) ∧ (type_of% @fd100_2)))))) ∧ (((((type_of% @fd110_0) ∧ (type_of% @fd110_2)) ∧ ((type_of% @fd134_0) ∧ ((type_of% @fd134_1) ∧ (type_of% @ze4)))) ∧ (((type_of% @ze9) ∧ (type_of% @ze31)) ∧ ((type_of% @ze100) ∧ ((type_of% @ze110) ∧ (type_of% @ze55))))) ∧ ((((type_of% @ze92) ∧ (type_of% @ze134)) ∧ ((type_of% @ze29) ∧ ((type_of% @ze325) ∧ (type_of% @bu31)))) ∧ (((type_of% @bu100) ∧ (type_of% @bu110)) ∧ ((type_of% @bu55) ∧ ((type_of% @bu134) ∧ (type_of% @bu104)))))))) :=
  And.intro (And.intro (And.intro (And.intro (And.intro (And.intro (@ag28) (@sz28)) (And.intro (@und28) (@el28))) (And.intro (And.intro (@ag31) (@sz31)) (And.intro (@ag53) (And.intro (@sz53) (@und53))))) (And.intro (And.intro (And.intro (@el53) (@ag55)) (And.intro (@sz55) (And.intro (@ag90) (@sz90)))) (And.intro (And.intro (@und90) (@el90)) (And.intro (@ag92) (And.intro (@sz92) (@ag94)))))) (And.intro (And.intro (And.intro (And.intro (@sz94) (@ag100)) (And.intro (@sz100) (And.intro (@ag110) (@sz110)))) (And.intro (And.intro (@ag131) (@sz131)) (And.intro (@und131) (And.intro (@ag132) (@sz132))))) (And.intro (And.intro (And.intro (@und132) (@ag134)) (And.intro (@sz134) (And.intro (@ag310) (@sz310)))) (And.intro (And.intro (@und310) (@ag325)) (And.intro (@sz325) (And.intro (@fd31_0) (@fd31_1))))))) (And.intro (And.intro (And.intro (And.intro (And.intro (@fd31_2) (@fd31_3)) (And.intro (@fd31_4) (@fd31_5))) (And.intro (And.intro (@fd55_0) (@fd55_1)) (And.intro (@fd55_2) (And.intro (@fd55_3) (@fd55_4))))) (And.intro (And.intro (And.intro (@fd92_0) (@fd92_1)) (And.intro (@fd92_2) (And.intro (@fd92_3) (@fd92_4)))) (And.intro (And.intro (@fd92_5) (@fd94_0)) (And.intro (@fd94_1) (And.intro (@fd100_0) (@fd100_2)))))) (And.intro (And.intro (And.intro (And.intro (@fd110_0) (@fd110_2)) (And.intro (@fd134_0) (And.intro (@fd134_1) (@ze4)))) (And.intro (And.intro (@ze9) (@ze31)) (And.intro (@ze100) (And.intro (@ze110) (@ze55))))) (And.intro (And.intro (And.intro (@ze92) (@ze134)) (And.intro (@ze29) (And.intro (@ze325) (@bu31)))) (And.intro (And.intro (@bu100) (@bu110)) (And.intro (@bu55) (And.intro (@bu134) (@bu104)))))))
/-- The stepping set with the facts. -/
theorem ey : (((type_of% dx) ∧ (type_of% fx)) ∧ ((type_of% fx2) ∧ ((type_of% fx3) ∧ (type_of% ux)))) :=
  ⟨⟨dx, fx⟩, ⟨fx2, ⟨fx3, ux⟩⟩⟩
end Go.Proofs.T
set_option linter.unusedVariables false
set_option linter.unusedSimpArgs false
set_option maxRecDepth 100000
namespace Go.Proofs.T
open Go.Ev
open Nat (reduceMul reducePow reduceSub reduceEqDiff reduceLT reduceAdd reduceLeDiff)
open UInt8 (reduceToNat)
theorem app23 : appB Tryz.prog 23 23 9 1 16 = true := by kernel_rfl
theorem app24 : appB Tryz.prog 24 24 34 5 80 = true := by kernel_rfl
def VS : Nat → List AV → Prop
  | 0, _ => True
  | n + 1, cs => (itm (cs.getD 3 .undef)).length * 80 ≤ 140737488355328 ∧ (itm (cs.getD 4 .undef)).length * 16 ≤ 140737488355328 ∧ ∀ c ∈ itm (cs.getD 3 .undef), VS n c
theorem StrL.cells {M : List (List AV)} (h : StrL M) : ∀ cs ∈ M, cs.all AV.isCell = true := fun cs hc => by
  obtain ⟨s, rfl⟩ := h cs hc
  rfl
def EqV : Nat → Heap → List AV → List AV → Prop
  | 0, _, _, _ => False
  | n + 1, H, d, cs => ∃ (k i : Int) (s : List Nat) (va vc wa wc : AV) (La Lc M : List (List AV)), d = [.int .i64 k, .int .i64 i, .str s, va, wa] ∧ cs = [.int .i64 k, .int .i64 i, .str s, vc, wc] ∧ Holds H 5 va La ∧ (∀ H, Holds H 5 vc Lc) ∧ La.length = Lc.length ∧ Lc.length * 80 ≤ 140737488355328 ∧
    (∀ (j : Nat) (a c : List AV), La[j]? = some a → Lc[j]? = some c → EqV n H a c) ∧ Holds H 1 wa M ∧ (∀ H, Holds H 1 wc M) ∧ M.length * 16 ≤ 140737488355328 ∧ StrL M
theorem EqV.up : ∀ {n : Nat} {H G : Heap} {d cs : List AV}, EqV n H d cs → Up H G → EqV n G d cs
  | 0, _, _, _, _, h, _ => h.elim
  | n + 1, _, _, _, _, ⟨k, i, s, va, vc, wa, wc, La, Lc, M, e1, e2, h1, h2, h3, h4, h5, h6, h7, h8, h9⟩, hu => ⟨k, i, s, va, vc, wa, wc, La, Lc, M, e1, e2, h1.up hu, h2, h3, h4, fun j a c ha hc => (h5 j a c ha hc).up hu, h6.up hu, h7, h8, h9⟩
theorem EqV.len {n : Nat} {H : Heap} {d cs : List AV} (h : EqV n H d cs) : d.length = 5 := by
  cases n with
  | zero => exact h.elim
  | succ n => obtain ⟨k, i, s, va, vc, wa, wc, La, Lc, M, rfl, _⟩ := h; rfl
theorem EqV.cells {n : Nat} {H : Heap} {d cs : List AV} (h : EqV n H d cs) : d.all AV.isCell = true := by
  cases n with
  | zero => exact h.elim
  | succ n =>
    obtain ⟨k, i, s, va, vc, wa, wc, La, Lc, M, rfl, _, hv, _, _, _, _, hw, _⟩ := h
    have h1 := holds_cell hv
    have h2 := holds_cell hw
    simp only [List.all_cons, List.all_nil, h1, h2]; rfl

def hn (F H : Heap) : Heap := ⟨fun c => if (H.blk c).isSome = true then none else F.blk c, F.next⟩
theorem hn_some {F H : Heap} {b : Nat} {x : Blk} : (hn F H).blk b = some x ↔ H.blk b = none ∧ F.blk b = some x := by
  simp only [hn]
  cases hb : H.blk b <;> simp
theorem hn_mono {F G H : Heap} (hU : Up F G) : Up (hn F H) (hn G H) := fun b x h => hn_some.2 ⟨(hn_some.1 h).1, hU _ _ (hn_some.1 h).2⟩
theorem hn_base {F G H : Heap} (hU : Up H G) : Up (hn F G) (hn F H) := fun b x h => hn_some.2 ⟨hU.fresh (hn_some.1 h).1, (hn_some.1 h).2⟩
theorem own_hn {F H : Heap} {ty esz : Nat} {v : AV} {L : List (List AV)} (hO : Own H F ty esz v L) : Holds (hn F H) esz v L := by
  obtain ⟨h0, h | ⟨b, g, wgen, rfl, h2, h3, h4⟩ | ⟨b, g, ty', gen, wgen, rfl, h2, h3, h4⟩⟩ := hO
  · exact Own.holds (G := H) (ty := ty) ⟨h0, .inl h⟩
  · exact Own.holds (G := H) (ty := ty) ⟨h0, .inr (.inl ⟨b, g, wgen, rfl, hn_some.2 ⟨h4, h2⟩, h3, h4⟩)⟩
  · exact Own.holds (G := H) (ty := ty) ⟨h0, .inr (.inr ⟨b, g, ty', gen, wgen, rfl, hn_some.2 ⟨h4, h2⟩, h3, h4⟩)⟩

theorem eqn23_n : eqA Tryz.prog 10000 23 .nilslice .nilslice = some true := by rw [show (10000 : Nat) = 9999 + 1 from rfl]; simp [eqA, und23]
theorem eqn23_e : eqA Tryz.prog 10000 23 .eslice .nilslice = some false := by rw [show (10000 : Nat) = 9999 + 1 from rfl]; simp [eqA, und23]
theorem eqn23_l (n : Nat) (L : List (List AV)) : eqA Tryz.prog 10000 23 (.lst n L) .nilslice = some false := by rw [show (10000 : Nat) = 9999 + 1 from rfl]; simp [eqA, und23]
theorem f137_ok {v : AV} {M : List (List AV)} {H : Heap} (hF : Free H) (hv : ∀ H, Holds H 1 v M) (hM : StrL M) (hn : M.length * 16 ≤ 140737488355328) (K : AV → Heap → Prop) (hK : ∀ u H', Up H H' → Free H' → Own H H' 9 1 u M → K u H') : WF Tryz.prog 137 [v] H K := by
  refine WF_body Tryz.func137 (by kernel_rfl) rfl Tryz.ntmps137 (by rw [Tryz.results137]) (of_decide_eq_true (by kernel_rfl)) ?_
  have hv' := hv
  rcases lst_of hv with ⟨rfl, rfl | rfl⟩ | rfl
  · simp (maxSteps:=999999) only [gx, fx2, fx3, implies_true, reduceMul, reducePow, reduceSub, Nat.reduceBEq, reduceToNat, reduceEqDiff, reduceLT, reduceCtorEq, reduceAdd, reduceLeDiff, eqOk, eqn23_n]
    exact hK _ _ (Up.refl _) hF Own.nil
  · simp (maxSteps:=999999) only [gx, fx2, fx3, implies_true, reduceMul, reducePow, reduceSub, Nat.reduceBEq, reduceToNat, reduceEqDiff, reduceLT, reduceCtorEq, reduceAdd, reduceLeDiff, eqOk, eqn23_e, hF.hp, hF.at]
    refine opStep_append app23 (L := []) (own_hp (k := 0) hF (Up.refl _) rfl rfl (by simp)) (hF.hpF _) (hF.hpU _) (hv _) (StrL.cells hM) (by simp only [maxBytes, List.length_nil]; omega) (by simp only [maxBytes, List.length_nil]; omega) (fun u K' hO hU' hF' => ?_)
    simp (maxSteps:=999999) only [gx, fx2, fx3, implies_true, reduceMul, reducePow, reduceSub, Nat.reduceBEq, reduceToNat, reduceEqDiff, reduceLT, reduceCtorEq, reduceAdd, reduceLeDiff]
    exact hK _ _ hU' hF' (by simpa using hO)
  · simp (maxSteps:=999999) only [gx, fx2, fx3, implies_true, reduceMul, reducePow, reduceSub, Nat.reduceBEq, reduceToNat, reduceEqDiff, reduceLT, reduceCtorEq, reduceAdd, reduceLeDiff, eqOk, eqn23_l, hF.hp, hF.at]
    refine opStep_append app23 (L := []) (own_hp (k := 0) hF (Up.refl _) rfl rfl (by simp)) (hF.hpF _) (hF.hpU _) (hv _) (StrL.cells hM) (by simp only [maxBytes, List.length_nil]; omega) (by simp only [maxBytes, List.length_nil]; omega) (fun u K' hO hU' hF' => ?_)
    simp (maxSteps:=999999) only [gx, fx2, fx3, implies_true, reduceMul, reducePow, reduceSub, Nat.reduceBEq, reduceToNat, reduceEqDiff, reduceLT, reduceCtorEq, reduceAdd, reduceLeDiff]
    exact hK _ _ hU' hF' (by simpa using hO)

def Copy (n : Nat) : Prop := ∀ (H : Heap) (cs : List AV), VT n cs → VS n cs → Free H → ∀ (K : AV → Heap → Prop), (∀ d' H', EqV n (hn H' H) d' cs → Up H H' → Free H' → K (.agg d') H') → WF Tryz.prog 65 [.agg cs] H K

def zv : List AV := [.int .i64 0, .int .i64 0, .str [], .nilslice, .nilslice]

theorem f136_ok {n : Nat} (hc : Copy n) {H : Heap} {v : AV} {L : List (List AV)} (hF : Free H) (hv : ∀ H, Holds H 5 v L) (hL : ∀ c ∈ L, VT n c) (hS : ∀ c ∈ L, VS n c) (hn0 : L.length * 80 ≤ 140737488355328) (K : AV → Heap → Prop)
    (hK : ∀ u L' H', Up H H' → Free H' → Own H H' 34 5 u L' → L'.length = L.length → (∀ (j : Nat) (a c : List AV), L'[j]? = some a → L[j]? = some c → EqV n (hbut (hn H' H) (rowOf u)) a c) → K u H') : WF Tryz.prog 136 [v] H K := by
  refine WF_body Tryz.func136 (by kernel_rfl) rfl Tryz.ntmps136 (by rw [Tryz.results136]) (of_decide_eq_true (by kernel_rfl)) ?_
  have lv := (hv H).lenAt (P := Tryz.prog) und24
  simp (maxSteps:=999999) only [ey, implies_true, reduceMul, reducePow, reduceSub, Nat.reduceBEq, reduceToNat, reduceEqDiff, reduceLT, reduceCtorEq, reduceAdd, reduceLeDiff, lv]
  refine loopStep' (fun env H' => ∃ (i : Nat) (u : AV) (L' : List (List AV)), i ≤ L.length ∧ env.at (.tmp 8) = .int .i64 i ∧ env.at (.tmp 7) = .int .i64 L.length ∧ env.at (.tmp 6) = v ∧ env.at (.tmp 3) = u ∧ L'.length = i ∧ Own H H' 34 5 u L' ∧ Up H H' ∧ Free H' ∧ (∀ (j : Nat) (a c : List AV), L'[j]? = some a → L[j]? = some c → EqV n (hbut (hn H' H) (rowOf u)) a c))
    (fun env H' => match env.at (.tmp 8) with | .int _ i => ((L.length : Int) - i).toNat | _ => 0) ?_ ?_
  · exact ⟨0, .nilslice, [], Nat.zero_le _, by simp only [ey, implies_true, reduceMul, reducePow, reduceSub, Nat.reduceBEq, reduceToNat, reduceEqDiff, reduceLT, reduceCtorEq, reduceAdd, reduceLeDiff]; rfl, by simp only [ey, implies_true, reduceMul, reducePow, reduceSub, Nat.reduceBEq, reduceToNat, reduceEqDiff, reduceLT, reduceCtorEq, reduceAdd, reduceLeDiff], by simp only [ey, implies_true, reduceMul, reducePow, reduceSub, Nat.reduceBEq, reduceToNat, reduceEqDiff, reduceLT, reduceCtorEq, reduceAdd, reduceLeDiff], by simp only [ey, implies_true, reduceMul, reducePow, reduceSub, Nat.reduceBEq, reduceToNat, reduceEqDiff, reduceLT, reduceCtorEq, reduceAdd, reduceLeDiff], rfl, Own.nil, Up.refl _, hF, fun j a c h => by simp at h⟩
  · rintro env H' ⟨i, u, L', hi, e8, e7, e6, e3, hl, hO, hU, hF', hE⟩
    by_cases hlt : i < L.length
    · obtain ⟨c, hcc⟩ : ∃ c, L[i]? = some c := ⟨_, List.getElem?_eq_getElem hlt⟩
      have hT := hL c (List.mem_of_getElem? hcc)
      have cl := hT.len
      have cc := hT.cells
      have ct : c.take 5 = c := List.take_of_length_le (by omega)
      have hsp : splice zv 0 c = c := by simp [splice, zv, cl]
      unfold zv at hsp
      obtain ⟨p, hp, hload, _⟩ := (hv H').index (P := Tryz.prog) und24 sz34 .i64 hcc
      simp (maxSteps:=999999) only [ey, implies_true, reduceMul, reducePow, reduceSub, Nat.reduceBEq, reduceToNat, reduceEqDiff, reduceLT, reduceCtorEq, reduceAdd, reduceLeDiff, e8, e7, e6, e3, lt_true hlt, hp, hload _ (Up.refl _), hF'.at, hF'.hp, cl, cc, ct, hsp]
      generalize hH2 : HP H' [Blk.row 34 5 [c] 0 0] = H2
      have hF2 : Free H2 := hH2 ▸ hF'.hpF _
      have hU2 : Up H' H2 := hH2 ▸ hF'.hpU _
      refine callStep (hc H2 c hT (hS c (List.mem_of_getElem? hcc)) hF2 _ fun d' H4 hd hU4 hF4 => ?_)
      have dl := hd.len
      have dc := hd.cells
      have dt : d'.take 5 = d' := List.take_of_length_le (by omega)
      simp (maxSteps:=999999) only [ey, implies_true, reduceMul, reducePow, reduceSub, Nat.reduceBEq, reduceToNat, reduceEqDiff, reduceLT, reduceCtorEq, reduceAdd, reduceLeDiff, e8, e7, e6, e3, hF4.at, hF4.hp, dl, dc, dt]
      generalize hH5 : HP H4 [Blk.row 34 5 [d'] 0 0] = H5
      have hF5 : Free H5 := hH5 ▸ hF4.hpF _
      have hU5 : Up H4 H5 := hH5 ▸ hF4.hpU _
      have hO5 : Own H H5 34 5 u L' := hO.up (hU2.trans (hU4.trans hU5))
      have hU05 : Up H H5 := hU.trans (hU2.trans (hU4.trans hU5))
      refine opStep_append app24 (own_but hO5) hF5 but_up (by rw [← hH5]; exact holds_hp (k := 0) (L := [d']) rfl rfl (Nat.le_refl _) (by simp [dl])) (fun cs hcs => by rw [List.mem_singleton] at hcs; rw [hcs]; exact dc) (by simp only [maxBytes, List.length_cons, List.length_nil]; omega) (by simp only [maxBytes, List.length_cons, List.length_nil]; omega) (fun u2 K2 oO oU oF => ?_)
      have hnu : ∀ b x, H.blk b = some x → rowOf u ≠ some b := fun b x hb h => by rw [(own_row hO h).1] at hb; cases hb
      have oU' : Up H K2 := fun b x hb => oU _ _ (by rw [but_blk (hnu b x hb)]; exact hU05 _ _ hb)
      have oO' : Own H K2 34 5 u2 (L' ++ [d']) := own_dom oO fun b hb => by
        by_cases hr : rowOf u = some b
        · exact (own_row hO hr).1
        · rw [but_blk hr] at hb; exact hU05.fresh hb
      have hkeep : ∀ b x, H.blk b = none → rowOf u ≠ some b → H5.blk b = some x → (hbut (hn K2 H) (rowOf u2)).blk b = some x := fun b x h1 h2 h3 => by
        have h4 : (hbut H5 (rowOf u)).blk b = some x := by rw [but_blk h2]; exact h3
        rw [but_blk (fun h => by rw [(own_row oO h).1] at h4; cases h4)]
        exact hn_some.2 ⟨h1, oU _ _ h4⟩
      have hE1 : Up (hbut (hn H' H) (rowOf u)) (hbut (hn K2 H) (rowOf u2)) := fun b x hb => by
        have hne : rowOf u ≠ some b := fun h => by simp only [hbut] at hb; rw [if_pos h] at hb; cases hb
        rw [but_blk hne] at hb
        exact hkeep b x (hn_some.1 hb).1 hne (hU5 _ _ (hU4 _ _ (hU2 _ _ (hn_some.1 hb).2)))
      have hE2 : Up (hn H4 H2) (hbut (hn K2 H) (rowOf u2)) := fun b x hb => by
        obtain ⟨h1, h2⟩ := hn_some.1 hb
        refine hkeep b x ((hU.trans hU2).fresh h1) (fun h => ?_) (hU5 _ _ h2)
        have h3 := (own_row hO h).2
        exact h3 (hU2.fresh h1)
      simp (maxSteps:=999999) only [ey, implies_true, reduceMul, reducePow, reduceSub, Nat.reduceBEq, reduceToNat, reduceEqDiff, reduceLT, reduceCtorEq, reduceAdd, reduceLeDiff, e8, e7, e6, e3, wrap_succ (i := i) (by omega)]
      refine ⟨⟨i + 1, u2, L' ++ [d'], hlt, rfl, rfl, by simp [hl], oO', oU', oF, fun j a c' ha hc' => ?_⟩, ?_⟩
      · by_cases hj : j < L'.length
        · rw [List.getElem?_append_left hj] at ha
          exact (hE j a c' ha hc').up hE1
        · rw [List.getElem?_append_right (by omega)] at ha
          have hj0 : j - L'.length = 0 := by
            have := (List.getElem?_eq_some_iff.1 ha).1
            simp at this; omega
          obtain rfl : j = i := by omega
          rw [hj0] at ha
          rw [hcc] at hc'
          cases ha; cases hc'
          exact hd.up hE2
      · omega
    · obtain rfl : i = L.length := by omega
      simp (maxSteps:=999999) only [ey, implies_true, reduceMul, reducePow, reduceSub, Nat.reduceBEq, reduceToNat, reduceEqDiff, reduceLT, reduceCtorEq, reduceAdd, reduceLeDiff, e8, e7, e6, e3, lt_false hlt]
      exact hK _ _ _ hU hF' hO hl hE

theorem copy_ok : ∀ n, Copy n := by
  intro n
  induction n with
  | zero => intro H cs h; exact h.elim
  | succ n ih =>
    intro H cs h hs hF K hK
    obtain ⟨k, i, s, v, w, L, M, rfl, hv, hl0, hL, hw, hm0, hM⟩ := h
    obtain ⟨hl, hm, hLS⟩ := hs
    simp only [List.getD_cons_succ, List.getD_cons_zero, itm_eq hv, itm_eq hw] at hl hm hLS
    have hvc := holds_cell (hv H)
    have hwc := holds_cell (hw H)
    refine WF_body Tryz.func65 (by kernel_rfl) rfl Tryz.ntmps65 (by rw [Tryz.results65]) (of_decide_eq_true (by kernel_rfl)) ?_
    simp (maxSteps:=999999) only [ey, implies_true, reduceMul, reducePow, reduceSub, Nat.reduceBEq, reduceToNat, reduceEqDiff, reduceLT, reduceCtorEq, reduceAdd, reduceLeDiff, hF.at, hF.hp]
    generalize hH1 : HP H [Blk.row 34 5 [[.int .i64 k, .int .i64 i, .str s, v, w]] 0 0, _] = H1
    have b0 : H1.blk H.next = some (.row 34 5 [[.int .i64 k, .int .i64 i, .str s, v, w]] 0 0) := by rw [← hH1, hp_blk0]; rfl
    have b1 : H1.blk (H.next + 1) = some (.row 34 5 [zv] 0 0) := by rw [← hH1, hp_blk]; rfl
    have hF1 : Free H1 := hH1 ▸ hF.hpF _
    have hU1 : Up H H1 := hH1 ▸ hF.hpU _
    refine drawStep [2] [0, 1, 3, 4, 2, 5, 6, 7, 8, 9] _ rfl (by kernel_rfl) ?_
    simp (maxSteps:=999999) only [ey, implies_true, reduceMul, reducePow, reduceSub, Nat.reduceBEq, reduceToNat, reduceEqDiff, reduceLT, reduceCtorEq, reduceAdd, reduceLeDiff, b0]
    refine callStep_flag (f136_ok ih hF1 hv hL hLS hl _ fun u L' H2 hU2 hF2 oI hlen hEI => ⟨hU2, ?_⟩)
    obtain ⟨p1, p2, p3⟩ := own_plain oI
    simp (maxSteps:=999999) only [ey, implies_true, reduceMul, reducePow, reduceSub, Nat.reduceBEq, reduceToNat, reduceEqDiff, reduceLT, reduceCtorEq, reduceAdd, reduceLeDiff]
    refine callStep (f137_ok hF2 hw hM hm _ fun u3 H3 hU3 hF3 oK => ?_)
    obtain ⟨q1, q2, q3⟩ := own_plain oK
    have c0 := hU3 _ _ (hU2 _ _ b0)
    have c1 := hU3 _ _ (hU2 _ _ b1)
    have c1' : ∀ x, (H3.set H.next x).blk (H.next + 1) = some (.row 34 5 [zv] 0 0) := fun x => by rw [Heap.set_other _ _ _ (by omega)]; exact c1
    have hUU := hU1.trans (hU2.trans hU3)
    unfold zv at c1'
    simp (maxSteps:=999999) only [ey, implies_true, reduceMul, reducePow, reduceSub, Nat.reduceBEq, reduceToNat, reduceEqDiff, reduceLT, reduceCtorEq, reduceAdd, reduceLeDiff, c0, c1', p1, p2, p3, q1, q2, q3]
    have hX : ∀ x y, Up (hn H3 H1) (hn ((H3.set H.next x).set (H.next + 1) y) H) := fun x y b z hb => by
      obtain ⟨h1, h2⟩ := hn_some.1 hb
      refine hn_some.2 ⟨hU1.fresh h1, ?_⟩
      rw [Heap.set_other _ _ _ (fun e => by rw [e, b1] at h1; cases h1), Heap.set_other _ _ _ (fun e => by rw [e, b0] at h1; cases h1)]
      exact h2
    refine hK _ _ ⟨k, i, s, u, v, u3, w, L', L, M, rfl, rfl, (own_hn oI).up ((hn_mono hU3).trans (hX _ _)), hv, hlen, hl, fun j a c ha hc => (hEI j a c ha hc).up (but_up.trans ((hn_mono hU3).trans (hX _ _))), (own_hn oK).up ((hn_base hU2).trans (hX _ _)), hw, hm, hM⟩ ((hUU.set (hF _ (Nat.le_refl _)) _).set (hF _ (by omega)) _) ((hF3.set (hF3.lt c0) _).set (by rw [set_next]; exact hF3.lt c1) _)
theorem bneq_self {α : Type} [BEq α] [LawfulBEq α] (a : α) : (a != a) = false := by simp
theorem eqS_self (t : TypeId) (x y : Operand) (s : List Nat) : evBin Tryz.prog .neq t x y (.str s) (.str s) = some (.bool false) := by simp [evBin, evStr]
theorem idx_of {H : Heap} {esz : Nat} {v : AV} {L : List (List AV)} (h : Holds H esz v L) {t e : TypeId} (ht : Tryz.prog.underlying t = some (.slice e)) (hs : szOf Tryz.prog e = some esz) {i : Nat} {cs : List AV} (hi : L[i]? = some cs) :
    ∃ p, evIndexAddr Tryz.prog H t v (.int .i64 i) = some p ∧ ∀ G, Up H G → G.load p esz = some cs := by
  obtain ⟨p, h1, h2, _⟩ := h.index ht hs .i64 hi
  exact ⟨p, h1, h2⟩

theorem same_ok : ∀ (n : Nat) (H : Heap) (d cs : List AV), EqV n H d cs → Free H → ∀ (K : AV → Heap → Prop), (∀ H', Up H H' → Free H' → K (.bool true) H') → WF Tryz.prog 36 [.agg d, .agg cs] H K := by
  intro n
  induction n with
  | zero => intro H d cs h; exact h.elim
  | succ n ih =>
    intro H d cs h hF K hK
    obtain ⟨k, i, s, va, vc, wa, wc, La, Lc, M, rfl, rfl, hva, hvc, hlen, hlb, hE, hwa, hwc, hwb, hM⟩ := h
    have x1 := holds_cell hva
    have x2 := holds_cell (hvc H)
    have x3 := holds_cell hwa
    have x4 := holds_cell (hwc H)
    refine WF_body Tryz.func36 (by kernel_rfl) rfl Tryz.ntmps36 (by rw [Tryz.results36]) (of_decide_eq_true (by kernel_rfl)) ?_
    simp (maxSteps:=999999) only [ey, implies_true, reduceMul, reducePow, reduceSub, Nat.reduceBEq, reduceToNat, reduceEqDiff, reduceLT, reduceCtorEq, reduceAdd, reduceLeDiff, hF.at, hF.hp, x1, x2, x3, x4]
    generalize hH1 : HP H [Blk.row 34 5 [[.int .i64 k, .int .i64 i, .str s, va, wa]] 0 0, Blk.row 34 5 [[.int .i64 k, .int .i64 i, .str s, vc, wc]] 0 0] = H1
    have b0 : H1.blk H.next = some (.row 34 5 [[.int .i64 k, .int .i64 i, .str s, va, wa]] 0 0) := by rw [← hH1, hp_blk0]; rfl
    have b1 : H1.blk (H.next + 1) = some (.row 34 5 [[.int .i64 k, .int .i64 i, .str s, vc, wc]] 0 0) := by rw [← hH1, hp_blk]; rfl
    have hF1 : Free H1 := hH1 ▸ hF.hpF _
    have hU1 : Up H H1 := hH1 ▸ hF.hpU _
    have hva1 := hva.up hU1
    have hwa1 := hwa.up hU1
    simp (maxSteps:=999999) only [ey, implies_true, reduceMul, reducePow, reduceSub, Nat.reduceBEq, reduceToNat, reduceEqDiff, reduceLT, reduceCtorEq, reduceAdd, reduceLeDiff, b0, b1, bneq_self, beq_self_eq_true, hva1.lenAt (P := Tryz.prog) und24, (hvc H1).lenAt (P := Tryz.prog) und24, hwa1.lenAt (P := Tryz.prog) und23, (hwc H1).lenAt (P := Tryz.prog) und23, hlen]
    refine loopStepR (fun env H' => H' = H1 ∧ ∃ (i : Nat), i ≤ M.length ∧ env.at (.tmp 5) = .int .i64 i ∧ env.at (.tmp 2) = .ptr H.next 0 0 0 ∧ env.at (.tmp 3) = .ptr (H.next + 1) 0 0 0)
      (fun env H' => match env.at (.tmp 5) with | .int _ i => ((M.length : Int) - i).toNat | _ => 0)
      (fun ex env H' => ex = .exit 0 ∧ H' = H1 ∧ env.at (.tmp 2) = .ptr H.next 0 0 0 ∧ env.at (.tmp 3) = .ptr (H.next + 1) 0 0 0) ?_ ?_ ?_
    · exact ⟨rfl, 0, Nat.zero_le _, by simp only [ey, implies_true, reduceMul, reducePow, reduceSub, Nat.reduceBEq, reduceToNat, reduceEqDiff, reduceLT, reduceCtorEq, reduceAdd, reduceLeDiff]; rfl, by simp only [ey, implies_true, reduceMul, reducePow, reduceSub, Nat.reduceBEq, reduceToNat, reduceEqDiff, reduceLT, reduceCtorEq, reduceAdd, reduceLeDiff], by simp only [ey, implies_true, reduceMul, reducePow, reduceSub, Nat.reduceBEq, reduceToNat, reduceEqDiff, reduceLT, reduceCtorEq, reduceAdd, reduceLeDiff]⟩
    · rintro env H' ⟨rfl, j, hj, e5, e2, e3⟩
      by_cases hlt : j < M.length
      · obtain ⟨c, hc⟩ : ∃ c, M[j]? = some c := ⟨_, List.getElem?_eq_getElem hlt⟩
        obtain ⟨q, rfl⟩ := hM c (List.mem_of_getElem? hc)
        obtain ⟨p1, hp1, hl1⟩ := idx_of hwa1 und23 sz9 hc
        obtain ⟨p2, hp2, hl2⟩ := idx_of (hwc H') und23 sz9 hc
        simp (maxSteps:=999999) only [ey, implies_true, reduceMul, reducePow, reduceSub, Nat.reduceBEq, reduceToNat, reduceEqDiff, reduceLT, reduceCtorEq, reduceAdd, reduceLeDiff, e5, e2, e3, b0, b1, hwa1.lenAt (P := Tryz.prog) und23, lt_true hlt]
        refine drawStep [] [0, 1, 2, 3, 4, 5, 6, 7, 8, 9, 10] _ rfl (by kernel_rfl) ?_
        simp (maxSteps:=999999) only [ey, implies_true, reduceMul, reducePow, reduceSub, Nat.reduceBEq, reduceToNat, reduceEqDiff, reduceLT, reduceCtorEq, reduceAdd, reduceLeDiff, e5, e2, e3, b0, b1, hp1, hp2, hl1 H' (Up.refl _), hl2 H' (Up.refl _), bneq_self, beq_self_eq_true, wrap_succ (i := j) (by omega)]
        refine ⟨⟨j + 1, hlt, rfl⟩, ?_⟩
        omega
      · simp (maxSteps:=999999) only [ey, implies_true, reduceMul, reducePow, reduceSub, Nat.reduceBEq, reduceToNat, reduceEqDiff, reduceLT, reduceCtorEq, reduceAdd, reduceLeDiff, e5, e2, e3, b0, b1, hwa1.lenAt (P := Tryz.prog) und23, lt_false hlt]
    · rintro ex env H' ⟨rfl, rfl, e2, e3⟩
      simp (maxSteps:=999999) only [ey, implies_true, reduceMul, reducePow, reduceSub, Nat.reduceBEq, reduceToNat, reduceEqDiff, reduceLT, reduceCtorEq, reduceAdd, reduceLeDiff, e2, e3]
      refine loopStep' (fun env3 H3 => Up H' H3 ∧ Free H3 ∧ ∃ (i : Nat), i ≤ Lc.length ∧ env3.at (.tmp 6) = .int .i64 i ∧ env3.at (.tmp 2) = .ptr H.next 0 0 0 ∧ env3.at (.tmp 3) = .ptr (H.next + 1) 0 0 0)
        (fun env3 H3 => match env3.at (.tmp 6) with | .int _ i => ((Lc.length : Int) - i).toNat | _ => 0) ?_ ?_
      · exact ⟨Up.refl _, hF1, 0, Nat.zero_le _, by simp only [ey, implies_true, reduceMul, reducePow, reduceSub, Nat.reduceBEq, reduceToNat, reduceEqDiff, reduceLT, reduceCtorEq, reduceAdd, reduceLeDiff]; rfl, by simp only [ey, implies_true, reduceMul, reducePow, reduceSub, Nat.reduceBEq, reduceToNat, reduceEqDiff, reduceLT, reduceCtorEq, reduceAdd, reduceLeDiff, e2], by simp only [ey, implies_true, reduceMul, reducePow, reduceSub, Nat.reduceBEq, reduceToNat, reduceEqDiff, reduceLT, reduceCtorEq, reduceAdd, reduceLeDiff, e3]⟩
      · rintro env3 H3 ⟨hU3, hF3, j, hj, d6, d2, d3⟩
        have g0 := hU3 _ _ b0
        have g1 := hU3 _ _ b1
        have hva3 := hva1.up hU3
        by_cases hlt : j < Lc.length
        · obtain ⟨c, hc⟩ : ∃ c, Lc[j]? = some c := ⟨_, List.getElem?_eq_getElem hlt⟩
          obtain ⟨a, ha⟩ : ∃ a, La[j]? = some a := ⟨_, List.getElem?_eq_getElem (by omega)⟩
          obtain ⟨p1, hp1, hl1⟩ := idx_of hva3 und24 sz34 ha
          obtain ⟨p2, hp2, hl2⟩ := idx_of (hvc H3) und24 sz34 hc
          simp (maxSteps:=999999) only [ey, implies_true, reduceMul, reducePow, reduceSub, Nat.reduceBEq, reduceToNat, reduceEqDiff, reduceLT, reduceCtorEq, reduceAdd, reduceLeDiff, d6, d2, d3, g0, g1, hva3.lenAt (P := Tryz.prog) und24, hlen, lt_true hlt]
          refine drawStep [] [0, 1, 2, 3, 4, 5, 6, 7, 8, 9, 10, 11] _ rfl (by kernel_rfl) ?_
          simp (maxSteps:=999999) only [ey, implies_true, reduceMul, reducePow, reduceSub, Nat.reduceBEq, reduceToNat, reduceEqDiff, reduceLT, reduceCtorEq, reduceAdd, reduceLeDiff, d6, d2, d3, g0, g1, hp1, hp2, hl1 H3 (Up.refl _), hl2 H3 (Up.refl _)]
          refine callStep (ih H3 a c ((hE j a c ha hc).up (hU1.trans hU3)) hF3 _ fun H4 hU4 hF4 => ?_)
          simp (maxSteps:=999999) only [ey, implies_true, reduceMul, reducePow, reduceSub, Nat.reduceBEq, reduceToNat, reduceEqDiff, reduceLT, reduceCtorEq, reduceAdd, reduceLeDiff, d6, d2, d3, wrap_succ (i := j) (by omega)]
          refine ⟨⟨hU3.trans hU4, hF4, j + 1, hlt, rfl⟩, ?_⟩
          omega
        · simp (maxSteps:=999999) only [ey, implies_true, reduceMul, reducePow, reduceSub, Nat.reduceBEq, reduceToNat, reduceEqDiff, reduceLT, reduceCtorEq, reduceAdd, reduceLeDiff, d6, d2, d3, g0, g1, hva3.lenAt (P := Tryz.prog) und24, hlen, lt_false hlt]
          exact hK _ (hU1.trans hU3) hF3
end Go.Proofs.T
