import Derived.Test.YtjjmdbhgmecpjaaGreatDoorGX
import Derived.Test.YtjjmdbhgmecpjaaGreatDoorProg
set_option linter.unusedVariables false
set_option linter.unusedSimpArgs false
namespace Go.Proofs.T
open Go.Ev
theorem ag3 : aggOf Tryz.prog 3 = some false := by kernel_rfl
theorem sz3 : szOf Tryz.prog 3 = some 1 := by kernel_rfl
theorem und3 : Tryz.prog.underlying 3 = some (.int IntKind.i64) := by kernel_rfl
theorem ag4 : aggOf Tryz.prog 4 = some false := by kernel_rfl
theorem sz4 : szOf Tryz.prog 4 = some 1 := by kernel_rfl
theorem und4 : Tryz.prog.underlying 4 = some .bool := by kernel_rfl
theorem ag9 : aggOf Tryz.prog 9 = some false := by kernel_rfl
theorem sz9 : szOf Tryz.prog 9 = some 1 := by kernel_rfl
theorem und9 : Tryz.prog.underlying 9 = some .string := by kernel_rfl
theorem ag22 : aggOf Tryz.prog 22 = some false := by kernel_rfl
theorem sz22 : szOf Tryz.prog 22 = some 1 := by kernel_rfl
theorem und22 : Tryz.prog.underlying 22 = some (.slice 46) := by kernel_rfl
theorem el22 : elemOfSlice Tryz.prog 22 = some 46 := by kernel_rfl
theorem ag26 : aggOf Tryz.prog 26 = some false := by kernel_rfl
theorem sz26 : szOf Tryz.prog 26 = some 1 := by kernel_rfl
theorem und26 : Tryz.prog.underlying 26 = some (.slice 42) := by kernel_rfl
theorem el26 : elemOfSlice Tryz.prog 26 = some 42 := by kernel_rfl
theorem ag35 : aggOf Tryz.prog 35 = some true := by kernel_rfl
theorem sz35 : szOf Tryz.prog 35 = some 17 := by kernel_rfl
theorem ag37 : aggOf Tryz.prog 37 = some true := by kernel_rfl
theorem sz37 : szOf Tryz.prog 37 = some 17 := by kernel_rfl
theorem ag40 : aggOf Tryz.prog 40 = some false := by kernel_rfl
theorem sz40 : szOf Tryz.prog 40 = some 1 := by kernel_rfl
theorem und40 : Tryz.prog.underlying 40 = some (.slice 9) := by kernel_rfl
theorem el40 : elemOfSlice Tryz.prog 40 = some 9 := by kernel_rfl
theorem ag42 : aggOf Tryz.prog 42 = some true := by kernel_rfl
theorem sz42 : szOf Tryz.prog 42 = some 5 := by kernel_rfl
theorem ag44 : aggOf Tryz.prog 44 = some true := by kernel_rfl
theorem sz44 : szOf Tryz.prog 44 = some 10 := by kernel_rfl
theorem ag46 : aggOf Tryz.prog 46 = some true := by kernel_rfl
theorem sz46 : szOf Tryz.prog 46 = some 24 := by kernel_rfl
theorem ag101 : aggOf Tryz.prog 101 = some false := by kernel_rfl
theorem sz101 : szOf Tryz.prog 101 = some 1 := by kernel_rfl
theorem und101 : Tryz.prog.underlying 101 = some (.slice 3) := by kernel_rfl
theorem el101 : elemOfSlice Tryz.prog 101 = some 3 := by kernel_rfl
theorem fd35_1 : fieldOf Tryz.prog 35 1 = some ({ name := "Done", type := 3, offset := 15, embedded := false, tag := "", pkgPath := "", byteOffset := 240 }) := by kernel_rfl
theorem fd35_2 : fieldOf Tryz.prog 35 2 = some ({ name := "Live", type := 4, offset := 16, embedded := false, tag := "", pkgPath := "", byteOffset := 248 }) := by kernel_rfl
theorem fd37_1 : fieldOf Tryz.prog 37 1 = some ({ name := "Done", type := 3, offset := 15, embedded := false, tag := "", pkgPath := "", byteOffset := 240 }) := by kernel_rfl
theorem fd37_2 : fieldOf Tryz.prog 37 2 = some ({ name := "Live", type := 4, offset := 16, embedded := false, tag := "", pkgPath := "", byteOffset := 248 }) := by kernel_rfl
theorem fd42_0 : fieldOf Tryz.prog 42 0 = some ({ name := "Kind", type := 3, offset := 0, embedded := false, tag := "", pkgPath := "", byteOffset := 0 }) := by kernel_rfl
theorem fd42_1 : fieldOf Tryz.prog 42 1 = some ({ name := "Int", type := 3, offset := 1, embedded := false, tag := "", pkgPath := "", byteOffset := 8 }) := by kernel_rfl
theorem fd42_2 : fieldOf Tryz.prog 42 2 = some ({ name := "Text", type := 9, offset := 2, embedded := false, tag := "", pkgPath := "", byteOffset := 16 }) := by kernel_rfl
theorem fd42_3 : fieldOf Tryz.prog 42 3 = some ({ name := "Items", type := 26, offset := 3, embedded := false, tag := "", pkgPath := "", byteOffset := 32 }) := by kernel_rfl
theorem fd42_4 : fieldOf Tryz.prog 42 4 = some ({ name := "Keys", type := 40, offset := 4, embedded := false, tag := "", pkgPath := "", byteOffset := 56 }) := by kernel_rfl
theorem fd44_0 : fieldOf Tryz.prog 44 0 = some ({ name := "Queue", type := 9, offset := 0, embedded := false, tag := "", pkgPath := "", byteOffset := 0 }) := by kernel_rfl
theorem fd44_1 : fieldOf Tryz.prog 44 1 = some ({ name := "ToStart", type := 3, offset := 1, embedded := false, tag := "", pkgPath := "", byteOffset := 16 }) := by kernel_rfl
theorem fd44_2 : fieldOf Tryz.prog 44 2 = some ({ name := "ToClose", type := 3, offset := 2, embedded := false, tag := "", pkgPath := "", byteOffset := 24 }) := by kernel_rfl
theorem fd44_3 : fieldOf Tryz.prog 44 3 = some ({ name := "Total", type := 3, offset := 3, embedded := false, tag := "", pkgPath := "", byteOffset := 32 }) := by kernel_rfl
theorem fd44_4 : fieldOf Tryz.prog 44 4 = some ({ name := "Beat", type := 3, offset := 4, embedded := false, tag := "", pkgPath := "", byteOffset := 40 }) := by kernel_rfl
theorem fd44_5 : fieldOf Tryz.prog 44 5 = some ({ name := "First", type := 3, offset := 5, embedded := false, tag := "", pkgPath := "", byteOffset := 48 }) := by kernel_rfl
theorem fd44_6 : fieldOf Tryz.prog 44 6 = some ({ name := "Coef", type := 3, offset := 6, embedded := false, tag := "", pkgPath := "", byteOffset := 56 }) := by kernel_rfl
theorem fd44_7 : fieldOf Tryz.prog 44 7 = some ({ name := "Most", type := 3, offset := 7, embedded := false, tag := "", pkgPath := "", byteOffset := 64 }) := by kernel_rfl
theorem fd44_8 : fieldOf Tryz.prog 44 8 = some ({ name := "Attempts", type := 3, offset := 8, embedded := false, tag := "", pkgPath := "", byteOffset := 72 }) := by kernel_rfl
theorem fd44_9 : fieldOf Tryz.prog 44 9 = some ({ name := "Fatal", type := 40, offset := 9, embedded := false, tag := "", pkgPath := "", byteOffset := 80 }) := by kernel_rfl
theorem fd46_0 : fieldOf Tryz.prog 46 0 = some ({ name := "ID", type := 3, offset := 0, embedded := false, tag := "", pkgPath := "", byteOffset := 0 }) := by kernel_rfl
theorem fd46_1 : fieldOf Tryz.prog 46 1 = some ({ name := "Kind", type := 3, offset := 1, embedded := false, tag := "", pkgPath := "", byteOffset := 8 }) := by kernel_rfl
theorem fd46_2 : fieldOf Tryz.prog 46 2 = some ({ name := "Time", type := 3, offset := 2, embedded := false, tag := "", pkgPath := "", byteOffset := 16 }) := by kernel_rfl
theorem fd46_3 : fieldOf Tryz.prog 46 3 = some ({ name := "Seq", type := 3, offset := 3, embedded := false, tag := "", pkgPath := "", byteOffset := 24 }) := by kernel_rfl
theorem fd46_4 : fieldOf Tryz.prog 46 4 = some ({ name := "Ref", type := 3, offset := 4, embedded := false, tag := "", pkgPath := "", byteOffset := 32 }) := by kernel_rfl
theorem fd46_5 : fieldOf Tryz.prog 46 5 = some ({ name := "N", type := 3, offset := 5, embedded := false, tag := "", pkgPath := "", byteOffset := 40 }) := by kernel_rfl
theorem fd46_6 : fieldOf Tryz.prog 46 6 = some ({ name := "Code", type := 3, offset := 6, embedded := false, tag := "", pkgPath := "", byteOffset := 48 }) := by kernel_rfl
theorem fd46_7 : fieldOf Tryz.prog 46 7 = some ({ name := "Name", type := 9, offset := 7, embedded := false, tag := "", pkgPath := "", byteOffset := 56 }) := by kernel_rfl
theorem fd46_8 : fieldOf Tryz.prog 46 8 = some ({ name := "Key", type := 9, offset := 8, embedded := false, tag := "", pkgPath := "", byteOffset := 72 }) := by kernel_rfl
theorem fd46_9 : fieldOf Tryz.prog 46 9 = some ({ name := "Data", type := 42, offset := 9, embedded := false, tag := "", pkgPath := "", byteOffset := 88 }) := by kernel_rfl
theorem fd46_10 : fieldOf Tryz.prog 46 10 = some ({ name := "Opts", type := 44, offset := 14, embedded := false, tag := "", pkgPath := "", byteOffset := 168 }) := by kernel_rfl
theorem ze35 : zeroOf Tryz.prog 35 = some (AV.agg [AV.nilslice, AV.nilslice, AV.nilslice, AV.nilslice, AV.int IntKind.i64 0, AV.int IntKind.i64 0, AV.int IntKind.i64 0, AV.int IntKind.i64 0, AV.nilslice, AV.nilslice, AV.nilslice, AV.bool false, AV.bool false, AV.nilslice, AV.int IntKind.i64 0, AV.int IntKind.i64 0, AV.bool false]) := by kernel_rfl
theorem ze37 : zeroOf Tryz.prog 37 = some (AV.agg [AV.nilslice, AV.nilslice, AV.nilslice, AV.nilslice, AV.int IntKind.i64 0, AV.int IntKind.i64 0, AV.int IntKind.i64 0, AV.int IntKind.i64 0, AV.nilslice, AV.nilslice, AV.nilslice, AV.bool false, AV.bool false, AV.nilslice, AV.int IntKind.i64 0, AV.int IntKind.i64 0, AV.bool false]) := by kernel_rfl
theorem ze46 : zeroOf Tryz.prog 46 = some (AV.agg [AV.int IntKind.i64 0, AV.int IntKind.i64 0, AV.int IntKind.i64 0, AV.int IntKind.i64 0, AV.int IntKind.i64 0, AV.int IntKind.i64 0, AV.int IntKind.i64 0, AV.str [], AV.str [], AV.int IntKind.i64 0, AV.int IntKind.i64 0, AV.str [], AV.nilslice, AV.nilslice, AV.str [], AV.int IntKind.i64 0, AV.int IntKind.i64 0, AV.int IntKind.i64 0, AV.int IntKind.i64 0, AV.int IntKind.i64 0, AV.int IntKind.i64 0, AV.int IntKind.i64 0, AV.int IntKind.i64 0, AV.nilslice]) := by kernel_rfl
theorem ze42 : zeroOf Tryz.prog 42 = some (AV.agg [AV.int IntKind.i64 0, AV.int IntKind.i64 0, AV.str [], AV.nilslice, AV.nilslice]) := by kernel_rfl
theorem ze9 : zeroOf Tryz.prog 9 = some (AV.str []) := by kernel_rfl
theorem ze3 : zeroOf Tryz.prog 3 = some (AV.int IntKind.i64 0) := by kernel_rfl
theorem bu35 (parts : List (Nat × AV)) : evBuild Tryz.prog 35 parts = (fillA (fun i => ([(0, 15), (15, 1), (16, 1)] : List (Nat × Nat))[i]?) [AV.nilslice, AV.nilslice, AV.nilslice, AV.nilslice, AV.int IntKind.i64 0, AV.int IntKind.i64 0, AV.int IntKind.i64 0, AV.int IntKind.i64 0, AV.nilslice, AV.nilslice, AV.nilslice, AV.bool false, AV.bool false, AV.nilslice, AV.int IntKind.i64 0, AV.int IntKind.i64 0, AV.bool false] parts).map .agg := evBuild_struct ze35 (by kernel_rfl) parts
theorem bu37 (parts : List (Nat × AV)) : evBuild Tryz.prog 37 parts = (fillA (fun i => ([(0, 15), (15, 1), (16, 1)] : List (Nat × Nat))[i]?) [AV.nilslice, AV.nilslice, AV.nilslice, AV.nilslice, AV.int IntKind.i64 0, AV.int IntKind.i64 0, AV.int IntKind.i64 0, AV.int IntKind.i64 0, AV.nilslice, AV.nilslice, AV.nilslice, AV.bool false, AV.bool false, AV.nilslice, AV.int IntKind.i64 0, AV.int IntKind.i64 0, AV.bool false] parts).map .agg := evBuild_struct ze37 (by kernel_rfl) parts
/-- Facts on types, together. -/
theorem fx : (((((((type_of% @ag3) ∧ (type_of% @sz3)) ∧ ((type_of% @und3) ∧ (type_of% @ag4))) ∧ (((type_of% @sz4) ∧ (type_of% @und4)) ∧ ((type_of% @ag9) ∧ ((type_of% @sz9) ∧ (type_of% @und9))))) ∧ ((((type_of% @ag22) ∧ (type_of% @sz22)) ∧ ((type_of% @und22) ∧ (type_of% @el22))) ∧ (((type_of% @ag26) ∧ (type_of% @sz26)) ∧ ((type_of% @und26) ∧ ((type_of% @el26) ∧ (type_of% @ag35)))))) ∧ (((((type_of% @sz35) ∧ (type_of% @ag37)) ∧ ((type_of% @sz37) ∧ (type_of% @ag40))) ∧ (((type_of% @sz40) ∧ (type_of% @und40)) ∧ ((type_of% @el40) ∧ ((type_of% @ag42) ∧ (type_of% @sz42))))) ∧ ((((type_of% @ag44) ∧ (type_of% @sz44)) ∧ ((type_of% @ag46) ∧ (type_of% @sz46))) ∧ (((type_of% @ag101) ∧ (type_of% @sz101)) ∧ ((type_of% @und101) ∧ ((type_of% @el101) ∧ (type_of% @fd35_1))))))) ∧ ((((((type_of% @fd35_2) ∧ (type_of% @fd37_1)) ∧ ((type_of% @fd37_2) ∧ (type_of% @fd42_0))) ∧ (((type_of% @fd42_1) ∧ (type_of% @fd42_2)) ∧ ((type_of% @fd42_3) ∧ ((type_of% @fd42_4) ∧ (type_of% @fd44_0))))) ∧ ((((type_of% @fd44_1) ∧ (type_of% @fd44_2)) ∧ ((type_of% @fd44_3) ∧ (type_of% @fd44_4))) ∧ (((type_of% @fd44_5) ∧ (type_of% @fd44_6)) ∧ ((type_of% @fd44_7) ∧ ((type_of% @fd44_8) ∧ (type_of% @fd44_9)))))) ∧ (((((type_of% @fd46_0) ∧ (type_of% @fd46_1)) ∧ ((type_of% @fd46_2) ∧ (type_of% @fd46_3))) ∧ (((type_of% @fd46_4) ∧ (type_of% @fd46_5)) ∧ ((type_of% @fd46_6) ∧ ((type_of% @fd46_7) ∧ (type_of% @fd46_8))))) ∧ ((((type_of% @fd46_9) ∧ (type_of% @fd46_10)) ∧ ((type_of% @ze35) ∧ ((type_of% @ze37) ∧ (type_of% @ze46)))) ∧ (((type_of% @ze42) ∧ (type_of% @ze9)) ∧ ((type_of% @ze3) ∧ ((type_of% @bu35) ∧ (type_of% @bu37)))))))) :=
  And.intro (And.intro (And.intro (And.intro (And.intro (And.intro (@ag3) (@sz3)) (And.intro (@und3) (@ag4))) (And.intro (And.intro (@sz4) (@und4)) (And.intro (@ag9) (And.intro (@sz9) (@und9))))) (And.intro (And.intro (And.intro (@ag22) (@sz22)) (And.intro (@und22) (@el22))) (And.intro (And.intro (@ag26) (@sz26)) (And.intro (@und26) (And.intro (@el26) (@ag35)))))) (And.intro (And.intro (And.intro (And.intro (@sz35) (@ag37)) (And.intro (@sz37) (@ag40))) (And.intro (And.intro (@sz40) (@und40)) (And.intro (@el40) (And.intro (@ag42) (@sz42))))) (And.intro (And.intro (And.intro (@ag44) (@sz44)) (And.intro (@ag46) (@sz46))) (And.intro (And.intro (@ag101) (@sz101)) (And.intro (@und101) (And.intro (@el101) (@fd35_1))))))) (And.intro (And.intro (And.intro (And.intro (And.intro (@fd35_2) (@fd37_1)) (And.intro (@fd37_2) (@fd42_0))) (And.intro (And.intro (@fd42_1) (@fd42_2)) (And.intro (@fd42_3) (And.intro (@fd42_4) (@fd44_0))))) (And.intro (And.intro (And.intro (@fd44_1) (@fd44_2)) (And.intro (@fd44_3) (@fd44_4))) (And.intro (And.intro (@fd44_5) (@fd44_6)) (And.intro (@fd44_7) (And.intro (@fd44_8) (@fd44_9)))))) (And.intro (And.intro (And.intro (And.intro (@fd46_0) (@fd46_1)) (And.intro (@fd46_2) (@fd46_3))) (And.intro (And.intro (@fd46_4) (@fd46_5)) (And.intro (@fd46_6) (And.intro (@fd46_7) (@fd46_8))))) (And.intro (And.intro (And.intro (@fd46_9) (@fd46_10)) (And.intro (@ze35) (And.intro (@ze37) (@ze46)))) (And.intro (And.intro (@ze42) (@ze9)) (And.intro (@ze3) (And.intro (@bu35) (@bu37)))))))
end Go.Proofs.T
