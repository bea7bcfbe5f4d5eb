import Derived.Test.YtlllflmjpclobaaEvR
import Derived.Test.YtlllflmjpclobaaProg
set_option linter.unusedVariables false
set_option linter.unusedSimpArgs false
namespace Go.Proofs.T
open Go.Ev
theorem ag3 : aggOf Try.prog 3 = some false := by kernel_rfl
theorem sz3 : szOf Try.prog 3 = some 1 := by kernel_rfl
theorem und3 : Try.prog.underlying 3 = some (.int IntKind.i64) := by kernel_rfl
theorem ag9 : aggOf Try.prog 9 = some false := by kernel_rfl
theorem sz9 : szOf Try.prog 9 = some 1 := by kernel_rfl
theorem und9 : Try.prog.underlying 9 = some .string := by kernel_rfl
theorem ag22 : aggOf Try.prog 22 = some false := by kernel_rfl
theorem sz22 : szOf Try.prog 22 = some 1 := by kernel_rfl
theorem und22 : Try.prog.underlying 22 = some (.slice 63) := by kernel_rfl
theorem el22 : elemOfSlice Try.prog 22 = some 63 := by kernel_rfl
theorem ag23 : aggOf Try.prog 23 = some false := by kernel_rfl
theorem sz23 : szOf Try.prog 23 = some 1 := by kernel_rfl
theorem und23 : Try.prog.underlying 23 = some (.slice 26) := by kernel_rfl
theorem el23 : elemOfSlice Try.prog 23 = some 26 := by kernel_rfl
theorem ag24 : aggOf Try.prog 24 = some false := by kernel_rfl
theorem sz24 : szOf Try.prog 24 = some 1 := by kernel_rfl
theorem und24 : Try.prog.underlying 24 = some (.slice 9) := by kernel_rfl
theorem el24 : elemOfSlice Try.prog 24 = some 9 := by kernel_rfl
theorem ag26 : aggOf Try.prog 26 = some true := by kernel_rfl
theorem sz26 : szOf Try.prog 26 = some 5 := by kernel_rfl
theorem ag35 : aggOf Try.prog 35 = some false := by kernel_rfl
theorem sz35 : szOf Try.prog 35 = some 1 := by kernel_rfl
theorem und35 : Try.prog.underlying 35 = some (.slice 51) := by kernel_rfl
theorem el35 : elemOfSlice Try.prog 35 = some 51 := by kernel_rfl
theorem ag37 : aggOf Try.prog 37 = some true := by kernel_rfl
theorem sz37 : szOf Try.prog 37 = some 34 := by kernel_rfl
theorem ag47 : aggOf Try.prog 47 = some false := by kernel_rfl
theorem sz47 : szOf Try.prog 47 = some 1 := by kernel_rfl
theorem und47 : Try.prog.underlying 47 = some (.int IntKind.i64) := by kernel_rfl
theorem ag51 : aggOf Try.prog 51 = some true := by kernel_rfl
theorem sz51 : szOf Try.prog 51 = some 9 := by kernel_rfl
theorem ag58 : aggOf Try.prog 58 = some true := by kernel_rfl
theorem sz58 : szOf Try.prog 58 = some 10 := by kernel_rfl
theorem ag63 : aggOf Try.prog 63 = some true := by kernel_rfl
theorem sz63 : szOf Try.prog 63 = some 24 := by kernel_rfl
theorem fd26_2 : fieldOf Try.prog 26 2 = some ({ name := "Text", type := 9, offset := 2, embedded := false, tag := "", pkgPath := "", byteOffset := 16 }) := by kernel_rfl
theorem fd26_3 : fieldOf Try.prog 26 3 = some ({ name := "Items", type := 23, offset := 3, embedded := false, tag := "", pkgPath := "", byteOffset := 32 }) := by kernel_rfl
theorem fd26_4 : fieldOf Try.prog 26 4 = some ({ name := "Keys", type := 24, offset := 4, embedded := false, tag := "", pkgPath := "", byteOffset := 56 }) := by kernel_rfl
theorem fd37_0 : fieldOf Try.prog 37 0 = some ({ name := "Workflow", type := 9, offset := 0, embedded := false, tag := "", pkgPath := "", byteOffset := 0 }) := by kernel_rfl
theorem fd37_1 : fieldOf Try.prog 37 1 = some ({ name := "ID", type := 9, offset := 1, embedded := false, tag := "", pkgPath := "", byteOffset := 16 }) := by kernel_rfl
theorem fd37_8 : fieldOf Try.prog 37 8 = some ({ name := "Tasks", type := 35, offset := 31, embedded := false, tag := "", pkgPath := "", byteOffset := 504 }) := by kernel_rfl
theorem fd37_9 : fieldOf Try.prog 37 9 = some ({ name := "NextTask", type := 3, offset := 32, embedded := false, tag := "", pkgPath := "", byteOffset := 528 }) := by kernel_rfl
theorem fd51_0 : fieldOf Try.prog 51 0 = some ({ name := "ID", type := 3, offset := 0, embedded := false, tag := "", pkgPath := "", byteOffset := 0 }) := by kernel_rfl
theorem fd51_1 : fieldOf Try.prog 51 1 = some ({ name := "Kind", type := 3, offset := 1, embedded := false, tag := "", pkgPath := "", byteOffset := 8 }) := by kernel_rfl
theorem fd51_3 : fieldOf Try.prog 51 3 = some ({ name := "Seq", type := 3, offset := 3, embedded := false, tag := "", pkgPath := "", byteOffset := 24 }) := by kernel_rfl
theorem fd51_4 : fieldOf Try.prog 51 4 = some ({ name := "Due", type := 3, offset := 4, embedded := false, tag := "", pkgPath := "", byteOffset := 32 }) := by kernel_rfl
theorem fd51_5 : fieldOf Try.prog 51 5 = some ({ name := "Attempt", type := 3, offset := 5, embedded := false, tag := "", pkgPath := "", byteOffset := 40 }) := by kernel_rfl
theorem fd51_6 : fieldOf Try.prog 51 6 = some ({ name := "Workflow", type := 9, offset := 6, embedded := false, tag := "", pkgPath := "", byteOffset := 48 }) := by kernel_rfl
theorem fd51_7 : fieldOf Try.prog 51 7 = some ({ name := "Run", type := 9, offset := 7, embedded := false, tag := "", pkgPath := "", byteOffset := 64 }) := by kernel_rfl
theorem fd51_8 : fieldOf Try.prog 51 8 = some ({ name := "Queue", type := 9, offset := 8, embedded := false, tag := "", pkgPath := "", byteOffset := 80 }) := by kernel_rfl
theorem fd58_0 : fieldOf Try.prog 58 0 = some ({ name := "Queue", type := 9, offset := 0, embedded := false, tag := "", pkgPath := "", byteOffset := 0 }) := by kernel_rfl
theorem fd58_9 : fieldOf Try.prog 58 9 = some ({ name := "Fatal", type := 24, offset := 9, embedded := false, tag := "", pkgPath := "", byteOffset := 80 }) := by kernel_rfl
theorem fd63_0 : fieldOf Try.prog 63 0 = some ({ name := "ID", type := 3, offset := 0, embedded := false, tag := "", pkgPath := "", byteOffset := 0 }) := by kernel_rfl
theorem fd63_1 : fieldOf Try.prog 63 1 = some ({ name := "Kind", type := 3, offset := 1, embedded := false, tag := "", pkgPath := "", byteOffset := 8 }) := by kernel_rfl
theorem fd63_2 : fieldOf Try.prog 63 2 = some ({ name := "Time", type := 3, offset := 2, embedded := false, tag := "", pkgPath := "", byteOffset := 16 }) := by kernel_rfl
theorem fd63_3 : fieldOf Try.prog 63 3 = some ({ name := "Seq", type := 3, offset := 3, embedded := false, tag := "", pkgPath := "", byteOffset := 24 }) := by kernel_rfl
theorem fd63_7 : fieldOf Try.prog 63 7 = some ({ name := "Name", type := 9, offset := 7, embedded := false, tag := "", pkgPath := "", byteOffset := 56 }) := by kernel_rfl
theorem fd63_8 : fieldOf Try.prog 63 8 = some ({ name := "Key", type := 9, offset := 8, embedded := false, tag := "", pkgPath := "", byteOffset := 72 }) := by kernel_rfl
theorem fd63_9 : fieldOf Try.prog 63 9 = some ({ name := "Data", type := 26, offset := 9, embedded := false, tag := "", pkgPath := "", byteOffset := 88 }) := by kernel_rfl
theorem fd63_10 : fieldOf Try.prog 63 10 = some ({ name := "Opts", type := 58, offset := 14, embedded := false, tag := "", pkgPath := "", byteOffset := 168 }) := by kernel_rfl
theorem ze37 : zeroOf Try.prog 37 = some (AV.agg [AV.str [], AV.str [], AV.str [], AV.int IntKind.i64 0, AV.nilslice, AV.int IntKind.i64 0, AV.int IntKind.i64 0, AV.int IntKind.i64 0, AV.int IntKind.i64 0, AV.int IntKind.i64 0, AV.int IntKind.i64 0, AV.str [], AV.int IntKind.i64 0, AV.int IntKind.i64 0, AV.str [], AV.nilslice, AV.nilslice, AV.int IntKind.i64 0, AV.int IntKind.i64 0, AV.str [], AV.nilslice, AV.nilslice, AV.bool false, AV.nilslice, AV.nilslice, AV.nilslice, AV.nilslice, AV.nilslice, AV.nilslice, AV.nilslice, AV.nilslice, AV.nilslice, AV.int IntKind.i64 0, AV.int IntKind.i64 0]) := by kernel_rfl
theorem ze63 : zeroOf Try.prog 63 = some (AV.agg [AV.int IntKind.i64 0, AV.int IntKind.i64 0, AV.int IntKind.i64 0, AV.int IntKind.i64 0, AV.int IntKind.i64 0, AV.int IntKind.i64 0, AV.int IntKind.i64 0, AV.str [], AV.str [], AV.int IntKind.i64 0, AV.int IntKind.i64 0, AV.str [], AV.nilslice, AV.nilslice, AV.str [], AV.int IntKind.i64 0, AV.int IntKind.i64 0, AV.int IntKind.i64 0, AV.int IntKind.i64 0, AV.int IntKind.i64 0, AV.int IntKind.i64 0, AV.int IntKind.i64 0, AV.int IntKind.i64 0, AV.nilslice]) := by kernel_rfl
theorem ze51 : zeroOf Try.prog 51 = some (AV.agg [AV.int IntKind.i64 0, AV.int IntKind.i64 0, AV.int IntKind.i64 0, AV.int IntKind.i64 0, AV.int IntKind.i64 0, AV.int IntKind.i64 0, AV.str [], AV.str [], AV.str []]) := by kernel_rfl
theorem bu37 (parts : List (Nat × AV)) : evBuild Try.prog 37 parts = (fillA (fun i => ([(0, 1), (1, 1), (2, 1), (3, 1), (4, 1), (5, 24), (29, 1), (30, 1), (31, 1), (32, 1), (33, 1)] : List (Nat × Nat))[i]?) [AV.str [], AV.str [], AV.str [], AV.int IntKind.i64 0, AV.nilslice, AV.int IntKind.i64 0, AV.int IntKind.i64 0, AV.int IntKind.i64 0, AV.int IntKind.i64 0, AV.int IntKind.i64 0, AV.int IntKind.i64 0, AV.str [], AV.int IntKind.i64 0, AV.int IntKind.i64 0, AV.str [], AV.nilslice, AV.nilslice, AV.int IntKind.i64 0, AV.int IntKind.i64 0, AV.str [], AV.nilslice, AV.nilslice, AV.bool false, AV.nilslice, AV.nilslice, AV.nilslice, AV.nilslice, AV.nilslice, AV.nilslice, AV.nilslice, AV.nilslice, AV.nilslice, AV.int IntKind.i64 0, AV.int IntKind.i64 0] parts).map .agg := evBuild_struct ze37 (by kernel_rfl) parts
theorem bu63 (parts : List (Nat × AV)) : evBuild Try.prog 63 parts = (fillA (fun i => ([(0, 1), (1, 1), (2, 1), (3, 1), (4, 1), (5, 1), (6, 1), (7, 1), (8, 1), (9, 5), (14, 10)] : List (Nat × Nat))[i]?) [AV.int IntKind.i64 0, AV.int IntKind.i64 0, AV.int IntKind.i64 0, AV.int IntKind.i64 0, AV.int IntKind.i64 0, AV.int IntKind.i64 0, AV.int IntKind.i64 0, AV.str [], AV.str [], AV.int IntKind.i64 0, AV.int IntKind.i64 0, AV.str [], AV.nilslice, AV.nilslice, AV.str [], AV.int IntKind.i64 0, AV.int IntKind.i64 0, AV.int IntKind.i64 0, AV.int IntKind.i64 0, AV.int IntKind.i64 0, AV.int IntKind.i64 0, AV.int IntKind.i64 0, AV.int IntKind.i64 0, AV.nilslice] parts).map .agg := evBuild_struct ze63 (by kernel_rfl) parts
theorem bu51 (parts : List (Nat × AV)) : evBuild Try.prog 51 parts = (fillA (fun i => ([(0, 1), (1, 1), (2, 1), (3, 1), (4, 1), (5, 1), (6, 1), (7, 1), (8, 1)] : List (Nat × Nat))[i]?) [AV.int IntKind.i64 0, AV.int IntKind.i64 0, AV.int IntKind.i64 0, AV.int IntKind.i64 0, AV.int IntKind.i64 0, AV.int IntKind.i64 0, AV.str [], AV.str [], AV.str []] parts).map .agg := evBuild_struct ze51 (by kernel_rfl) parts
end Go.Proofs.T
