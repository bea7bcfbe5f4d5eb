import Derived.Test.YtakelljpblahbaaEvR
import Derived.Test.YtakelljpblahbaaProg
set_option linter.unusedVariables false
set_option linter.unusedSimpArgs false
namespace Go.Proofs.T
open Go.Ev
theorem ag3 : aggOf Try.prog 3 = some false := by kernel_rfl
theorem sz3 : szOf Try.prog 3 = some 1 := by kernel_rfl
theorem und3 : Try.prog.underlying 3 = some (.int IntKind.i64) := by kernel_rfl
theorem ag4 : aggOf Try.prog 4 = some false := by kernel_rfl
theorem sz4 : szOf Try.prog 4 = some 1 := by kernel_rfl
theorem und4 : Try.prog.underlying 4 = some .bool := by kernel_rfl
theorem ag5 : aggOf Try.prog 5 = some false := by kernel_rfl
theorem sz5 : szOf Try.prog 5 = some 1 := by kernel_rfl
theorem und5 : Try.prog.underlying 5 = some (.int IntKind.u8) := by kernel_rfl
theorem ag9 : aggOf Try.prog 9 = some false := by kernel_rfl
theorem sz9 : szOf Try.prog 9 = some 1 := by kernel_rfl
theorem und9 : Try.prog.underlying 9 = some .string := by kernel_rfl
theorem ag22 : aggOf Try.prog 22 = some false := by kernel_rfl
theorem sz22 : szOf Try.prog 22 = some 1 := by kernel_rfl
theorem und22 : Try.prog.underlying 22 = some (.pointer 63) := by kernel_rfl
theorem ag23 : aggOf Try.prog 23 = some false := by kernel_rfl
theorem sz23 : szOf Try.prog 23 = some 1 := by kernel_rfl
theorem und23 : Try.prog.underlying 23 = some (.int IntKind.i64) := by kernel_rfl
theorem ag27 : aggOf Try.prog 27 = some false := by kernel_rfl
theorem sz27 : szOf Try.prog 27 = some 1 := by kernel_rfl
theorem und27 : Try.prog.underlying 27 = some (.slice 5) := by kernel_rfl
theorem el27 : elemOfSlice Try.prog 27 = some 5 := by kernel_rfl
theorem ag28 : aggOf Try.prog 28 = some false := by kernel_rfl
theorem sz28 : szOf Try.prog 28 = some 1 := by kernel_rfl
theorem und28 : Try.prog.underlying 28 = some (.slice 60) := by kernel_rfl
theorem el28 : elemOfSlice Try.prog 28 = some 60 := by kernel_rfl
theorem ag29 : aggOf Try.prog 29 = some false := by kernel_rfl
theorem sz29 : szOf Try.prog 29 = some 1 := by kernel_rfl
theorem und29 : Try.prog.underlying 29 = some (.slice 83) := by kernel_rfl
theorem el29 : elemOfSlice Try.prog 29 = some 83 := by kernel_rfl
theorem ag30 : aggOf Try.prog 30 = some false := by kernel_rfl
theorem sz30 : szOf Try.prog 30 = some 1 := by kernel_rfl
theorem und30 : Try.prog.underlying 30 = some (.slice 87) := by kernel_rfl
theorem el30 : elemOfSlice Try.prog 30 = some 87 := by kernel_rfl
theorem ag31 : aggOf Try.prog 31 = some false := by kernel_rfl
theorem sz31 : szOf Try.prog 31 = some 1 := by kernel_rfl
theorem und31 : Try.prog.underlying 31 = some (.slice 91) := by kernel_rfl
theorem el31 : elemOfSlice Try.prog 31 = some 91 := by kernel_rfl
theorem ag32 : aggOf Try.prog 32 = some false := by kernel_rfl
theorem sz32 : szOf Try.prog 32 = some 1 := by kernel_rfl
theorem und32 : Try.prog.underlying 32 = some (.slice 95) := by kernel_rfl
theorem el32 : elemOfSlice Try.prog 32 = some 95 := by kernel_rfl
theorem ag33 : aggOf Try.prog 33 = some false := by kernel_rfl
theorem sz33 : szOf Try.prog 33 = some 1 := by kernel_rfl
theorem und33 : Try.prog.underlying 33 = some (.slice 101) := by kernel_rfl
theorem el33 : elemOfSlice Try.prog 33 = some 101 := by kernel_rfl
theorem ag35 : aggOf Try.prog 35 = some true := by kernel_rfl
theorem sz35 : szOf Try.prog 35 = some 15 := by kernel_rfl
theorem ag37 : aggOf Try.prog 37 = some true := by kernel_rfl
theorem sz37 : szOf Try.prog 37 = some 17 := by kernel_rfl
theorem ag43 : aggOf Try.prog 43 = some true := by kernel_rfl
theorem sz43 : szOf Try.prog 43 = some 17 := by kernel_rfl
theorem ag47 : aggOf Try.prog 47 = some false := by kernel_rfl
theorem sz47 : szOf Try.prog 47 = some 1 := by kernel_rfl
theorem und47 : Try.prog.underlying 47 = some (.slice 49) := by kernel_rfl
theorem el47 : elemOfSlice Try.prog 47 = some 49 := by kernel_rfl
theorem ag49 : aggOf Try.prog 49 = some true := by kernel_rfl
theorem sz49 : szOf Try.prog 49 = some 3 := by kernel_rfl
theorem ag51 : aggOf Try.prog 51 = some false := by kernel_rfl
theorem sz51 : szOf Try.prog 51 = some 1 := by kernel_rfl
theorem und51 : Try.prog.underlying 51 = some (.slice 9) := by kernel_rfl
theorem el51 : elemOfSlice Try.prog 51 = some 9 := by kernel_rfl
theorem ag54 : aggOf Try.prog 54 = some false := by kernel_rfl
theorem sz54 : szOf Try.prog 54 = some 1 := by kernel_rfl
theorem und54 : Try.prog.underlying 54 = some (.pointer 73) := by kernel_rfl
theorem ag60 : aggOf Try.prog 60 = some true := by kernel_rfl
theorem sz60 : szOf Try.prog 60 = some 5 := by kernel_rfl
theorem ag61 : aggOf Try.prog 61 = some false := by kernel_rfl
theorem sz61 : szOf Try.prog 61 = some 1 := by kernel_rfl
theorem und61 : Try.prog.underlying 61 = some (.map 9 37) := by kernel_rfl
theorem ag63 : aggOf Try.prog 63 = some true := by kernel_rfl
theorem sz63 : szOf Try.prog 63 = some 5 := by kernel_rfl
theorem ag71 : aggOf Try.prog 71 = some false := by kernel_rfl
theorem sz71 : szOf Try.prog 71 = some 1 := by kernel_rfl
theorem und71 : Try.prog.underlying 71 = some (.slice 106) := by kernel_rfl
theorem el71 : elemOfSlice Try.prog 71 = some 106 := by kernel_rfl
theorem ag73 : aggOf Try.prog 73 = some true := by kernel_rfl
theorem sz73 : szOf Try.prog 73 = some 5 := by kernel_rfl
theorem ag81 : aggOf Try.prog 81 = some false := by kernel_rfl
theorem sz81 : szOf Try.prog 81 = some 1 := by kernel_rfl
theorem und81 : Try.prog.underlying 81 = some (.slice 3) := by kernel_rfl
theorem el81 : elemOfSlice Try.prog 81 = some 3 := by kernel_rfl
theorem ag83 : aggOf Try.prog 83 = some true := by kernel_rfl
theorem sz83 : szOf Try.prog 83 = some 6 := by kernel_rfl
theorem ag87 : aggOf Try.prog 87 = some true := by kernel_rfl
theorem sz87 : szOf Try.prog 87 = some 8 := by kernel_rfl
theorem ag91 : aggOf Try.prog 91 = some true := by kernel_rfl
theorem sz91 : szOf Try.prog 91 = some 3 := by kernel_rfl
theorem ag95 : aggOf Try.prog 95 = some true := by kernel_rfl
theorem sz95 : szOf Try.prog 95 = some 8 := by kernel_rfl
theorem ag101 : aggOf Try.prog 101 = some true := by kernel_rfl
theorem sz101 : szOf Try.prog 101 = some 20 := by kernel_rfl
theorem ag106 : aggOf Try.prog 106 = some true := by kernel_rfl
theorem sz106 : szOf Try.prog 106 = some 18 := by kernel_rfl
theorem fd35_0 : fieldOf Try.prog 35 0 = some ({ name := "Globals", type := 28, offset := 0, embedded := false, tag := "", pkgPath := "", byteOffset := 0 }) := by kernel_rfl
theorem fd35_1 : fieldOf Try.prog 35 1 = some ({ name := "Coros", type := 29, offset := 1, embedded := false, tag := "", pkgPath := "", byteOffset := 24 }) := by kernel_rfl
theorem fd35_2 : fieldOf Try.prog 35 2 = some ({ name := "Futures", type := 30, offset := 2, embedded := false, tag := "", pkgPath := "", byteOffset := 48 }) := by kernel_rfl
theorem fd35_3 : fieldOf Try.prog 35 3 = some ({ name := "Channels", type := 31, offset := 3, embedded := false, tag := "", pkgPath := "", byteOffset := 72 }) := by kernel_rfl
theorem fd35_4 : fieldOf Try.prog 35 4 = some ({ name := "Seq", type := 3, offset := 4, embedded := false, tag := "", pkgPath := "", byteOffset := 96 }) := by kernel_rfl
theorem fd35_5 : fieldOf Try.prog 35 5 = some ({ name := "Now", type := 3, offset := 5, embedded := false, tag := "", pkgPath := "", byteOffset := 104 }) := by kernel_rfl
theorem fd35_6 : fieldOf Try.prog 35 6 = some ({ name := "Seed", type := 3, offset := 6, embedded := false, tag := "", pkgPath := "", byteOffset := 112 }) := by kernel_rfl
theorem fd35_7 : fieldOf Try.prog 35 7 = some ({ name := "Draws", type := 3, offset := 7, embedded := false, tag := "", pkgPath := "", byteOffset := 120 }) := by kernel_rfl
theorem fd35_8 : fieldOf Try.prog 35 8 = some ({ name := "Patches", type := 32, offset := 8, embedded := false, tag := "", pkgPath := "", byteOffset := 128 }) := by kernel_rfl
theorem fd35_9 : fieldOf Try.prog 35 9 = some ({ name := "Known", type := 32, offset := 9, embedded := false, tag := "", pkgPath := "", byteOffset := 152 }) := by kernel_rfl
theorem fd35_10 : fieldOf Try.prog 35 10 = some ({ name := "Offers", type := 28, offset := 10, embedded := false, tag := "", pkgPath := "", byteOffset := 176 }) := by kernel_rfl
theorem fd35_11 : fieldOf Try.prog 35 11 = some ({ name := "Replay", type := 4, offset := 11, embedded := false, tag := "", pkgPath := "", byteOffset := 200 }) := by kernel_rfl
theorem fd35_12 : fieldOf Try.prog 35 12 = some ({ name := "Cancel", type := 4, offset := 12, embedded := false, tag := "", pkgPath := "", byteOffset := 201 }) := by kernel_rfl
theorem fd35_13 : fieldOf Try.prog 35 13 = some ({ name := "Commands", type := 33, offset := 13, embedded := false, tag := "", pkgPath := "", byteOffset := 208 }) := by kernel_rfl
theorem fd35_14 : fieldOf Try.prog 35 14 = some ({ name := "Status", type := 3, offset := 14, embedded := false, tag := "", pkgPath := "", byteOffset := 232 }) := by kernel_rfl
theorem fd37_0 : fieldOf Try.prog 37 0 = some ({ name := "Machine", type := 35, offset := 0, embedded := false, tag := "", pkgPath := "", byteOffset := 0 }) := by kernel_rfl
theorem fd37_1 : fieldOf Try.prog 37 1 = some ({ name := "Done", type := 3, offset := 15, embedded := false, tag := "", pkgPath := "", byteOffset := 240 }) := by kernel_rfl
theorem fd37_2 : fieldOf Try.prog 37 2 = some ({ name := "Live", type := 4, offset := 16, embedded := false, tag := "", pkgPath := "", byteOffset := 248 }) := by kernel_rfl
theorem fd43_0 : fieldOf Try.prog 43 0 = some ({ name := "Machine", type := 35, offset := 0, embedded := false, tag := "", pkgPath := "", byteOffset := 0 }) := by kernel_rfl
theorem fd43_1 : fieldOf Try.prog 43 1 = some ({ name := "Done", type := 3, offset := 15, embedded := false, tag := "", pkgPath := "", byteOffset := 240 }) := by kernel_rfl
theorem fd43_2 : fieldOf Try.prog 43 2 = some ({ name := "Live", type := 4, offset := 16, embedded := false, tag := "", pkgPath := "", byteOffset := 248 }) := by kernel_rfl
theorem fd49_0 : fieldOf Try.prog 49 0 = some ({ name := "Kind", type := 3, offset := 0, embedded := false, tag := "", pkgPath := "", byteOffset := 0 }) := by kernel_rfl
theorem fd49_1 : fieldOf Try.prog 49 1 = some ({ name := "Key", type := 9, offset := 1, embedded := false, tag := "", pkgPath := "", byteOffset := 8 }) := by kernel_rfl
theorem fd49_2 : fieldOf Try.prog 49 2 = some ({ name := "N", type := 3, offset := 2, embedded := false, tag := "", pkgPath := "", byteOffset := 24 }) := by kernel_rfl
theorem fd60_0 : fieldOf Try.prog 60 0 = some ({ name := "Kind", type := 3, offset := 0, embedded := false, tag := "", pkgPath := "", byteOffset := 0 }) := by kernel_rfl
theorem fd60_1 : fieldOf Try.prog 60 1 = some ({ name := "Int", type := 3, offset := 1, embedded := false, tag := "", pkgPath := "", byteOffset := 8 }) := by kernel_rfl
theorem fd60_2 : fieldOf Try.prog 60 2 = some ({ name := "Text", type := 9, offset := 2, embedded := false, tag := "", pkgPath := "", byteOffset := 16 }) := by kernel_rfl
theorem fd60_3 : fieldOf Try.prog 60 3 = some ({ name := "Items", type := 28, offset := 3, embedded := false, tag := "", pkgPath := "", byteOffset := 32 }) := by kernel_rfl
theorem fd60_4 : fieldOf Try.prog 60 4 = some ({ name := "Keys", type := 51, offset := 4, embedded := false, tag := "", pkgPath := "", byteOffset := 56 }) := by kernel_rfl
theorem fd63_0 : fieldOf Try.prog 63 0 = some ({ name := "size", type := 3, offset := 0, embedded := false, tag := "", pkgPath := "workflow/sticky", byteOffset := 0 }) := by kernel_rfl
theorem fd63_1 : fieldOf Try.prog 63 1 = some ({ name := "points", type := 61, offset := 1, embedded := false, tag := "", pkgPath := "workflow/sticky", byteOffset := 8 }) := by kernel_rfl
theorem fd63_2 : fieldOf Try.prog 63 2 = some ({ name := "keys", type := 51, offset := 2, embedded := false, tag := "", pkgPath := "workflow/sticky", byteOffset := 16 }) := by kernel_rfl
theorem fd63_3 : fieldOf Try.prog 63 3 = some ({ name := "hits", type := 3, offset := 3, embedded := false, tag := "", pkgPath := "workflow/sticky", byteOffset := 40 }) := by kernel_rfl
theorem fd63_4 : fieldOf Try.prog 63 4 = some ({ name := "misses", type := 3, offset := 4, embedded := false, tag := "", pkgPath := "workflow/sticky", byteOffset := 48 }) := by kernel_rfl
theorem fd73_0 : fieldOf Try.prog 73 0 = some ({ name := "Made", type := 4, offset := 0, embedded := false, tag := "", pkgPath := "", byteOffset := 0 }) := by kernel_rfl
theorem fd73_1 : fieldOf Try.prog 73 1 = some ({ name := "Size", type := 3, offset := 1, embedded := false, tag := "", pkgPath := "", byteOffset := 8 }) := by kernel_rfl
theorem fd73_2 : fieldOf Try.prog 73 2 = some ({ name := "Entries", type := 71, offset := 2, embedded := false, tag := "", pkgPath := "", byteOffset := 16 }) := by kernel_rfl
theorem fd73_3 : fieldOf Try.prog 73 3 = some ({ name := "Found", type := 3, offset := 3, embedded := false, tag := "", pkgPath := "", byteOffset := 40 }) := by kernel_rfl
theorem fd73_4 : fieldOf Try.prog 73 4 = some ({ name := "Wrong", type := 3, offset := 4, embedded := false, tag := "", pkgPath := "", byteOffset := 48 }) := by kernel_rfl
theorem fd91_0 : fieldOf Try.prog 91 0 = some ({ name := "Name", type := 9, offset := 0, embedded := false, tag := "", pkgPath := "", byteOffset := 0 }) := by kernel_rfl
theorem fd91_1 : fieldOf Try.prog 91 1 = some ({ name := "Queue", type := 28, offset := 1, embedded := false, tag := "", pkgPath := "", byteOffset := 16 }) := by kernel_rfl
theorem fd91_2 : fieldOf Try.prog 91 2 = some ({ name := "Waits", type := 81, offset := 2, embedded := false, tag := "", pkgPath := "", byteOffset := 40 }) := by kernel_rfl
theorem fd95_0 : fieldOf Try.prog 95 0 = some ({ name := "Kind", type := 3, offset := 0, embedded := false, tag := "", pkgPath := "", byteOffset := 0 }) := by kernel_rfl
theorem fd95_1 : fieldOf Try.prog 95 1 = some ({ name := "Name", type := 9, offset := 1, embedded := false, tag := "", pkgPath := "", byteOffset := 8 }) := by kernel_rfl
theorem fd95_2 : fieldOf Try.prog 95 2 = some ({ name := "N", type := 3, offset := 2, embedded := false, tag := "", pkgPath := "", byteOffset := 24 }) := by kernel_rfl
theorem fd95_3 : fieldOf Try.prog 95 3 = some ({ name := "Data", type := 60, offset := 3, embedded := false, tag := "", pkgPath := "", byteOffset := 32 }) := by kernel_rfl
theorem fd106_0 : fieldOf Try.prog 106 0 = some ({ name := "Key", type := 9, offset := 0, embedded := false, tag := "", pkgPath := "", byteOffset := 0 }) := by kernel_rfl
theorem fd106_1 : fieldOf Try.prog 106 1 = some ({ name := "Point", type := 43, offset := 1, embedded := false, tag := "", pkgPath := "", byteOffset := 16 }) := by kernel_rfl
theorem ze5 : zeroOf Try.prog 5 = some (AV.int IntKind.u8 0) := by kernel_rfl
theorem ze37 : zeroOf Try.prog 37 = some (AV.agg [AV.nilslice, AV.nilslice, AV.nilslice, AV.nilslice, AV.int IntKind.i64 0, AV.int IntKind.i64 0, AV.int IntKind.i64 0, AV.int IntKind.i64 0, AV.nilslice, AV.nilslice, AV.nilslice, AV.bool false, AV.bool false, AV.nilslice, AV.int IntKind.i64 0, AV.int IntKind.i64 0, AV.bool false]) := by kernel_rfl
theorem ze49 : zeroOf Try.prog 49 = some (AV.agg [AV.int IntKind.i64 0, AV.str [], AV.int IntKind.i64 0]) := by kernel_rfl
theorem ze63 : zeroOf Try.prog 63 = some (AV.agg [AV.int IntKind.i64 0, AV.nilMap, AV.nilslice, AV.int IntKind.i64 0, AV.int IntKind.i64 0]) := by kernel_rfl
theorem ze60 : zeroOf Try.prog 60 = some (AV.agg [AV.int IntKind.i64 0, AV.int IntKind.i64 0, AV.str [], AV.nilslice, AV.nilslice]) := by kernel_rfl
theorem ze35 : zeroOf Try.prog 35 = some (AV.agg [AV.nilslice, AV.nilslice, AV.nilslice, AV.nilslice, AV.int IntKind.i64 0, AV.int IntKind.i64 0, AV.int IntKind.i64 0, AV.int IntKind.i64 0, AV.nilslice, AV.nilslice, AV.nilslice, AV.bool false, AV.bool false, AV.nilslice, AV.int IntKind.i64 0]) := by kernel_rfl
theorem ze43 : zeroOf Try.prog 43 = some (AV.agg [AV.nilslice, AV.nilslice, AV.nilslice, AV.nilslice, AV.int IntKind.i64 0, AV.int IntKind.i64 0, AV.int IntKind.i64 0, AV.int IntKind.i64 0, AV.nilslice, AV.nilslice, AV.nilslice, AV.bool false, AV.bool false, AV.nilslice, AV.int IntKind.i64 0, AV.int IntKind.i64 0, AV.bool false]) := by kernel_rfl
theorem ze9 : zeroOf Try.prog 9 = some (AV.str []) := by kernel_rfl
theorem ze73 : zeroOf Try.prog 73 = some (AV.agg [AV.bool false, AV.int IntKind.i64 0, AV.nilslice, AV.int IntKind.i64 0, AV.int IntKind.i64 0]) := by kernel_rfl
theorem ze106 : zeroOf Try.prog 106 = some (AV.agg [AV.str [], AV.nilslice, AV.nilslice, AV.nilslice, AV.nilslice, AV.int IntKind.i64 0, AV.int IntKind.i64 0, AV.int IntKind.i64 0, AV.int IntKind.i64 0, AV.nilslice, AV.nilslice, AV.nilslice, AV.bool false, AV.bool false, AV.nilslice, AV.int IntKind.i64 0, AV.int IntKind.i64 0, AV.bool false]) := by kernel_rfl
theorem ze83 : zeroOf Try.prog 83 = some (AV.agg [AV.int IntKind.i64 0, AV.nilslice, AV.int IntKind.i64 0, AV.nilslice, AV.bool false, AV.str []]) := by kernel_rfl
theorem ze87 : zeroOf Try.prog 87 = some (AV.agg [AV.int IntKind.i64 0, AV.int IntKind.i64 0, AV.int IntKind.i64 0, AV.int IntKind.i64 0, AV.int IntKind.i64 0, AV.str [], AV.nilslice, AV.nilslice]) := by kernel_rfl
theorem ze91 : zeroOf Try.prog 91 = some (AV.agg [AV.str [], AV.nilslice, AV.nilslice]) := by kernel_rfl
theorem ze95 : zeroOf Try.prog 95 = some (AV.agg [AV.int IntKind.i64 0, AV.str [], AV.int IntKind.i64 0, AV.int IntKind.i64 0, AV.int IntKind.i64 0, AV.str [], AV.nilslice, AV.nilslice]) := by kernel_rfl
theorem ze101 : zeroOf Try.prog 101 = some (AV.agg [AV.int IntKind.i64 0, AV.int IntKind.i64 0, AV.str [], AV.str [], AV.int IntKind.i64 0, AV.int IntKind.i64 0, AV.int IntKind.i64 0, AV.str [], AV.nilslice, AV.nilslice, AV.str [], AV.int IntKind.i64 0, AV.int IntKind.i64 0, AV.int IntKind.i64 0, AV.int IntKind.i64 0, AV.int IntKind.i64 0, AV.int IntKind.i64 0, AV.int IntKind.i64 0, AV.int IntKind.i64 0, AV.nilslice]) := by kernel_rfl
theorem bu63 (parts : List (Nat × AV)) : evBuild Try.prog 63 parts = (fillA (fun i => ([(0, 1), (1, 1), (2, 1), (3, 1), (4, 1)] : List (Nat × Nat))[i]?) [AV.int IntKind.i64 0, AV.nilMap, AV.nilslice, AV.int IntKind.i64 0, AV.int IntKind.i64 0] parts).map .agg := evBuild_struct ze63 (by kernel_rfl) parts
theorem bu60 (parts : List (Nat × AV)) : evBuild Try.prog 60 parts = (fillA (fun i => ([(0, 1), (1, 1), (2, 1), (3, 1), (4, 1)] : List (Nat × Nat))[i]?) [AV.int IntKind.i64 0, AV.int IntKind.i64 0, AV.str [], AV.nilslice, AV.nilslice] parts).map .agg := evBuild_struct ze60 (by kernel_rfl) parts
theorem bu35 (parts : List (Nat × AV)) : evBuild Try.prog 35 parts = (fillA (fun i => ([(0, 1), (1, 1), (2, 1), (3, 1), (4, 1), (5, 1), (6, 1), (7, 1), (8, 1), (9, 1), (10, 1), (11, 1), (12, 1), (13, 1), (14, 1)] : List (Nat × Nat))[i]?) [AV.nilslice, AV.nilslice, AV.nilslice, AV.nilslice, AV.int IntKind.i64 0, AV.int IntKind.i64 0, AV.int IntKind.i64 0, AV.int IntKind.i64 0, AV.nilslice, AV.nilslice, AV.nilslice, AV.bool false, AV.bool false, AV.nilslice, AV.int IntKind.i64 0] parts).map .agg := evBuild_struct ze35 (by kernel_rfl) parts
theorem bu37 (parts : List (Nat × AV)) : evBuild Try.prog 37 parts = (fillA (fun i => ([(0, 15), (15, 1), (16, 1)] : List (Nat × Nat))[i]?) [AV.nilslice, AV.nilslice, AV.nilslice, AV.nilslice, AV.int IntKind.i64 0, AV.int IntKind.i64 0, AV.int IntKind.i64 0, AV.int IntKind.i64 0, AV.nilslice, AV.nilslice, AV.nilslice, AV.bool false, AV.bool false, AV.nilslice, AV.int IntKind.i64 0, AV.int IntKind.i64 0, AV.bool false] parts).map .agg := evBuild_struct ze37 (by kernel_rfl) parts
theorem bu43 (parts : List (Nat × AV)) : evBuild Try.prog 43 parts = (fillA (fun i => ([(0, 15), (15, 1), (16, 1)] : List (Nat × Nat))[i]?) [AV.nilslice, AV.nilslice, AV.nilslice, AV.nilslice, AV.int IntKind.i64 0, AV.int IntKind.i64 0, AV.int IntKind.i64 0, AV.int IntKind.i64 0, AV.nilslice, AV.nilslice, AV.nilslice, AV.bool false, AV.bool false, AV.nilslice, AV.int IntKind.i64 0, AV.int IntKind.i64 0, AV.bool false] parts).map .agg := evBuild_struct ze43 (by kernel_rfl) parts
theorem bu73 (parts : List (Nat × AV)) : evBuild Try.prog 73 parts = (fillA (fun i => ([(0, 1), (1, 1), (2, 1), (3, 1), (4, 1)] : List (Nat × Nat))[i]?) [AV.bool false, AV.int IntKind.i64 0, AV.nilslice, AV.int IntKind.i64 0, AV.int IntKind.i64 0] parts).map .agg := evBuild_struct ze73 (by kernel_rfl) parts
theorem bu106 (parts : List (Nat × AV)) : evBuild Try.prog 106 parts = (fillA (fun i => ([(0, 1), (1, 17)] : List (Nat × Nat))[i]?) [AV.str [], AV.nilslice, AV.nilslice, AV.nilslice, AV.nilslice, AV.int IntKind.i64 0, AV.int IntKind.i64 0, AV.int IntKind.i64 0, AV.int IntKind.i64 0, AV.nilslice, AV.nilslice, AV.nilslice, AV.bool false, AV.bool false, AV.nilslice, AV.int IntKind.i64 0, AV.int IntKind.i64 0, AV.bool false] parts).map .agg := evBuild_struct ze106 (by kernel_rfl) parts
theorem str9 : isStrT Try.prog 9 = true := by kernel_rfl
/-- The facts on types, together. -/
theorem fx : ((((((((type_of% @ag3) ∧ (type_of% @sz3)) ∧ ((type_of% @und3) ∧ ((type_of% @ag4) ∧ (type_of% @sz4)))) ∧ (((type_of% @und4) ∧ (type_of% @ag5)) ∧ ((type_of% @sz5) ∧ ((type_of% @und5) ∧ (type_of% @ag9))))) ∧ ((((type_of% @sz9) ∧ (type_of% @und9)) ∧ ((type_of% @ag22) ∧ ((type_of% @sz22) ∧ (type_of% @und22)))) ∧ (((type_of% @ag23) ∧ (type_of% @sz23)) ∧ ((type_of% @und23) ∧ ((type_of% @ag27) ∧ (type_of% @sz27)))))) ∧ (((((type_of% @und27) ∧ (type_of% @el27)) ∧ ((type_of% @ag28) ∧ ((type_of% @sz28) ∧ (type_of% @und28)))) ∧ (((type_of% @el28) ∧ (type_of% @ag29)) ∧ ((type_of% @sz29) ∧ ((type_of% @und29) ∧ (type_of% @el29))))) ∧ ((((type_of% @ag30) ∧ (type_of% @sz30)) ∧ ((type_of% @und30) ∧ ((type_of% @el30) ∧ (type_of% @ag31)))) ∧ (((type_of% @sz31) ∧ ((type_of% @und31) ∧ (type_of% @el31))) ∧ ((type_of% @ag32) ∧ ((type_of% @sz32) ∧ (type_of% @und32))))))) ∧ ((((((type_of% @el32) ∧ (type_of% @ag33)) ∧ ((type_of% @sz33) ∧ ((type_of% @und33) ∧ (type_of% @el33)))) ∧ (((type_of% @ag35) ∧ (type_of% @sz35)) ∧ ((type_of% @ag37) ∧ ((type_of% @sz37) ∧ (type_of% @ag43))))) ∧ ((((type_of% @sz43) ∧ (type_of% @ag47)) ∧ ((type_of% @sz47) ∧ ((type_of% @und47) ∧ (type_of% @el47)))) ∧ (((type_of% @ag49) ∧ (type_of% @sz49)) ∧ ((type_of% @ag51) ∧ ((type_of% @sz51) ∧ (type_of% @und51)))))) ∧ (((((type_of% @el51) ∧ (type_of% @ag54)) ∧ ((type_of% @sz54) ∧ ((type_of% @und54) ∧ (type_of% @ag60)))) ∧ (((type_of% @sz60) ∧ (type_of% @ag61)) ∧ ((type_of% @sz61) ∧ ((type_of% @und61) ∧ (type_of% @ag63))))) ∧ ((((type_of% @sz63) ∧ (type_of% @ag71)) ∧ ((type_of% @sz71) ∧ ((type_of% @und71) ∧ (type_of% @el71)))) ∧ (((type_of% @ag73) ∧ ((type_of% @sz73) ∧ (type_of% @ag81))) ∧ ((type_of% @sz81) ∧ ((type_of% @und81) ∧ (type_of% @el81)))))))) ∧ (((((((type_of% @ag83) ∧ (type_of% @sz83)) ∧ ((type_of% @ag87) ∧ ((type_of% @sz87) ∧ (type_of% @ag91)))) ∧ (((type_of% @sz91) ∧ (type_of% @ag95)) ∧ ((type_of% @sz95) ∧ ((type_of% @ag101) ∧ (type_of% @sz101))))) ∧ ((((type_of% @ag106) ∧ (type_of% @sz106)) ∧ ((type_of% @fd35_0) ∧ ((type_of% @fd35_1) ∧ (type_of% @fd35_2)))) ∧ (((type_of% @fd35_3) ∧ (type_of% @fd35_4)) ∧ ((type_of% @fd35_5) ∧ ((type_of% @fd35_6) ∧ (type_of% @fd35_7)))))) ∧ (((((type_of% @fd35_8) ∧ (type_of% @fd35_9)) ∧ ((type_of% @fd35_10) ∧ ((type_of% @fd35_11) ∧ (type_of% @fd35_12)))) ∧ (((type_of% @fd35_13) ∧ (type_of% @fd35_14)) ∧ ((type_of% @fd37_0) ∧ ((type_of% @fd37_1) ∧ (type_of% @fd37_2))))) ∧ ((((type_of% @fd43_0) ∧ (type_of% @fd43_1)) ∧ ((type_of% @fd43_2) ∧ ((type_of% @fd49_0) ∧ (type_of% @fd49_1)))) ∧ (((type_of% @fd49_2) ∧ ((type_of% @fd60_0) ∧ (type_of% @fd60_1))) ∧ ((type_of% @fd60_2) ∧ ((type_of% @fd60_3) ∧ (type_of% @fd60_4))))))) ∧ ((((((type_of% @fd63_0) ∧ (type_of% @fd63_1)) ∧ ((type_of% @fd63_2) ∧ ((type_of% @fd63_3) ∧ (type_of% @fd63_4)))) ∧ (((type_of% @fd73_0) ∧ (type_of% @fd73_1)) ∧ ((type_of% @fd73_2) ∧ ((type_of% @fd73_3) ∧ (type_of% @fd73_4))))) ∧ ((((type_of% @fd91_0) ∧ (type_of% @fd91_1)) ∧ ((type_of% @fd91_2) ∧ ((type_of% @fd95_0) ∧ (type_of% @fd95_1)))) ∧ (((type_of% @fd95_2) ∧ (type_of% @fd95_3)) ∧ ((type_of% @fd106_0) ∧ ((type_of% @fd106_1) ∧ (type_of% @ze5)))))) ∧ (((((type_of% @ze37) ∧ (type_of% @ze49)) ∧ ((type_of% @ze63) ∧ ((type_of% @ze60) ∧ (type_of% @ze35)))) ∧ (((type_of% @ze43) ∧ (type_of% @ze9)) ∧ ((type_of% @ze73) ∧ ((type_of% @ze106) ∧ (type_of% @ze83))))) ∧ ((((type_of% @ze87) ∧ (type_of% @ze91)) ∧ ((type_of% @ze95) ∧ ((type_of% @ze101) ∧ (type_of% @bu63)))) ∧ (((type_of% @bu60) ∧ ((type_of% @bu35) ∧ (type_of% @bu37))) ∧ ((type_of% @bu43) ∧ ((type_of% @bu73) ∧ (type_of% @bu106))))))))) :=
  And.intro (And.intro (And.intro (And.intro (And.intro (And.intro (And.intro (@ag3) (@sz3)) (And.intro (@und3) (And.intro (@ag4) (@sz4)))) (And.intro (And.intro (@und4) (@ag5)) (And.intro (@sz5) (And.intro (@und5) (@ag9))))) (And.intro (And.intro (And.intro (@sz9) (@und9)) (And.intro (@ag22) (And.intro (@sz22) (@und22)))) (And.intro (And.intro (@ag23) (@sz23)) (And.intro (@und23) (And.intro (@ag27) (@sz27)))))) (And.intro (And.intro (And.intro (And.intro (@und27) (@el27)) (And.intro (@ag28) (And.intro (@sz28) (@und28)))) (And.intro (And.intro (@el28) (@ag29)) (And.intro (@sz29) (And.intro (@und29) (@el29))))) (And.intro (And.intro (And.intro (@ag30) (@sz30)) (And.intro (@und30) (And.intro (@el30) (@ag31)))) (And.intro (And.intro (@sz31) (And.intro (@und31) (@el31))) (And.intro (@ag32) (And.intro (@sz32) (@und32))))))) (And.intro (And.intro (And.intro (And.intro (And.intro (@el32) (@ag33)) (And.intro (@sz33) (And.intro (@und33) (@el33)))) (And.intro (And.intro (@ag35) (@sz35)) (And.intro (@ag37) (And.intro (@sz37) (@ag43))))) (And.intro (And.intro (And.intro (@sz43) (@ag47)) (And.intro (@sz47) (And.intro (@und47) (@el47)))) (And.intro (And.intro (@ag49) (@sz49)) (And.intro (@ag51) (And.intro (@sz51) (@und51)))))) (And.intro (And.intro (And.intro (And.intro (@el51) (@ag54)) (And.intro (@sz54) (And.intro (@und54) (@ag60)))) (And.intro (And.intro (@sz60) (@ag61)) (And.intro (@sz61) (And.intro (@und61) (@ag63))))) (And.intro (And.intro (And.intro (@sz63) (@ag71)) (And.intro (@sz71) (And.intro (@und71) (@el71)))) (And.intro (And.intro (@ag73) (And.intro (@sz73) (@ag81))) (And.intro (@sz81) (And.intro (@und81) (@el81)))))))) (And.intro (And.intro (And.intro (And.intro (And.intro (And.intro (@ag83) (@sz83)) (And.intro (@ag87) (And.intro (@sz87) (@ag91)))) (And.intro (And.intro (@sz91) (@ag95)) (And.intro (@sz95) (And.intro (@ag101) (@sz101))))) (And.intro (And.intro (And.intro (@ag106) (@sz106)) (And.intro (@fd35_0) (And.intro (@fd35_1) (@fd35_2)))) (And.intro (And.intro (@fd35_3) (@fd35_4)) (And.intro (@fd35_5) (And.intro (@fd35_6) (@fd35_7)))))) (And.intro (And.intro (And.intro (And.intro (@fd35_8) (@fd35_9)) (And.intro (@fd35_10) (And.intro (@fd35_11) (@fd35_12)))) (And.intro (And.intro (@fd35_13) (@fd35_14)) (And.intro (@fd37_0) (And.intro (@fd37_1) (@fd37_2))))) (And.intro (And.intro (And.intro (@fd43_0) (@fd43_1)) (And.intro (@fd43_2) (And.intro (@fd49_0) (@fd49_1)))) (And.intro (And.intro (@fd49_2) (And.intro (@fd60_0) (@fd60_1))) (And.intro (@fd60_2) (And.intro (@fd60_3) (@fd60_4))))))) (And.intro (And.intro (And.intro (And.intro (And.intro (@fd63_0) (@fd63_1)) (And.intro (@fd63_2) (And.intro (@fd63_3) (@fd63_4)))) (And.intro (And.intro (@fd73_0) (@fd73_1)) (And.intro (@fd73_2) (And.intro (@fd73_3) (@fd73_4))))) (And.intro (And.intro (And.intro (@fd91_0) (@fd91_1)) (And.intro (@fd91_2) (And.intro (@fd95_0) (@fd95_1)))) (And.intro (And.intro (@fd95_2) (@fd95_3)) (And.intro (@fd106_0) (And.intro (@fd106_1) (@ze5)))))) (And.intro (And.intro (And.intro (And.intro (@ze37) (@ze49)) (And.intro (@ze63) (And.intro (@ze60) (@ze35)))) (And.intro (And.intro (@ze43) (@ze9)) (And.intro (@ze73) (And.intro (@ze106) (@ze83))))) (And.intro (And.intro (And.intro (@ze87) (@ze91)) (And.intro (@ze95) (And.intro (@ze101) (@bu63)))) (And.intro (And.intro (@bu60) (And.intro (@bu35) (@bu37))) (And.intro (@bu43) (And.intro (@bu73) (@bu106))))))))
end Go.Proofs.T
