import Derived.Test.YtlllflmjpclobaaEvR
import Derived.Test.YtlllflmjpclobaaProg
set_option linter.unusedVariables false
set_option linter.unusedSimpArgs false
namespace Go.Proofs.T
open Go.Ev
theorem ag4 : aggOf Try.prog 4 = some false := by kernel_rfl
theorem sz4 : szOf Try.prog 4 = some 1 := by kernel_rfl
theorem und4 : Try.prog.underlying 4 = some .bool := by kernel_rfl
theorem ag44 : aggOf Try.prog 44 = some false := by kernel_rfl
theorem sz44 : szOf Try.prog 44 = some 1 := by kernel_rfl
theorem und44 : Try.prog.underlying 44 = some (.slice 3) := by kernel_rfl
theorem el44 : elemOfSlice Try.prog 44 = some 3 := by kernel_rfl
theorem fd37_2 : fieldOf Try.prog 37 2 = some ({ name := "Parent", type := 9, offset := 2, embedded := false, tag := "", pkgPath := "", byteOffset := 32 }) := by kernel_rfl
theorem fd37_10 : fieldOf Try.prog 37 10 = some ({ name := "Version", type := 3, offset := 33, embedded := false, tag := "", pkgPath := "", byteOffset := 536 }) := by kernel_rfl
end Go.Proofs.T
