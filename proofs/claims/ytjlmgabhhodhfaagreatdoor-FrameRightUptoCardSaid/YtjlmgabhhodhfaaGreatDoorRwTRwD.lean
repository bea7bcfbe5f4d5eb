import Derived.Test.YtjlmgabhhodhfaaGreatDoorTieB1RwC
import Derived.Test.YtjlmgabhhodhfaaGreatDoorTieB2
import Derived.Test.YtjlmgabhhodhfaaGreatDoorTieB3
import Derived.Test.YtjlmgabhhodhfaaGreatDoorTieB4
import Derived.Test.YtjlmgabhhodhfaaGreatDoorRows
import Derived.WalkKit
import Derived.ProofKit
import Derived.OpenShut
import Derived.ShutString
import Derived.ChangeOld
import Derived.Below
import Derived.SizedLaws
import Derived.LaidMore
import Derived.Stop.Joined
import Derived.Lib.LaidTab
import Derived.MakeChecks
set_option linter.unusedSimpArgs false
namespace Go.Proofs.YtjlmgabhhodhfaaGreatDoor
open Go
theorem tie : Tryz.prog.laidByTextLater [("strings.asciiSpace",Rows.laid_strings_asciiSpace),("unicode.White_Space",Rows.laid_unicode_White_Space),("strconv.ErrSyntax",Rows.laid_strconv_ErrSyntax),("strconv.ErrRange",Rows.laid_strconv_ErrRange),("internal/strconv.uint64pow10",Rows.laid_internal_strconv_uint64pow10),("math/bits.deBruijn32tab",Rows.laid_math_bits_deBruijn32tab),("math/bits.deBruijn64tab",Rows.laid_math_bits_deBruijn64tab)] [.data,.listed,.sentinel,.sentinel,.data,.data,.data] true:=
 Program.laidByTextLater_by_run 400 8 tieA1 tieA2 tieA3 tieA4 tieA5 tieA6 tieA7 tieA8 tieA9
theorem frameRightUpto_row_tie : Rows.frameRightUptoRow.laidByTextAt .later Tryz.pinned [.data,.listed,.sentinel,.sentinel,.data,.data,.data] true:=
 OpenClaim.laidByTextAt_later rfl rfl tie noOwnUnsafe
end Go.Proofs.YtjlmgabhhodhfaaGreatDoor
set_option linter.unusedVariables false
namespace Go.Proofs.YtjlmgabhhodhfaaGreatDoor.frameRight
open Go.ChangeShapes Go.WideShapes Go.ChangeAt Go.RowKit
theorem dl (P : Program) (n : Nat) (os : Os) (args : Array Value) : (varsWorld P n (varsId P) os (fun _ _=>0)).memory.heap = ((World.doorLaid P n os).forCall (fun _ _=>0) ⟨#[],args,[]⟩).memory.heap:=rfl
theorem laidEq : (Rows.frameRightUptoRow.laid) = [("strings.asciiSpace",Rows.laid_strings_asciiSpace),("unicode.White_Space",Rows.laid_unicode_White_Space),("strconv.ErrSyntax",Rows.laid_strconv_ErrSyntax),("strconv.ErrRange",Rows.laid_strconv_ErrRange),("internal/strconv.uint64pow10",Rows.laid_internal_strconv_uint64pow10),("math/bits.deBruijn32tab",Rows.laid_math_bits_deBruijn32tab),("math/bits.deBruijn64tab",Rows.laid_math_bits_deBruijn64tab)]:=rfl
theorem doorMet (os : Os) (args : Array Value) : laidMet Tryz.prog [("strings.asciiSpace",Rows.laid_strings_asciiSpace),("unicode.White_Space",Rows.laid_unicode_White_Space),("strconv.ErrSyntax",Rows.laid_strconv_ErrSyntax),("strconv.ErrRange",Rows.laid_strconv_ErrRange),("internal/strconv.uint64pow10",Rows.laid_internal_strconv_uint64pow10),("math/bits.deBruijn32tab",Rows.laid_math_bits_deBruijn32tab),("math/bits.deBruijn64tab",Rows.laid_math_bits_deBruijn64tab)] ((World.doorLaid Tryz.prog 400 os).forCall (fun _ _=>0) ⟨#[],args,[]⟩).memory:=
 laidMet.of_heap (dl Tryz.prog 400 os args) (laidMet_of_run' (l:=[("strings.asciiSpace",Rows.laid_strings_asciiSpace),("unicode.White_Space",Rows.laid_unicode_White_Space),("strconv.ErrSyntax",Rows.laid_strconv_ErrSyntax),("strconv.ErrRange",Rows.laid_strconv_ErrRange),("internal/strconv.uint64pow10",Rows.laid_internal_strconv_uint64pow10),("math/bits.deBruijn32tab",Rows.laid_math_bits_deBruijn32tab),("math/bits.deBruijn64tab",Rows.laid_math_bits_deBruijn64tab)]) 8 (tieA8 os _) (tieA9 os _))
theorem door_met (os : Os) (args : Array Value) : laidMetH Tryz.prog Rows.frameRightUptoRow.laid ((World.doorLaid Tryz.prog 400 os).forCall (fun _ _=>0) ⟨#[],args,[]⟩).memory:=by
 rw [MakeChecks.laidMetH_plain Tryz.prog Rows.frameRightUptoRow.laid _ rfl]
 rw [laidEq]
 exact doorMet os args
end Go.Proofs.YtjlmgabhhodhfaaGreatDoor.frameRight
