import Derived.Test.YtjlmgabhhodhfaaGreatDoorRows
import Derived.WalkKit
import Derived.ProofKit
import Derived.OpenShut
import Derived.ShutString
import Derived.ChangeOld
import Derived.Below
import Derived.SizedLaws
import Derived.LaidMore
import Derived.Stop.Joined
import Derived.Lib.LaidTab
import Derived.MakeChecks
import Derived.Deep.DeepHandedRow
import Derived.LaidByTextLater
import Derived.SevenTiedAt
set_option linter.unusedSimpArgs false
set_option linter.unusedVariables false
namespace Go.Proofs.YtjlmgabhhodhfaaGreatDoor.frameRight
open Go.ChangeShapes Go.WideShapes Go.ChangeAt Go.RowKit
noncomputable def args0 : Array Value:=#[.agg #[.slice none 0 0,.slice none 0 0,.slice none 0 0,.slice none 0 0],.agg #[.int .i64 0,.slice none 0 0,.int .i64 0,.slice none 0 0,.bool false,.string .empty]]
theorem wit1 (os : Os) : World.Shaped Tryz.prog ((World.doorLaid Tryz.prog 400 os).forCall (fun _ _=>0) ⟨#[],args0,[]⟩):=World.shaped_of_RefB (by kernel_rfl) (by kernel_rfl)
end Go.Proofs.YtjlmgabhhodhfaaGreatDoor.frameRight
set_option linter.unusedVariables false
namespace Go.Proofs.YtjlmgabhhodhfaaGreatDoor.frameRight
open Go.ChangeShapes Go.WideShapes Go.ChangeAt Go.RowKit
theorem wit2 (os : Os) : Input.okWideB Tryz.prog ((World.doorLaid Tryz.prog 400 os).forCall (fun _ _=>0) ⟨#[],args0,[]⟩) 9 ⟨#[],args0,[]⟩ = true:=by kernel_rfl
theorem wit3 (os : Os) {H : Type} (enc : TypeId × Value → H) : DataW.whole enc Tryz.prog ((World.doorLaid Tryz.prog 400 os).forCall (fun _ _=>0) ⟨#[],args0,[]⟩).memory Tryz.f9.params.toList (Rows.OpenSpec.upto Rows.frameRightSpec).vars false args0.toList 8 = some ([.agg [.nil,.nil,.nil,.nil],.agg [.lit (.int .i64 0),.nil,.lit (.int .i64 0),.nil,.lit (.bool false),.lit (.string [])]],[],[]):=by kernel_rfl
theorem wit4 (os : Os) {H : Type} (enc : TypeId × Value → H) : (Rows.OpenSpec.upto Rows.frameRightSpec).bare.sizedB enc Tryz.prog Tryz.f9 false ((World.doorLaid Tryz.prog 400 os).forCall (fun _ _=>0) ⟨#[],args0,[]⟩).memory args0 8 = true:=by kernel_rfl
end Go.Proofs.YtjlmgabhhodhfaaGreatDoor.frameRight
namespace Go.Proofs.YtjlmgabhhodhfaaGreatDoor
open Go
theorem noOwnUnsafe : Tryz.pinned.checked.prog.headLifts.contains "ownunsafe" = false:=by kernel_rfl
theorem tieA1 : Tryz.prog.worded (varsWordLater true) = true:=by kernel_rfl
theorem tieA2 : Tryz.prog.worded (varsWordLater !true) = false:=by kernel_rfl
theorem tieA3 : Tryz.prog.worded rootWordLater = true:=by kernel_rfl
theorem tieA4 : ([("strings.asciiSpace",Rows.laid_strings_asciiSpace),("unicode.White_Space",Rows.laid_unicode_White_Space),("strconv.ErrSyntax",Rows.laid_strconv_ErrSyntax),("strconv.ErrRange",Rows.laid_strconv_ErrRange),("internal/strconv.uint64pow10",Rows.laid_internal_strconv_uint64pow10),("math/bits.deBruijn32tab",Rows.laid_math_bits_deBruijn32tab),("math/bits.deBruijn64tab",Rows.laid_math_bits_deBruijn64tab)] : List (String × DataW Unit)).map (fun x=>Tryz.prog.kindOfLater x.1) = ([.data,.listed,.sentinel,.sentinel,.data,.data,.data] : List LaidKind).map some:=by kernel_rfl
theorem tieA5 : (Tryz.prog.funcNamed "gosem.cut.vars").isSome = true:=by kernel_rfl
theorem tieA6 : varsNamedLaterB Tryz.prog (varsId Tryz.prog) [("strings.asciiSpace",Rows.laid_strings_asciiSpace),("unicode.White_Space",Rows.laid_unicode_White_Space),("strconv.ErrSyntax",Rows.laid_strconv_ErrSyntax),("strconv.ErrRange",Rows.laid_strconv_ErrRange),("internal/strconv.uint64pow10",Rows.laid_internal_strconv_uint64pow10),("math/bits.deBruijn32tab",Rows.laid_math_bits_deBruijn32tab),("math/bits.deBruijn64tab",Rows.laid_math_bits_deBruijn64tab)] = true:=by kernel_rfl
end Go.Proofs.YtjlmgabhhodhfaaGreatDoor
namespace Go.Proofs.YtjlmgabhhodhfaaGreatDoor
open Go
theorem noGo : Tryz.pinned.checked.prog.funcs.toList.any Func.goes = false:=by kernel_rfl
theorem goes_false {P : Program} (h : P.funcs.toList.any Func.goes = false) (f : FuncId) : P.goes f = false:=by
 have h' : P.funcs.any Func.goes = false:=by rw [← Array.any_toList];exact h
 unfold Program.goes
 rw [h',Bool.and_false,Bool.or_false,List.any_eq_false]
 intro g _
 cases hg : P.funcs[g]? with
 | none=>simp
 | some fn=>
  have:=List.any_eq_false.1 h fn (Array.mem_toList_iff.2 (Array.mem_of_getElem? hg))
  simpa using this
theorem goesFrom_false {P : Program} (h : P.funcs.toList.any Func.goes = false) (s : String) : P.goesFrom s = false:=by
 unfold Program.goesFrom
 cases P.funcNamed s with
 | none=>rfl
 | some f=>exact goes_false h f
theorem frameRightUpto_goes : false = Rows.frameRightUptoRow.goesBy Tryz.pinned.checked.prog:=by
 unfold OpenClaim.goesBy Program.goesAt
 rw [goesFrom_false noGo]
 rfl
end Go.Proofs.YtjlmgabhhodhfaaGreatDoor
