import Derived.Test.YtjlmgabhhodhfaaGreatDoorRows
import Derived.JoinedOf
set_option linter.unusedSimpArgs false
set_option linter.unusedVariables false
namespace Go.Proofs.YtjlmgabhhodhfaaGreatDoor.frameRight
open Go
theorem cf9 : ((Rows.frameRightUptoRow.inPlace == Tryz.pinned.checked.prog.inPlace 9)) = true:=by kernel_rfl
theorem cf10 : ((Rows.frameRightUptoRow.unfollowed == Tryz.pinned.checked.prog.unfollowed 9)) = true:=by kernel_rfl
end Go.Proofs.YtjlmgabhhodhfaaGreatDoor.frameRight
namespace Go.Proofs.YtjlmgabhhodhfaaGreatDoor.frameRight
open Go
theorem cf11 : ((Rows.frameRightUptoRow.recurses == Tryz.pinned.checked.prog.recurses 9)) = true:=by kernel_rfl
theorem cf12 : ((Rows.frameRightUptoRow.named == Tryz.pinned.checked.prog.varsNamed 9)) = true:=by kernel_rfl
end Go.Proofs.YtjlmgabhhodhfaaGreatDoor.frameRight
namespace Go.Proofs.YtjlmgabhhodhfaaGreatDoor.frameRight
open Go
theorem cf0 : (Rows.frameRightUptoRow.wf (OpenSpec.ofChange (Rows.OpenSpec.upto Rows.frameRightSpec).bare)) = true:=by kernel_rfl
theorem cf1 : (laidOutB Tryz.pinned.checked.prog) = true:=by kernel_rfl
theorem cf2 : (mapsRowed Tryz.pinned.checked.prog) = true:=by kernel_rfl
theorem cf3 : (Tryz.f9.params.all (Tryz.pinned.checked.prog.readableRec ·)) = true:=by kernel_rfl
theorem cf4 : (namedTie Tryz.pinned.checked.prog Rows.frameRightUptoRow.named (Rows.OpenSpec.upto Rows.frameRightSpec).bare.vars) = true:=by kernel_rfl
theorem cf5 : ((Rows.frameRightUptoRow.stops == [])) = true:=by kernel_rfl
theorem cf6 : ((Tryz.pinned.checked.prog.stops == [])) = true:=by kernel_rfl
theorem cf7 : ((Rows.frameRightUptoRow.knobs == [])) = true:=by kernel_rfl
theorem cf8 : ((Tryz.pinned.checked.prog.stopKnobs == [])) = true:=by kernel_rfl
theorem cf13 : ((Rows.frameRightUptoRow.maps == (Tryz.f9.params.toList ++ (Rows.OpenSpec.upto Rows.frameRightSpec).bare.plain.varTypes Tryz.pinned.checked.prog).any (Tryz.pinned.checked.prog.mapsRec ·))) = true:=by kernel_rfl
theorem cf14 : ((Rows.frameRightUptoRow.ifaces == (Tryz.f9.params.toList ++ (Rows.OpenSpec.upto Rows.frameRightSpec).bare.plain.varTypes Tryz.pinned.checked.prog).any (Tryz.pinned.checked.prog.ifacesRec ·))) = true:=by kernel_rfl
theorem cf15 : ((Rows.frameRightUptoRow.mapsOut == Tryz.pinned.checked.prog.mapsAmong Tryz.f9.resultTypes.toList)) = true:=by kernel_rfl
theorem cf16 : ((Rows.frameRightUptoRow.loops == (Tryz.f9.params.toList ++ (Rows.OpenSpec.upto Rows.frameRightSpec).bare.plain.varTypes Tryz.pinned.checked.prog).any (Tryz.pinned.checked.prog.loopsFrom ·))) = true:=by kernel_rfl
theorem cf17 : ((Rows.frameRightUptoRow.wideKeys == (Tryz.f9.params.toList ++ (Rows.OpenSpec.upto Rows.frameRightSpec).bare.plain.varTypes Tryz.pinned.checked.prog ++ Tryz.f9.resultTypes.toList).any (Tryz.pinned.checked.prog.wideKeysFrom ·))) = true:=by kernel_rfl
theorem cf18 : ((Rows.OpenSpec.upto Rows.frameRightSpec).bare.vars.all (Tryz.pinned.checked.prog.varReadable ·)) = true:=by kernel_rfl
theorem cf19 : (Tryz.f9.resultTypes.all (fun t=>Tryz.pinned.checked.prog.readableRec t && decide (t < Tryz.pinned.checked.prog.types.size))) = true:=by kernel_rfl
theorem cf20 : ((Rows.frameRightUptoRow.ifacesOut == Tryz.f9.resultTypes.toList.any (Tryz.pinned.checked.prog.ifacesRec ·))) = true:=by kernel_rfl
theorem cf21 : ((Rows.frameRightUptoRow.loopsOut == Tryz.f9.resultTypes.toList.any (Tryz.pinned.checked.prog.loopsFrom ·))) = true:=by kernel_rfl
theorem cf22 : ((Rows.frameRightUptoRow.plainKeys == Tryz.pinned.checked.prog.plainKeys)) = true:=by kernel_rfl
theorem cf23 : (Rows.frameRightUptoRow.shortTexts.isNone) = true:=by kernel_rfl
theorem cf24 : (Tryz.pinned.checked.prog.stopsHeard) = true:=by kernel_rfl
theorem cf25 : (Tryz.pinned.checked.prog.mayEnter) = true:=by kernel_rfl
theorem cf26 : ((Rows.frameRightUptoRow.lifted == Tryz.pinned.checked.prog.liftsFinal)) = true:=by kernel_rfl
theorem cf27 : ((Tryz.pinned.checked.prog.make == some Rows.frameRightUptoRow.make)) = true:=by kernel_rfl
theorem cf28 : ((Rows.frameRightUptoRow.kinds == (if Rows.frameRightUptoRow.domain.isEmpty then [] else Tryz.f9.params.toList.map fun t=>match Tryz.pinned.checked.prog.underlying t with | some (.int k)=>some k | _=>none))) = true:=by kernel_rfl
theorem cf29 : ((Rows.frameRightUptoRow.pinned == Rows.frameRightUptoRow.pinnedBy)) = true:=by kernel_rfl
theorem cf30 : ((Rows.frameRightUptoRow.veiled == (Tryz.f9.params.toList ++ (Rows.OpenSpec.upto Rows.frameRightSpec).bare.plain.varTypes Tryz.pinned.checked.prog ++ Tryz.f9.resultTypes.toList).any (Tryz.pinned.checked.prog.veiledRec ·))) = true:=by kernel_rfl
theorem cf31 : (Rows.frameRightUptoRow.veiledFits Tryz.pinned.checked.prog Tryz.f9.params.toList (Tryz.f9.params.toList ++ (Rows.OpenSpec.upto Rows.frameRightSpec).bare.plain.varTypes Tryz.pinned.checked.prog ++ Tryz.f9.resultTypes.toList)) = true:=by kernel_rfl
end Go.Proofs.YtjlmgabhhodhfaaGreatDoor.frameRight
namespace Go.Proofs.YtjlmgabhhodhfaaGreatDoor.frameRight
open Go
theorem ba {a b : Bool} (ha : a = true) (hb : b = true) : (a && b) = true:=by rw [ha,hb];rfl
set_option maxRecDepth 100000 in
theorem closed : joinedFacts Tryz.pinned.checked.prog 9 Tryz.f9 (Rows.OpenSpec.upto Rows.frameRightSpec).bare Rows.frameRightUptoRow = true:=(ba (ba (ba (ba (ba (ba (ba (ba (ba (ba (ba (ba (ba (ba (ba (ba (ba (ba (ba (ba (ba (ba (ba (ba (ba (ba (ba (ba (ba (ba (ba cf0 cf1) cf2) cf3) cf4) cf5) cf6) cf7) cf8) cf9) cf10) cf11) cf12) cf13) cf14) cf15) cf16) cf17) cf18) cf19) cf20) cf21) cf22) cf23) cf24) cf25) cf26) cf27) cf28) cf29) cf30) cf31)
end Go.Proofs.YtjlmgabhhodhfaaGreatDoor.frameRight
