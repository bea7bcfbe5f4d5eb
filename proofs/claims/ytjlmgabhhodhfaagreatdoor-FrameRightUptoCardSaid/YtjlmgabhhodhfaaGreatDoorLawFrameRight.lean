/- The law FrameRight, the card of its second form: for every call that the row lets in, workflowlaw14.FrameRight returns true and its arguments read as before; the seven listed package variables are tied to the program's text; the arguments are of bulk at most 1048576. Conditions: those of the given row and card, nothing else. -/
import Derived.Test.YtjlmgabhhodhfaaGreatDoorY23aRwR
import Derived.Test.YtjlmgabhhodhfaaGreatDoorRc0Rc3
import Derived.JoinedCond
import Derived.Test.YtjlmgabhhodhfaaGreatDoorRwTRwD
import Derived.Test.YtjlmgabhhodhfaaGreatDoorTieB1RwC
import Derived.Test.YtjlmgabhhodhfaaGreatDoorCards
import Derived.SevenTiedAt
set_option linter.unusedSimpArgs false
set_option linter.unusedVariables false
namespace Go.Proofs.YtjlmgabhhodhfaaGreatDoor.frameRight
open Go
theorem fnm : Tryz.pinned.checked.prog.funcNamed Rows.frameRightUptoRow.func = some 9:=by kernel_rfl
theorem inst : Tryz.f9.isInstance Tryz.pinned.checked.prog Rows.frameRightUptoRow.origin Rows.frameRightUptoRow.targs:=of_decide_eq_true (by kernel_rfl)
theorem over : Rows.frameRightUptoRow.holds Tryz.pinned (Rows.OpenSpec.upto Rows.frameRightSpec):=
 OpenClaim.holds_of_cond 9 Tryz.f9 rfl rfl rfl rfl rfl rfl rfl ⟨rfl,rfl,rfl,rfl,rfl⟩ rfl rfl rfl rfl rfl fnm Tryz.func9 closed
  inst (by unfold Func.isWrapper;first | (rw [if_pos (by decide +kernel)];kernel_rfl) | (rw [if_neg (by decide +kernel)];exact ⟨rfl,rfl⟩))
  (fun os started H enc _ F=>by rw [OpenClaim.pre_eq_preRow];exact lifted os started H enc F)
theorem proved : Rows.FrameRightUptoSaid:=over
end Go.Proofs.YtjlmgabhhodhfaaGreatDoor.frameRight
namespace Go.Proofs.YtjlmgabhhodhfaaGreatDoor
open Go
theorem frt_wf : Rows.frameRightUptoRow.wfByText (Rows.OpenSpec.upto Rows.frameRightSpec) = true:=by kernel_rfl
theorem frt_main : Tryz.pinned.checked.prog.mainIs = some (true,"97a5cc6e718eba8527005f90b85a05453397e611e02ac1e85cf299b968a71770".toList):=by kernel_rfl
theorem frt_looks : true = Tryz.pinned.checked.prog.looks []:=by kernel_rfl
theorem frt_params : ([27,31].all fun u=>!Tryz.pinned.checked.prog.wantsStandIn u) = true:=by kernel_rfl
theorem frameRightUpto_holds : Rows.FrameRightUptoCardSaid:=
 Claim7.holds_tied_plain_at .later [] [.data,.listed,.sentinel,.sentinel,.data,.data,.data] true (true,"97a5cc6e718eba8527005f90b85a05453397e611e02ac1e85cf299b968a71770") true
  frameRight.proved (fun _ h=>by cases h) frt_wf (fun _ h=>by cases h) frameRightUpto_row_tie rfl ⟨rfl,rfl⟩ frt_main rfl
  (fun f fn hf hfn=>by
   obtain rfl : f = 9:=(Option.some.inj (frameRight.fnm.symm.trans hf)).symm
   obtain rfl : fn = Tryz.f9:=(Option.some.inj (Tryz.func9.symm.trans hfn)).symm
   exact ⟨frt_looks,fun j t ht=>by
    rw [Tryz.params9] at ht
    have hm : t ∈ [27,31]:=by simpa using Array.mem_of_getElem? ht
    simpa using List.all_eq_true.1 frt_params t hm⟩)
  frameRightUpto_goes
end Go.Proofs.YtjlmgabhhodhfaaGreatDoor
