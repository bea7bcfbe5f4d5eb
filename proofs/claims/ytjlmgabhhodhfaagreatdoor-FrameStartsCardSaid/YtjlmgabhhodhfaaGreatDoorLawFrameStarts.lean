/- The law FrameStarts, its card: for every call that the row lets in, workflowlaw14.FrameStarts returns true and its arguments read as before; the seven listed package variables are tied to the program's text. Conditions: those of the given row and card, nothing else. -/
import Derived.Test.YtjlmgabhhodhfaaGreatDoorY23
import Derived.Test.YtjlmgabhhodhfaaGreatDoorR11aR11d
import Derived.Test.YtjlmgabhhodhfaaGreatDoorTieB5Y23d
import Derived.Test.YtjlmgabhhodhfaaGreatDoorTieB1Y23c
import Derived.Test.YtjlmgabhhodhfaaGreatDoorCards
import Derived.SevenTiedAt
set_option linter.unusedSimpArgs false
set_option linter.unusedVariables false
namespace Go.Proofs.YtjlmgabhhodhfaaGreatDoor.frameStarts
open Go
theorem fnm : Tryz.pinned.checked.prog.funcNamed Rows.frameStartsRow.func = some 8 := by kernel_rfl
theorem inst : Tryz.f8.isInstance Tryz.pinned.checked.prog Rows.frameStartsRow.origin Rows.frameStartsRow.targs := of_decide_eq_true (by kernel_rfl)
theorem over : Rows.frameStartsRow.holds Tryz.pinned (OpenSpec.ofChange Rows.frameStartsSpec) :=
  OpenClaim.holds_of_wide 8 Tryz.f8 rfl rfl rfl rfl rfl rfl rfl ⟨rfl, rfl, rfl, rfl, rfl⟩ rfl rfl rfl rfl rfl fnm Tryz.func8 closed
    inst (by unfold Func.isWrapper; first | (rw [if_pos (by decide +kernel)]; kernel_rfl) | (rw [if_neg (by decide +kernel)]; exact ⟨rfl, rfl⟩))
    (fun os started H enc _ => lifted os started H enc)
theorem proved : Rows.FrameStartsSaid := over
end Go.Proofs.YtjlmgabhhodhfaaGreatDoor.frameStarts
namespace Go.Proofs.YtjlmgabhhodhfaaGreatDoor
open Go
theorem fst_wf : Rows.frameStartsRow.wfByText (OpenSpec.ofChange Rows.frameStartsSpec) = true := by kernel_rfl
theorem fst_main : Tryz.pinned.checked.prog.mainIs = some (true, "97a5cc6e718eba8527005f90b85a05453397e611e02ac1e85cf299b968a71770".toList) := by kernel_rfl
theorem fst_looks : true = Tryz.pinned.checked.prog.looks [] := by kernel_rfl
theorem fst_params : ([27, 3, 24].all fun u => !Tryz.pinned.checked.prog.wantsStandIn u) = true := by kernel_rfl
theorem frameStarts_holds : Rows.FrameStartsCardSaid :=
  Claim7.holds_tied_plain_at .later [] [.data, .listed, .sentinel, .sentinel, .data, .data, .data] true (true, "97a5cc6e718eba8527005f90b85a05453397e611e02ac1e85cf299b968a71770") true
    frameStarts.proved (fun _ h => by cases h) fst_wf (fun _ h => by cases h) frameStarts_row_tie rfl ⟨rfl, rfl⟩ fst_main rfl
    (fun f fn hf hfn => by
      obtain rfl : f = 8 := (Option.some.inj (frameStarts.fnm.symm.trans hf)).symm
      obtain rfl : fn = Tryz.f8 := (Option.some.inj (Tryz.func8.symm.trans hfn)).symm
      exact ⟨fst_looks, fun j t ht => by
        rw [Tryz.params8] at ht
        have hm : t ∈ [27, 3, 24] := by simpa using Array.mem_of_getElem? ht
        simpa using List.all_eq_true.1 fst_params t hm⟩)
    frameStarts_goes
end Go.Proofs.YtjlmgabhhodhfaaGreatDoor
