/-
  DERIVED. GIVEN WITH THE SEED: THE CARDS: each row of YtjlmgabhhodhfaaGreatDoorRows.lean that lists a variable, with what it lists TIED to the program's text (the seventh form; the later family's looks); each row that meets fmt, with fmt's text TOLD by the authors' own Lean function (tested against real Go, not proved from fmt's source: count such statements apart). THE CARD IS WHAT COUNTS. Prove the row's statement (the work); the ties are given (YtjlmgabhhodhfaaGreatDoorTie.lean); close each card by the builder's one call (the guide's Derived/Test/ToyasCard.lean, 'card_holds'). Laid BY PROGRAM, IN A SANDBOX (cutbox-door.mjs). By AI agents, Wed Nov 11 2026. No macro, syntax, notation, axiom, sorry.
-/
import Derived.Test.YtjlmgabhhodhfaaGreatDoorRows
import GoSem.ClaimSeven
namespace Go.Proofs.YtjlmgabhhodhfaaGreatDoor
namespace Rows

/-- THE TIED CARD OF 'workflowlaw14.FrameSteps'. -/
def frameStepsCard : Claim7 := { stood := { row := frameStepsRow, standIns := [], harness := (true, "97a5cc6e718eba8527005f90b85a05453397e611e02ac1e85cf299b968a71770"), looks := true }, kinds := [], alts := [], laidByText := true, laidKinds := [.data, .listed, .sentinel, .sentinel, .data, .data, .data], laidTests := true, laidLooks := .later }
def FrameStepsCardSaid : Prop := Claim7.holds Tryz.pinned (.plain (OpenSpec.ofChange frameStepsSpec)) frameStepsCard

/-- THE TIED CARD OF 'workflowlaw14.FrameUndoes'. -/
def frameUndoesCard : Claim7 := { stood := { row := frameUndoesRow, standIns := [], harness := (true, "97a5cc6e718eba8527005f90b85a05453397e611e02ac1e85cf299b968a71770"), looks := true }, kinds := [], alts := [], laidByText := true, laidKinds := [.data, .listed, .sentinel, .sentinel, .data, .data, .data], laidTests := true, laidLooks := .later }
def FrameUndoesCardSaid : Prop := Claim7.holds Tryz.pinned (.plain (OpenSpec.ofChange frameUndoesSpec)) frameUndoesCard

/-- THE TIED CARD OF 'workflowlaw14.FrameResumes'. -/
def frameResumesCard : Claim7 := { stood := { row := frameResumesRow, standIns := [], harness := (true, "97a5cc6e718eba8527005f90b85a05453397e611e02ac1e85cf299b968a71770"), looks := true }, kinds := [], alts := [], laidByText := true, laidKinds := [.data, .listed, .sentinel, .sentinel, .data, .data, .data], laidTests := true, laidLooks := .later }
def FrameResumesCardSaid : Prop := Claim7.holds Tryz.pinned (.plain (OpenSpec.ofChange frameResumesSpec)) frameResumesCard

/-- THE TIED CARD OF 'workflowlaw31.QueryAsks'. -/
def queryAsksCard : Claim7 := { stood := { row := queryAsksRow, standIns := [], harness := (true, "97a5cc6e718eba8527005f90b85a05453397e611e02ac1e85cf299b968a71770"), looks := true }, kinds := [], alts := [], laidByText := true, laidKinds := [.data, .listed, .sentinel, .sentinel, .data, .data, .data], laidTests := true, laidLooks := .later }
def QueryAsksCardSaid : Prop := Claim7.holds Tryz.pinned (.plain (OpenSpec.ofChange queryAsksSpec)) queryAsksCard

/-- THE TIED CARD OF 'workflowlaw31.QueryKeeps'. -/
def queryKeepsCard : Claim7 := { stood := { row := queryKeepsRow, standIns := [], harness := (true, "97a5cc6e718eba8527005f90b85a05453397e611e02ac1e85cf299b968a71770"), looks := true }, kinds := [], alts := [], laidByText := true, laidKinds := [.data, .listed, .sentinel, .sentinel, .data, .data, .data], laidTests := true, laidLooks := .later }
def QueryKeepsCardSaid : Prop := Claim7.holds Tryz.pinned (.plain (OpenSpec.ofChange queryKeepsSpec)) queryKeepsCard

/-- THE TIED CARD OF 'workflowlaw14.FrameStarts'. -/
def frameStartsCard : Claim7 := { stood := { row := frameStartsRow, standIns := [], harness := (true, "97a5cc6e718eba8527005f90b85a05453397e611e02ac1e85cf299b968a71770"), looks := true }, kinds := [], alts := [], laidByText := true, laidKinds := [.data, .listed, .sentinel, .sentinel, .data, .data, .data], laidTests := true, laidLooks := .later }
def FrameStartsCardSaid : Prop := Claim7.holds Tryz.pinned (.plain (OpenSpec.ofChange frameStartsSpec)) frameStartsCard

/-- THE TIED CARD OF 'workflowlaw14.FrameRight'. -/
def frameRightCard : Claim7 := { stood := { row := frameRightRow, standIns := [], harness := (true, "97a5cc6e718eba8527005f90b85a05453397e611e02ac1e85cf299b968a71770"), looks := true }, kinds := [], alts := [], laidByText := true, laidKinds := [.data, .listed, .sentinel, .sentinel, .data, .data, .data], laidTests := true, laidLooks := .later }
def FrameRightCardSaid : Prop := Claim7.holds Tryz.pinned (.plain (OpenSpec.ofChange frameRightSpec)) frameRightCard

/-- THE TIED CARD OF 'workflowlaw14.FrameRuns'. -/
def frameRunsCard : Claim7 := { stood := { row := frameRunsRow, standIns := [], harness := (true, "97a5cc6e718eba8527005f90b85a05453397e611e02ac1e85cf299b968a71770"), looks := true }, kinds := [], alts := [], laidByText := true, laidKinds := [.data, .listed, .sentinel, .sentinel, .data, .data, .data], laidTests := true, laidLooks := .later }
def FrameRunsCardSaid : Prop := Claim7.holds Tryz.pinned (.plain (OpenSpec.ofChange frameRunsSpec)) frameRunsCard

/-- THE SECOND FORM's CARD OF 'workflowlaw14.FrameSteps'. -/
def frameStepsUptoCard : Claim7 := { stood := { row := frameStepsUptoRow, standIns := [], harness := (true, "97a5cc6e718eba8527005f90b85a05453397e611e02ac1e85cf299b968a71770"), looks := true }, kinds := [], alts := [], laidByText := true, laidKinds := [.data, .listed, .sentinel, .sentinel, .data, .data, .data], laidTests := true, laidLooks := .later }
def FrameStepsUptoCardSaid : Prop := Claim7.holds Tryz.pinned (.plain (OpenSpec.upto frameStepsSpec)) frameStepsUptoCard

/-- THE SECOND FORM's CARD OF 'workflowlaw14.FrameUndoes'. -/
def frameUndoesUptoCard : Claim7 := { stood := { row := frameUndoesUptoRow, standIns := [], harness := (true, "97a5cc6e718eba8527005f90b85a05453397e611e02ac1e85cf299b968a71770"), looks := true }, kinds := [], alts := [], laidByText := true, laidKinds := [.data, .listed, .sentinel, .sentinel, .data, .data, .data], laidTests := true, laidLooks := .later }
def FrameUndoesUptoCardSaid : Prop := Claim7.holds Tryz.pinned (.plain (OpenSpec.upto frameUndoesSpec)) frameUndoesUptoCard

/-- THE SECOND FORM's CARD OF 'workflowlaw14.FrameResumes'. -/
def frameResumesUptoCard : Claim7 := { stood := { row := frameResumesUptoRow, standIns := [], harness := (true, "97a5cc6e718eba8527005f90b85a05453397e611e02ac1e85cf299b968a71770"), looks := true }, kinds := [], alts := [], laidByText := true, laidKinds := [.data, .listed, .sentinel, .sentinel, .data, .data, .data], laidTests := true, laidLooks := .later }
def FrameResumesUptoCardSaid : Prop := Claim7.holds Tryz.pinned (.plain (OpenSpec.upto frameResumesSpec)) frameResumesUptoCard

/-- THE SECOND FORM's CARD OF 'workflowlaw31.QueryAsks'. -/
def queryAsksUptoCard : Claim7 := { stood := { row := queryAsksUptoRow, standIns := [], harness := (true, "97a5cc6e718eba8527005f90b85a05453397e611e02ac1e85cf299b968a71770"), looks := true }, kinds := [], alts := [], laidByText := true, laidKinds := [.data, .listed, .sentinel, .sentinel, .data, .data, .data], laidTests := true, laidLooks := .later }
def QueryAsksUptoCardSaid : Prop := Claim7.holds Tryz.pinned (.plain (OpenSpec.upto queryAsksSpec)) queryAsksUptoCard

/-- THE SECOND FORM's CARD OF 'workflowlaw31.QueryKeeps'. -/
def queryKeepsUptoCard : Claim7 := { stood := { row := queryKeepsUptoRow, standIns := [], harness := (true, "97a5cc6e718eba8527005f90b85a05453397e611e02ac1e85cf299b968a71770"), looks := true }, kinds := [], alts := [], laidByText := true, laidKinds := [.data, .listed, .sentinel, .sentinel, .data, .data, .data], laidTests := true, laidLooks := .later }
def QueryKeepsUptoCardSaid : Prop := Claim7.holds Tryz.pinned (.plain (OpenSpec.upto queryKeepsSpec)) queryKeepsUptoCard

/-- THE SECOND FORM's CARD OF 'workflowlaw14.FrameStarts'. -/
def frameStartsUptoCard : Claim7 := { stood := { row := frameStartsUptoRow, standIns := [], harness := (true, "97a5cc6e718eba8527005f90b85a05453397e611e02ac1e85cf299b968a71770"), looks := true }, kinds := [], alts := [], laidByText := true, laidKinds := [.data, .listed, .sentinel, .sentinel, .data, .data, .data], laidTests := true, laidLooks := .later }
def FrameStartsUptoCardSaid : Prop := Claim7.holds Tryz.pinned (.plain (OpenSpec.upto frameStartsSpec)) frameStartsUptoCard

/-- THE SECOND FORM's CARD OF 'workflowlaw14.FrameRight'. -/
def frameRightUptoCard : Claim7 := { stood := { row := frameRightUptoRow, standIns := [], harness := (true, "97a5cc6e718eba8527005f90b85a05453397e611e02ac1e85cf299b968a71770"), looks := true }, kinds := [], alts := [], laidByText := true, laidKinds := [.data, .listed, .sentinel, .sentinel, .data, .data, .data], laidTests := true, laidLooks := .later }
def FrameRightUptoCardSaid : Prop := Claim7.holds Tryz.pinned (.plain (OpenSpec.upto frameRightSpec)) frameRightUptoCard

/-- THE SECOND FORM's CARD OF 'workflowlaw14.FrameRuns'. -/
def frameRunsUptoCard : Claim7 := { stood := { row := frameRunsUptoRow, standIns := [], harness := (true, "97a5cc6e718eba8527005f90b85a05453397e611e02ac1e85cf299b968a71770"), looks := true }, kinds := [], alts := [], laidByText := true, laidKinds := [.data, .listed, .sentinel, .sentinel, .data, .data, .data], laidTests := true, laidLooks := .later }
def FrameRunsUptoCardSaid : Prop := Claim7.holds Tryz.pinned (.plain (OpenSpec.upto frameRunsSpec)) frameRunsUptoCard
end Rows
end Go.Proofs.YtjlmgabhhodhfaaGreatDoor
