/-
  DERIVED. GIVEN WITH THE SEED: THE CARDS: each row of YtjjmdbhgmecpjaaGreatDoorRows.lean that lists a variable, with what it lists TIED to the program's text (the seventh form; the later family's looks); each row that meets fmt, with fmt's text TOLD by the authors' own Lean function (tested against real Go, not proved from fmt's source: count such statements apart). THE CARD IS WHAT COUNTS. Prove the row's statement (the work); the ties are given (YtjjmdbhgmecpjaaGreatDoorTie.lean); close each card by the builder's one call (the guide's Derived/Test/ToyasCard.lean, 'card_holds'). Laid BY PROGRAM, IN A SANDBOX (cutbox-door.mjs). By AI agents, Wed Nov 11 2026. No macro, syntax, notation, axiom, sorry.
-/
import Derived.Test.YtjjmdbhgmecpjaaGreatDoorRows
import GoSem.ClaimSeven
namespace Go.Proofs.YtjjmdbhgmecpjaaGreatDoor
namespace Rows

/-- THE TIED CARD OF 'workflowlaw29.ResumeFits'. -/
def resumeFitsCard : Claim7 := { stood := { row := resumeFitsRow, standIns := [], harness := (true, "6ee867d27db9bfb31d6271d5862bb930c6058a7df2c2dfcd1d789eaac1888a65"), looks := true }, kinds := [], alts := [], laidByText := true, laidKinds := [.sentinel, .sentinel, .data, .data, .data], laidTests := true, laidLooks := .later }
def ResumeFitsCardSaid : Prop := Claim7.holds Tryz.pinned (.plain (OpenSpec.ofChange resumeFitsSpec)) resumeFitsCard

/-- THE SECOND FORM's CARD OF 'workflowlaw29.ResumeFits'. -/
def resumeFitsUptoCard : Claim7 := { stood := { row := resumeFitsUptoRow, standIns := [], harness := (true, "6ee867d27db9bfb31d6271d5862bb930c6058a7df2c2dfcd1d789eaac1888a65"), looks := true }, kinds := [], alts := [], laidByText := true, laidKinds := [.sentinel, .sentinel, .data, .data, .data], laidTests := true, laidLooks := .later }
def ResumeFitsUptoCardSaid : Prop := Claim7.holds Tryz.pinned (.plain (OpenSpec.upto resumeFitsSpec)) resumeFitsUptoCard
end Rows
end Go.Proofs.YtjjmdbhgmecpjaaGreatDoor
