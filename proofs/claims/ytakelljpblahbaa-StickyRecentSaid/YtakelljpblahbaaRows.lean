/-
  No cell of these rows narrows 'for every input' (looked for: loops, veiled, ifaces, maps, wideKeys, modest, calm, conditions, laid).
  DERIVED. THE GIVEN ROWS OF THIS SEAT. 4 by the template 'for every input the law returns true; each argument reads behind the call as it read before'; 0 by the template 'total and deterministic' (their statements: YtakelljpblahbaaTotals.lean).
  GIVEN WITH THE SEED: the statements are not yours to turn. If you find one false, say at which input.
  Laid BY PROGRAM, IN A SANDBOX (cutbox-rows.mjs): the forced cells as the released guide's own fill.sh prints them over the translation eaceb8ec8090eb88… (all of the seat's roots in one cut). By AI agents, Wed Nov 11 2026. No macro, syntax, notation, axiom, sorry.
-/
import Derived.Test.YtakelljpblahbaaChecked
import GoSem.Claim
import GoSem.ClaimJoined
import GoSem.ClaimMapViews
import Derived.JoinedTies
import Derived.KernelRfl
namespace Go.Proofs.Ytakelljpblahbaa
/- THE CELL 'sum', in the pinned program and in every row, IS THE sha256 OF THE DUMP (.gsa) THAT YtakelljpblahbaaProg.lean LOADS. Nothing in Lean hashes anything: it is a label: what it is worth is what the hold of that sum in a sandbox is worth. -/
noncomputable def Try.pinned : Pinned := { name := "ytakelljpblahbaa", sum := "eaceb8ec8090eb88c71690a31ccf6c92a2a2122f04bd5df52fdb032150d876da", checked := Try.checked }
namespace Rows
def none {H : Type} : Left H := { results := [], args := [] }

/-- 'workflowlaw30.StickyRecent': WHATEVER THE INPUT: true; the input reads as it did. -/
def stickyRecentSpec : ChangeSpec := { name := "stickyRecent", fn := fun _ => fun
  | [d1, d2] => { results := [.lit (.bool true)], args := [d1, d2] }
  | _ => none }
def stickyRecentRow : OpenClaim := { program := "ytakelljpblahbaa", sum := "eaceb8ec8090eb88c71690a31ccf6c92a2a2122f04bd5df52fdb032150d876da", func := "workflow/workflowlaw30.StickyRecent", spec := "stickyRecent", unfollowed := true, recurses := true, apart := false }
def StickyRecentSaid : Prop := stickyRecentRow.holds Try.pinned (OpenSpec.ofChange stickyRecentSpec)

/-- ITS FALSE NEIGHBOUR: 'it returns false'. Refute it at one input. -/
def stickyRecentWrong : ChangeSpec := { name := "stickyRecent", fn := fun _ => fun
  | [d1, d2] => { results := [.lit (.bool false)], args := [d1, d2] }
  | _ => none }
def StickyRecentWrongFalsely : Prop := stickyRecentRow.holds Try.pinned (OpenSpec.ofChange stickyRecentWrong)

/-- 'workflowlaw30.StickyCounts': WHATEVER THE INPUT: true; the input reads as it did. -/
def stickyCountsSpec : ChangeSpec := { name := "stickyCounts", fn := fun _ => fun
  | [d] => { results := [.lit (.bool true)], args := [d] }
  | _ => none }
def stickyCountsRow : OpenClaim := { program := "ytakelljpblahbaa", sum := "eaceb8ec8090eb88c71690a31ccf6c92a2a2122f04bd5df52fdb032150d876da", func := "workflow/workflowlaw30.StickyCounts", spec := "stickyCounts", unfollowed := true, recurses := true, apart := false }
def StickyCountsSaid : Prop := stickyCountsRow.holds Try.pinned (OpenSpec.ofChange stickyCountsSpec)

/-- ITS FALSE NEIGHBOUR: 'it returns false'. Refute it at one input. -/
def stickyCountsWrong : ChangeSpec := { name := "stickyCounts", fn := fun _ => fun
  | [d] => { results := [.lit (.bool false)], args := [d] }
  | _ => none }
def StickyCountsWrongFalsely : Prop := stickyCountsRow.holds Try.pinned (OpenSpec.ofChange stickyCountsWrong)

/-- 'workflowlaw30.StickyRuns': WHATEVER THE INPUT: true; the input reads as it did. -/
def stickyRunsSpec : ChangeSpec := { name := "stickyRuns", fn := fun _ => fun
  | [d1, d2] => { results := [.lit (.bool true)], args := [d1, d2] }
  | _ => none }
def stickyRunsRow : OpenClaim := { program := "ytakelljpblahbaa", sum := "eaceb8ec8090eb88c71690a31ccf6c92a2a2122f04bd5df52fdb032150d876da", func := "workflow/workflowlaw30.StickyRuns", spec := "stickyRuns", unfollowed := true, recurses := true, apart := false }
def StickyRunsSaid : Prop := stickyRunsRow.holds Try.pinned (OpenSpec.ofChange stickyRunsSpec)

/-- ITS FALSE NEIGHBOUR: 'it returns false'. Refute it at one input. -/
def stickyRunsWrong : ChangeSpec := { name := "stickyRuns", fn := fun _ => fun
  | [d1, d2] => { results := [.lit (.bool false)], args := [d1, d2] }
  | _ => none }
def StickyRunsWrongFalsely : Prop := stickyRunsRow.holds Try.pinned (OpenSpec.ofChange stickyRunsWrong)

/-- 'workflowlaw30.StickyOwn': WHATEVER THE INPUT: true; the input reads as it did. -/
def stickyOwnSpec : ChangeSpec := { name := "stickyOwn", fn := fun _ => fun
  | [d1, d2] => { results := [.lit (.bool true)], args := [d1, d2] }
  | _ => none }
def stickyOwnRow : OpenClaim := { program := "ytakelljpblahbaa", sum := "eaceb8ec8090eb88c71690a31ccf6c92a2a2122f04bd5df52fdb032150d876da", func := "workflow/workflowlaw30.StickyOwn", spec := "stickyOwn", unfollowed := true, recurses := true, apart := false }
def StickyOwnSaid : Prop := stickyOwnRow.holds Try.pinned (OpenSpec.ofChange stickyOwnSpec)

/-- ITS FALSE NEIGHBOUR: 'it returns false'. Refute it at one input. -/
def stickyOwnWrong : ChangeSpec := { name := "stickyOwn", fn := fun _ => fun
  | [d1, d2] => { results := [.lit (.bool false)], args := [d1, d2] }
  | _ => none }
def StickyOwnWrongFalsely : Prop := stickyOwnRow.holds Try.pinned (OpenSpec.ofChange stickyOwnWrong)

/- THE SECOND FORM. 'bulk': how many values and letters a reading holds, each counted each time it is reached (what is shared counts as often as it is met; a slice's spare places count too). A statement '..UptoSaid' is the law's where the arguments, and the package variables that the reading takes, are together of bulk at most 1048576: NARROWER than '..Said'. Prove '..Said' where nothing that the law and all that it calls make is longer than what came in: it says more and counts as full. Else prove '..UptoSaid'. A law counts once. -/
mutual
def uptoBulk {H : Type} : DataW H → Nat
  | .lit (.string bytes) => bytes.length + 1
  | .lit _ => 1
  | .nil => 1
  | .ptr d => uptoBulk d + 1
  | .slice elems spare => uptoBulkAll elems + uptoBulkAll spare + 1
  | .agg parts => uptoBulkAll parts + 1
  | .iface _ d => uptoBulk d + 1
  | .map entries => uptoBulkEntries entries + 1
  | .held _ => 1
def uptoBulkAll {H : Type} : List (DataW H) → Nat
  | [] => 0
  | d :: r => uptoBulk d + uptoBulkAll r
def uptoBulkEntries {H : Type} : List (Lit × DataW H) → Nat
  | [] => 0
  | x :: r => uptoBulkEntry x + uptoBulkEntries r
def uptoBulkEntry {H : Type} : Lit × DataW H → Nat
  | (.string bytes, d) => bytes.length + uptoBulk d + 1
  | (_, d) => uptoBulk d + 1
 end
def uptoSmall : (H : Type) → List (DataW H) → Bool := fun _ ds => decide (uptoBulkAll ds ≤ 1048576)
def OpenSpec.upto (s : _root_.Go.ChangeSpec) : _root_.Go.OpenSpec := { _root_.Go.OpenSpec.ofChange s with cond := some uptoSmall }

/-- 'workflowlaw30.StickyRecent', WHERE WHAT IT READS IS OF BULK AT MOST 1048576: true; the input reads as it did. -/
def stickyRecentUptoRow : OpenClaim := { program := "ytakelljpblahbaa", sum := "eaceb8ec8090eb88c71690a31ccf6c92a2a2122f04bd5df52fdb032150d876da", func := "workflow/workflowlaw30.StickyRecent", spec := "stickyRecent", unfollowed := true, recurses := true, apart := false, narrowed := true }
def StickyRecentUptoSaid : Prop := stickyRecentUptoRow.holds Try.pinned (OpenSpec.upto stickyRecentSpec)

/-- 'workflowlaw30.StickyCounts', WHERE WHAT IT READS IS OF BULK AT MOST 1048576: true; the input reads as it did. -/
def stickyCountsUptoRow : OpenClaim := { program := "ytakelljpblahbaa", sum := "eaceb8ec8090eb88c71690a31ccf6c92a2a2122f04bd5df52fdb032150d876da", func := "workflow/workflowlaw30.StickyCounts", spec := "stickyCounts", unfollowed := true, recurses := true, apart := false, narrowed := true }
def StickyCountsUptoSaid : Prop := stickyCountsUptoRow.holds Try.pinned (OpenSpec.upto stickyCountsSpec)

/-- 'workflowlaw30.StickyRuns', WHERE WHAT IT READS IS OF BULK AT MOST 1048576: true; the input reads as it did. -/
def stickyRunsUptoRow : OpenClaim := { program := "ytakelljpblahbaa", sum := "eaceb8ec8090eb88c71690a31ccf6c92a2a2122f04bd5df52fdb032150d876da", func := "workflow/workflowlaw30.StickyRuns", spec := "stickyRuns", unfollowed := true, recurses := true, apart := false, narrowed := true }
def StickyRunsUptoSaid : Prop := stickyRunsUptoRow.holds Try.pinned (OpenSpec.upto stickyRunsSpec)

/-- 'workflowlaw30.StickyOwn', WHERE WHAT IT READS IS OF BULK AT MOST 1048576: true; the input reads as it did. -/
def stickyOwnUptoRow : OpenClaim := { program := "ytakelljpblahbaa", sum := "eaceb8ec8090eb88c71690a31ccf6c92a2a2122f04bd5df52fdb032150d876da", func := "workflow/workflowlaw30.StickyOwn", spec := "stickyOwn", unfollowed := true, recurses := true, apart := false, narrowed := true }
def StickyOwnUptoSaid : Prop := stickyOwnUptoRow.holds Try.pinned (OpenSpec.upto stickyOwnSpec)

end Rows
end Go.Proofs.Ytakelljpblahbaa
