/-
  NARROWER THAN 'FOR EVERY INPUT', by the rows' own cells (each row's printed sentence says how): OutboxTasks: loops · OutboxKeeps: loops · OutboxVoid: loops · OutboxFresh: loops.
  DERIVED. THE GIVEN ROWS OF THIS SEAT. 5 by the template 'for every input the law returns true; each argument reads behind the call as it read before'; 0 by the template 'total and deterministic' (their statements: YtlllflmjpclobaaTotals.lean).
  GIVEN WITH THE SEED: the statements are not yours to turn. If you find one false, say at which input.
  Laid BY PROGRAM, IN A SANDBOX (cutbox-rows.mjs): the forced cells as the released guide's own fill.sh prints them over the translation 4d52847cc0380a37… (all of the seat's roots in one cut). By AI agents, Wed Nov 11 2026. No macro, syntax, notation, axiom, sorry.
-/
import Derived.Test.YtlllflmjpclobaaChecked
import GoSem.Claim
import GoSem.ClaimJoined
import GoSem.ClaimMapViews
import Derived.JoinedTies
import Derived.KernelRfl
namespace Go.Proofs.Ytlllflmjpclobaa
/- THE CELL 'sum', in the pinned program and in every row, IS THE sha256 OF THE DUMP (.gsa) THAT YtlllflmjpclobaaProg.lean LOADS. Nothing in Lean hashes anything: it is a label: what it is worth is what the hold of that sum in a sandbox is worth. -/
noncomputable def Try.pinned : Pinned := { name := "ytlllflmjpclobaa", sum := "4d52847cc0380a377cd30db7b67dec82447625d48c8a85838a2c0349aee4dfaa", checked := Try.checked }
namespace Rows
def none {H : Type} : Left H := { results := [], args := [] }

/-- 'workflowlaw42.OutboxTasks': WHATEVER THE INPUT: true; the input reads as it did. -/
def outboxTasksSpec : ChangeSpec := { name := "outboxTasks", fn := fun _ => fun
  | [d1, d2, d3, d4] => { results := [.lit (.bool true)], args := [d1, d2, d3, d4] }
  | _ => none }
def outboxTasksRow : OpenClaim := { program := "ytlllflmjpclobaa", sum := "4d52847cc0380a377cd30db7b67dec82447625d48c8a85838a2c0349aee4dfaa", func := "workflow/workflowlaw42.OutboxTasks", spec := "outboxTasks", recurses := true, loops := true, apart := false }
def OutboxTasksSaid : Prop := outboxTasksRow.holds Try.pinned (OpenSpec.ofChange outboxTasksSpec)

/-- ITS FALSE NEIGHBOUR: 'it returns false'. Refute it at one input. -/
def outboxTasksWrong : ChangeSpec := { name := "outboxTasks", fn := fun _ => fun
  | [d1, d2, d3, d4] => { results := [.lit (.bool false)], args := [d1, d2, d3, d4] }
  | _ => none }
def OutboxTasksWrongFalsely : Prop := outboxTasksRow.holds Try.pinned (OpenSpec.ofChange outboxTasksWrong)

/-- 'workflowlaw42.OutboxOrder': WHATEVER THE INPUT: true; the input reads as it did. -/
def outboxOrderSpec : ChangeSpec := { name := "outboxOrder", fn := fun _ => fun
  | [d] => { results := [.lit (.bool true)], args := [d] }
  | _ => none }
def outboxOrderRow : OpenClaim := { program := "ytlllflmjpclobaa", sum := "4d52847cc0380a377cd30db7b67dec82447625d48c8a85838a2c0349aee4dfaa", func := "workflow/workflowlaw42.OutboxOrder", spec := "outboxOrder", unfollowed := true, recurses := true, apart := false }
def OutboxOrderSaid : Prop := outboxOrderRow.holds Try.pinned (OpenSpec.ofChange outboxOrderSpec)

/-- ITS FALSE NEIGHBOUR: 'it returns false'. Refute it at one input. -/
def outboxOrderWrong : ChangeSpec := { name := "outboxOrder", fn := fun _ => fun
  | [d] => { results := [.lit (.bool false)], args := [d] }
  | _ => none }
def OutboxOrderWrongFalsely : Prop := outboxOrderRow.holds Try.pinned (OpenSpec.ofChange outboxOrderWrong)

/-- 'workflowlaw42.OutboxKeeps': WHATEVER THE INPUT: true; the input reads as it did. -/
def outboxKeepsSpec : ChangeSpec := { name := "outboxKeeps", fn := fun _ => fun
  | [d1, d2, d3, d4, d5] => { results := [.lit (.bool true)], args := [d1, d2, d3, d4, d5] }
  | _ => none }
def outboxKeepsRow : OpenClaim := { program := "ytlllflmjpclobaa", sum := "4d52847cc0380a377cd30db7b67dec82447625d48c8a85838a2c0349aee4dfaa", func := "workflow/workflowlaw42.OutboxKeeps", spec := "outboxKeeps", unfollowed := true, recurses := true, loops := true, apart := false }
def OutboxKeepsSaid : Prop := outboxKeepsRow.holds Try.pinned (OpenSpec.ofChange outboxKeepsSpec)

/-- ITS FALSE NEIGHBOUR: 'it returns false'. Refute it at one input. -/
def outboxKeepsWrong : ChangeSpec := { name := "outboxKeeps", fn := fun _ => fun
  | [d1, d2, d3, d4, d5] => { results := [.lit (.bool false)], args := [d1, d2, d3, d4, d5] }
  | _ => none }
def OutboxKeepsWrongFalsely : Prop := outboxKeepsRow.holds Try.pinned (OpenSpec.ofChange outboxKeepsWrong)

/-- 'workflowlaw42.OutboxVoid': WHATEVER THE INPUT: true; the input reads as it did. -/
def outboxVoidSpec : ChangeSpec := { name := "outboxVoid", fn := fun _ => fun
  | [d1, d2, d3] => { results := [.lit (.bool true)], args := [d1, d2, d3] }
  | _ => none }
def outboxVoidRow : OpenClaim := { program := "ytlllflmjpclobaa", sum := "4d52847cc0380a377cd30db7b67dec82447625d48c8a85838a2c0349aee4dfaa", func := "workflow/workflowlaw42.OutboxVoid", spec := "outboxVoid", unfollowed := true, recurses := true, loops := true, apart := false }
def OutboxVoidSaid : Prop := outboxVoidRow.holds Try.pinned (OpenSpec.ofChange outboxVoidSpec)

/-- ITS FALSE NEIGHBOUR: 'it returns false'. Refute it at one input. -/
def outboxVoidWrong : ChangeSpec := { name := "outboxVoid", fn := fun _ => fun
  | [d1, d2, d3] => { results := [.lit (.bool false)], args := [d1, d2, d3] }
  | _ => none }
def OutboxVoidWrongFalsely : Prop := outboxVoidRow.holds Try.pinned (OpenSpec.ofChange outboxVoidWrong)

/-- 'workflowlaw42.OutboxFresh': WHATEVER THE INPUT: true; the input reads as it did. -/
def outboxFreshSpec : ChangeSpec := { name := "outboxFresh", fn := fun _ => fun
  | [d] => { results := [.lit (.bool true)], args := [d] }
  | _ => none }
def outboxFreshRow : OpenClaim := { program := "ytlllflmjpclobaa", sum := "4d52847cc0380a377cd30db7b67dec82447625d48c8a85838a2c0349aee4dfaa", func := "workflow/workflowlaw42.OutboxFresh", spec := "outboxFresh", unfollowed := true, recurses := true, loops := true, apart := false }
def OutboxFreshSaid : Prop := outboxFreshRow.holds Try.pinned (OpenSpec.ofChange outboxFreshSpec)

/-- ITS FALSE NEIGHBOUR: 'it returns false'. Refute it at one input. -/
def outboxFreshWrong : ChangeSpec := { name := "outboxFresh", fn := fun _ => fun
  | [d] => { results := [.lit (.bool false)], args := [d] }
  | _ => none }
def OutboxFreshWrongFalsely : Prop := outboxFreshRow.holds Try.pinned (OpenSpec.ofChange outboxFreshWrong)

/- THE SECOND FORM. 'bulk': how many values and letters a reading holds, each counted each time it is reached (what is shared counts as often as it is met; a slice's spare places count too). A statement '..UptoSaid' is the law's where the arguments, and the package variables that the reading takes, are together of bulk at most 1048576: NARROWER than '..Said'. Prove '..Said' where nothing that the law and all that it calls make is longer than what came in: it says more and counts as full. Else prove '..UptoSaid'. A law counts once. -/
mutual
def uptoBulk {H : Type} : DataW H → Nat
  | .lit (.string bytes) => bytes.length + 1
  | .lit _ => 1
  | .nil => 1
  | .ptr d => uptoBulk d + 1
  | .slice elems spare => uptoBulkAll elems + uptoBulkAll spare + 1
  | .agg parts => uptoBulkAll parts + 1
  | .iface _ d => uptoBulk d + 1
  | .map entries => uptoBulkEntries entries + 1
  | .held _ => 1
def uptoBulkAll {H : Type} : List (DataW H) → Nat
  | [] => 0
  | d :: r => uptoBulk d + uptoBulkAll r
def uptoBulkEntries {H : Type} : List (Lit × DataW H) → Nat
  | [] => 0
  | x :: r => uptoBulkEntry x + uptoBulkEntries r
def uptoBulkEntry {H : Type} : Lit × DataW H → Nat
  | (.string bytes, d) => bytes.length + uptoBulk d + 1
  | (_, d) => uptoBulk d + 1
 end
def uptoSmall : (H : Type) → List (DataW H) → Bool := fun _ ds => decide (uptoBulkAll ds ≤ 1048576)
def OpenSpec.upto (s : _root_.Go.ChangeSpec) : _root_.Go.OpenSpec := { _root_.Go.OpenSpec.ofChange s with cond := some uptoSmall }

/-- 'workflowlaw42.OutboxTasks', WHERE WHAT IT READS IS OF BULK AT MOST 1048576: true; the input reads as it did. -/
def outboxTasksUptoRow : OpenClaim := { program := "ytlllflmjpclobaa", sum := "4d52847cc0380a377cd30db7b67dec82447625d48c8a85838a2c0349aee4dfaa", func := "workflow/workflowlaw42.OutboxTasks", spec := "outboxTasks", recurses := true, loops := true, apart := false, narrowed := true }
def OutboxTasksUptoSaid : Prop := outboxTasksUptoRow.holds Try.pinned (OpenSpec.upto outboxTasksSpec)

/-- 'workflowlaw42.OutboxOrder', WHERE WHAT IT READS IS OF BULK AT MOST 1048576: true; the input reads as it did. -/
def outboxOrderUptoRow : OpenClaim := { program := "ytlllflmjpclobaa", sum := "4d52847cc0380a377cd30db7b67dec82447625d48c8a85838a2c0349aee4dfaa", func := "workflow/workflowlaw42.OutboxOrder", spec := "outboxOrder", unfollowed := true, recurses := true, apart := false, narrowed := true }
def OutboxOrderUptoSaid : Prop := outboxOrderUptoRow.holds Try.pinned (OpenSpec.upto outboxOrderSpec)

/-- 'workflowlaw42.OutboxKeeps', WHERE WHAT IT READS IS OF BULK AT MOST 1048576: true; the input reads as it did. -/
def outboxKeepsUptoRow : OpenClaim := { program := "ytlllflmjpclobaa", sum := "4d52847cc0380a377cd30db7b67dec82447625d48c8a85838a2c0349aee4dfaa", func := "workflow/workflowlaw42.OutboxKeeps", spec := "outboxKeeps", unfollowed := true, recurses := true, loops := true, apart := false, narrowed := true }
def OutboxKeepsUptoSaid : Prop := outboxKeepsUptoRow.holds Try.pinned (OpenSpec.upto outboxKeepsSpec)

/-- 'workflowlaw42.OutboxVoid', WHERE WHAT IT READS IS OF BULK AT MOST 1048576: true; the input reads as it did. -/
def outboxVoidUptoRow : OpenClaim := { program := "ytlllflmjpclobaa", sum := "4d52847cc0380a377cd30db7b67dec82447625d48c8a85838a2c0349aee4dfaa", func := "workflow/workflowlaw42.OutboxVoid", spec := "outboxVoid", unfollowed := true, recurses := true, loops := true, apart := false, narrowed := true }
def OutboxVoidUptoSaid : Prop := outboxVoidUptoRow.holds Try.pinned (OpenSpec.upto outboxVoidSpec)

/-- 'workflowlaw42.OutboxFresh', WHERE WHAT IT READS IS OF BULK AT MOST 1048576: true; the input reads as it did. -/
def outboxFreshUptoRow : OpenClaim := { program := "ytlllflmjpclobaa", sum := "4d52847cc0380a377cd30db7b67dec82447625d48c8a85838a2c0349aee4dfaa", func := "workflow/workflowlaw42.OutboxFresh", spec := "outboxFresh", unfollowed := true, recurses := true, loops := true, apart := false, narrowed := true }
def OutboxFreshUptoSaid : Prop := outboxFreshUptoRow.holds Try.pinned (OpenSpec.upto outboxFreshSpec)

end Rows
end Go.Proofs.Ytlllflmjpclobaa
