import Derived.Test.YtjlmgabhhodhfaaGreatDoorRows
import Derived.LaidByTextLater
import Derived.SevenTiedAt
set_option linter.unusedSimpArgs false
set_option linter.unusedVariables false
namespace Go.Proofs.YtjlmgabhhodhfaaGreatDoor
open Go
theorem tieA7 : ∀ os tape,varsDone Tryz.prog 400 (varsId Tryz.prog) os tape = true:=fun _ _=>by kernel_rfl
end Go.Proofs.YtjlmgabhhodhfaaGreatDoor
