import Derived.Test.YtjjmdbhgmecpjaaGreatDoorLvT
set_option linter.unusedSimpArgs false
set_option linter.unusedVariables false
set_option maxRecDepth 1000000
namespace Go.Proofs.T
open Go Go.Ev
theorem lvRun4 : pieceOk lvR3 4906 lvR4 lvE4 (kCs Tryz.prog (kF4 Tryz.prog (tab4 lvTab) 200) (tab4 lvTab 5) 128 (take4 (drop4 lvCode 7) 1) (mkE lvE3) (mkK 2867 lvR3)) = true := by kernel_rfl
end Go.Proofs.T
