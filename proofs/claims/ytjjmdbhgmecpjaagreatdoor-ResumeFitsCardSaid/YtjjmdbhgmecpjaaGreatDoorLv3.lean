import Derived.Test.YtjjmdbhgmecpjaaGreatDoorLvT
set_option linter.unusedSimpArgs false
set_option linter.unusedVariables false
set_option maxRecDepth 1000000
namespace Go.Proofs.T
open Go Go.Ev
theorem lvRun3 : pieceOk lvR2 2867 lvR3 lvE3 (kCs Tryz.prog (kF4 Tryz.prog (tab4 lvTab) 200) (tab4 lvTab 5) 128 (take4 (drop4 lvCode 4) 3) (mkE lvE2) (mkK 1842 lvR2)) = true := by kernel_rfl
end Go.Proofs.T
