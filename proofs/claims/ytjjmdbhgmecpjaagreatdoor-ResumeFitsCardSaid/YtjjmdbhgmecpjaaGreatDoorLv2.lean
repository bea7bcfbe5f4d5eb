import Derived.Test.YtjjmdbhgmecpjaaGreatDoorLvT
set_option linter.unusedSimpArgs false
set_option linter.unusedVariables false
set_option maxRecDepth 1000000
namespace Go.Proofs.T
open Go Go.Ev
theorem lvRun2 : pieceOk lvR1 1842 lvR2 lvE2 (kCs Tryz.prog (kF4 Tryz.prog (tab4 lvTab) 200) (tab4 lvTab 5) 128 (take4 (drop4 lvCode 2) 2) (mkE lvE1) (mkK 704 lvR1)) = true := by kernel_rfl
end Go.Proofs.T
