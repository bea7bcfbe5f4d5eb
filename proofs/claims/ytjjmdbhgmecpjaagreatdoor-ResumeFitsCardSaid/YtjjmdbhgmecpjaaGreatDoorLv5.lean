import Derived.Test.YtjjmdbhgmecpjaaGreatDoorLvT
import Derived.Test.YtjjmdbhgmecpjaaGreatDoorLv1
import Derived.Test.YtjjmdbhgmecpjaaGreatDoorLv2
import Derived.Test.YtjjmdbhgmecpjaaGreatDoorLv3
import Derived.Test.YtjjmdbhgmecpjaaGreatDoorLv4
set_option linter.unusedSimpArgs false
set_option linter.unusedVariables false
set_option maxRecDepth 1000000
namespace Go.Proofs.T
open Go Go.Ev
theorem lvRun5 : lastOk Tryz.prog lvFn.results.toList lvR4 10000 (kCs Tryz.prog (kF4 Tryz.prog (tab4 lvTab) 200) (tab4 lvTab 5) 128 (drop4 lvCode 8) (mkE lvE4) (mkK 4906 lvR4)) = true := by kernel_rfl
end Go.Proofs.T
set_option linter.unusedVariables false
set_option maxRecDepth 1000000
namespace Go.Proofs.T
open Go Go.Ev
theorem lv_evf : ∃ H1, EvF Tryz.prog 5 [] ⟨fun _ => none, 0⟩ (.bool true) H1 ∧ ∀ b, 10000 ≤ b → H1.blk b = none := by
  obtain ⟨G1, e1, a1⟩ := piece_ok lvTab_ok (by decide) (chk_take lvChk 0 2) (by kernel_rfl) lvRun1 at_start
  obtain ⟨G2, e2, a2⟩ := piece_ok lvTab_ok (by decide) (chk_take lvChk 2 2) (by kernel_rfl) lvRun2 a1
  obtain ⟨G3, e3, a3⟩ := piece_ok lvTab_ok (by decide) (chk_take lvChk 4 3) (by kernel_rfl) lvRun3 a2
  obtain ⟨G4, e4, a4⟩ := piece_ok lvTab_ok (by decide) (chk_take lvChk 7 1) (by kernel_rfl) lvRun4 a3
  obtain ⟨G, ex, env, e, hx, hr, hM⟩ := last_ok lvTab_ok (by decide) (chk_drop lvChk 8) (by kernel_rfl) lvRun5 a4
  have h := e1.join (k := 2) (e2.join (k := 2) (e3.join (k := 3) (e4.join (k := 1) (e))))
  exact ⟨G, evf_of (fn := lvFn) (c := lvBody) (by kernel_rfl) (by kernel_rfl) (by kernel_rfl) rfl h hx hr, hM⟩
theorem lv_ok {G : Heap} (hG : Free G) (K : AV → Heap → Prop) (hK : ∀ G1, Up G G1 → K (.bool true) G1) : WF Tryz.prog 5 [] G K := by
  obtain ⟨H1, h, hM⟩ := lv_evf
  exact (closed_of (by decide) h hM hG).mono fun r G1 ⟨h1, h2⟩ => by rw [h1]; exact hK G1 h2
end Go.Proofs.T
