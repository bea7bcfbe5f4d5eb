import Derived.Test.YtjlmgabhhodhfaaGreatDoorWaTWa1
set_option linter.unusedSimpArgs false
set_option linter.unusedVariables false
set_option maxRecDepth 1000000
namespace Go.Proofs.T
open Go Go.Ev
theorem waRun2 : lastOk Tryz.prog waFn.results.toList waR1 1000 (kCs Tryz.prog (kF4 Tryz.prog (tab4 waTab) 60) (tab4 waTab 16) 50 (drop4 waCode 2) (mkE waE1) (mkK 551 waR1)) = true:=by kernel_rfl
theorem wa_evf : ∃ H1,EvF Tryz.prog 16 [] ⟨fun _=>none,0⟩ (.bool true) H1 ∧ ∀ b,1000 ≤ b → H1.blk b = none:=by
 obtain ⟨G1,e1,a1⟩:=piece_ok waTab_ok (by decide) (chk_take waChk 0 2) (by kernel_rfl) waRun1 at_start
 obtain ⟨G,ex,env,e,hx,hr,hM⟩:=last_ok waTab_ok (by decide) (chk_drop waChk 2) (by kernel_rfl) waRun2 a1
 have h:=e1.join (k:=2) (e)
 exact ⟨G,evf_of (fn:=waFn) (c:=waBody) (by kernel_rfl) (by kernel_rfl) (by kernel_rfl) rfl h hx hr,hM⟩
theorem wa_ok {G : Heap} (hG : Free G) (K : AV → Heap → Prop) (hK : ∀ G1,Up G G1 → K (.bool true) G1) : WF Tryz.prog 16 [] G K:=by
 obtain ⟨H1,h,hM⟩:=wa_evf
 exact (closed_of (by decide) h hM hG).mono fun r G1 ⟨h1,h2⟩=>by rw [h1];exact hK G1 h2
end Go.Proofs.T
