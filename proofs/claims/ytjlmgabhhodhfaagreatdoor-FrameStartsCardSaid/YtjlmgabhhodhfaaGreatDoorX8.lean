import Derived.Test.YtjlmgabhhodhfaaGreatDoorX5
import Derived.Test.YtjlmgabhhodhfaaGreatDoorX6
import Derived.Test.YtjlmgabhhodhfaaGreatDoorX7G1
set_option linter.unusedVariables false
set_option linter.unusedSimpArgs false
set_option maxRecDepth 100000
namespace Go.Proofs.T
open Go.Ev
open Nat (reduceMul reducePow reduceSub reduceEqDiff reduceLT reduceAdd reduceLeDiff)
open UInt8 (reduceToNat)
theorem f73_ok {n : Nat} {cs : List AV} (h : VT n cs) (H : Heap) (hF : Free H) (K : AV → Heap → Prop) (hK : ∀ H', Up H H' → Free H' → K (.bool (rightV n cs)) H') : WF Tryz.prog 73 [.agg cs] H K := by
  refine WF_body Tryz.func73 (by kernel_rfl) rfl Tryz.ntmps73 (by rw [Tryz.results73]) (of_decide_eq_true (by kernel_rfl)) ?_
  simp (maxSteps:=999999) only [gx, implies_true, reduceMul, reducePow, reduceSub, Nat.reduceBEq, reduceToNat, reduceEqDiff, reduceLT, reduceCtorEq, reduceAdd, reduceLeDiff, hF.at, hF.hp, h.len, h.tk]
  generalize hH1 : HP H [Blk.row 34 5 [cs] 0 0] = H1
  have hb : H1.blk H.next = some (.row 34 5 [cs] 0 0) := by rw [← hH1, hp_blk0]; rfl
  have hF1 : Free H1 := hH1 ▸ hF.hpF _
  have hU1 : Up H H1 := hH1 ▸ hF.hpU _
  refine callStep (f141_ok h H1 hF1 _ fun H2 hU2 hF2 => ?_)
  unfold rightV at hK
  cases h0 : withinV n cs with
  | false =>
    simp only [h0, Bool.false_and] at hK
    simp (maxSteps:=999999) only [gx, implies_true, reduceMul, reducePow, reduceSub, Nat.reduceBEq, reduceToNat, reduceEqDiff, reduceLT, reduceCtorEq, reduceAdd, reduceLeDiff]
    exact hK _ (hU1.trans hU2) hF2
  | true =>
    simp only [h0, Bool.true_and] at hK
    simp (maxSteps:=999999) only [gx, implies_true, reduceMul, reducePow, reduceSub, Nat.reduceBEq, reduceToNat, reduceEqDiff, reduceLT, reduceCtorEq, reduceAdd, reduceLeDiff, hU2 _ _ hb, h.len, h.tk]
    refine callStep (f142_ok false n cs h H2 hF2 _ fun H3 hU3 hF3 => ?_)
    simp (maxSteps:=999999) only [gx, implies_true, reduceMul, reducePow, reduceSub, Nat.reduceBEq, reduceToNat, reduceEqDiff, reduceLT, reduceCtorEq, reduceAdd, reduceLeDiff]
    exact hK _ (hU1.trans (hU2.trans hU3)) hF3
theorem f76_ok {n : Nat} {cs : List AV} (h : VT n cs) (H : Heap) (hF : Free H) (K : AV → Heap → Prop) (hK : ∀ H', Up H H' → Free H' → K (.bool (rightV n cs)) H') : WF Tryz.prog 76 [.agg cs] H K := by
  refine WF_body Tryz.func76 (by kernel_rfl) rfl Tryz.ntmps76 (by rw [Tryz.results76]) (of_decide_eq_true (by kernel_rfl)) ?_
  simp (maxSteps:=999999) only [gx, implies_true, reduceMul, reducePow, reduceSub, Nat.reduceBEq, reduceToNat, reduceEqDiff, reduceLT, reduceCtorEq, reduceAdd, reduceLeDiff, hF.at, hF.hp, h.len, h.tk]
  generalize hH1 : HP H [Blk.row 34 5 [cs] 0 0] = H1
  have hb : H1.blk H.next = some (.row 34 5 [cs] 0 0) := by rw [← hH1, hp_blk0]; rfl
  have hF1 : Free H1 := hH1 ▸ hF.hpF _
  have hU1 : Up H H1 := hH1 ▸ hF.hpU _
  refine callStep (f25_ok n cs h H1 hF1 _ fun H2 hU2 hF2 => ?_)
  unfold rightV at hK
  rw [formed_future n cs h] at hK
  cases h0 : formedV true n cs with
  | false =>
    simp only [h0, Bool.false_and, Bool.and_false] at hK
    simp (maxSteps:=999999) only [gx, implies_true, reduceMul, reducePow, reduceSub, Nat.reduceBEq, reduceToNat, reduceEqDiff, reduceLT, reduceCtorEq, reduceAdd, reduceLeDiff]
    exact hK _ (hU1.trans hU2) hF2
  | true =>
    simp only [h0, Bool.true_and] at hK
    simp (maxSteps:=999999) only [gx, implies_true, reduceMul, reducePow, reduceSub, Nat.reduceBEq, reduceToNat, reduceEqDiff, reduceLT, reduceCtorEq, reduceAdd, reduceLeDiff, hU2 _ _ hb, h.len, h.tk]
    refine callStep (f145_ok h H2 hF2 _ fun H3 hU3 hF3 => ?_)
    cases h1 : withinV n cs with
    | false =>
      simp only [h1, Bool.false_and] at hK
      simp (maxSteps:=999999) only [gx, implies_true, reduceMul, reducePow, reduceSub, Nat.reduceBEq, reduceToNat, reduceEqDiff, reduceLT, reduceCtorEq, reduceAdd, reduceLeDiff]
      exact hK _ (hU1.trans (hU2.trans hU3)) hF3
    | true =>
      simp only [h1, Bool.true_and] at hK
      simp (maxSteps:=999999) only [gx, implies_true, reduceMul, reducePow, reduceSub, Nat.reduceBEq, reduceToNat, reduceEqDiff, reduceLT, reduceCtorEq, reduceAdd, reduceLeDiff, hU3 _ _ (hU2 _ _ hb), h.len, h.tk]
      refine callStep (f146_ok n cs h H3 hF3 _ fun H4 hU4 hF4 => ?_)
      simp (maxSteps:=999999) only [gx, implies_true, reduceMul, reducePow, reduceSub, Nat.reduceBEq, reduceToNat, reduceEqDiff, reduceLT, reduceCtorEq, reduceAdd, reduceLeDiff]
      exact hK _ (hU1.trans (hU2.trans (hU3.trans hU4))) hF4
end Go.Proofs.T
