import Derived.Test.YtlllflmjpclobaaV21
set_option linter.unusedVariables false
set_option linter.unusedSimpArgs false
set_option linter.unusedVariables false
set_option linter.unusedSimpArgs false
set_option maxRecDepth 100000
namespace Go.Proofs.T
open Go.Ev
theorem f39_ok {H : Heap} {cs d : List AV} {k : Int} (h : EvR H cs k d) (hF : Free H) (K : AV → Heap → Prop) (hK : ∀ b H', (b = true → EvFit k d) → Up H H' → Free H' → K (.bool b) H') : WF Try.prog 39 [.agg cs] H K := by
  refine f39_head h hF K hK (fun env H1 a hfit h1 h35 hb e1 hU1 hF1 => ?_)
  obtain ⟨id, tm, sq, rf, nn, cd, nm, ky, o, rfl, hnm, hky, ⟨n1, hd⟩, ho⟩ := h
  obtain ⟨p0, p1, p2, p3, p4, p5, p6, p7, p8, p9, rfl⟩ := ten ho.len
  have hdd := hd
  cases n1 with
  | zero => exact hd.elim
  | succ n1 =>
  obtain ⟨dk, dx, dt, dv, dw, L, M, rfl, hv, hvn, hvc, hw, hwn, hwc⟩ := hd
  exact f39t dk dx dt dv dw ⟨h1, h35⟩ hky hF1 (hdd.up hU1) hb env e1 K (fun b H' hU' hF' => hK b H' (fun _ => hfit) (hU1.trans hU') hF')
end Go.Proofs.T
