/- The law ResumeFits, its card: for every call that the row lets in, workflowlaw29.ResumeFits returns true and its arguments read as before; the five listed package variables are tied to the program's text. Conditions: those of the given row and card, nothing else. -/
import Derived.Test.YtjjmdbhgmecpjaaGreatDoorR10
import Derived.Test.YtjjmdbhgmecpjaaGreatDoorR11
import Derived.Test.YtjjmdbhgmecpjaaGreatDoorRows
import Derived.LaidByTextLater
import Derived.SevenTiedAt
import Derived.Test.YtjjmdbhgmecpjaaGreatDoorTieB
import Derived.Test.YtjjmdbhgmecpjaaGreatDoorCards
set_option linter.unusedSimpArgs false
set_option linter.unusedVariables false
namespace Go.Proofs.YtjjmdbhgmecpjaaGreatDoor.resumeFits
open Go
theorem fnm : Tryz.pinned.checked.prog.funcNamed Rows.resumeFitsRow.func = some 3 := by kernel_rfl
theorem inst : Tryz.f3.isInstance Tryz.pinned.checked.prog Rows.resumeFitsRow.origin Rows.resumeFitsRow.targs := of_decide_eq_true (by kernel_rfl)
theorem over : Rows.resumeFitsRow.holds Tryz.pinned (OpenSpec.ofChange Rows.resumeFitsSpec) :=
  OpenClaim.holds_of_wide 3 Tryz.f3 rfl rfl rfl rfl rfl rfl rfl ⟨rfl, rfl, rfl, rfl, rfl⟩ rfl rfl rfl rfl rfl fnm Tryz.func3 closed
    inst (by unfold Func.isWrapper; first | (rw [if_pos (by decide +kernel)]; kernel_rfl) | (rw [if_neg (by decide +kernel)]; exact ⟨rfl, rfl⟩))
    (fun os started H enc _ => lifted os started H enc)
theorem proved : Rows.ResumeFitsSaid := over
end Go.Proofs.YtjjmdbhgmecpjaaGreatDoor.resumeFits
namespace Go.Proofs.YtjjmdbhgmecpjaaGreatDoor
open Go
theorem noGo : Tryz.pinned.checked.prog.funcs.toList.any Func.goes = false := by kernel_rfl
theorem goes_false {P : Program} (h : P.funcs.toList.any Func.goes = false) (f : FuncId) : P.goes f = false := by
  have h' : P.funcs.any Func.goes = false := by rw [← Array.any_toList]; exact h
  unfold Program.goes
  rw [h', Bool.and_false, Bool.or_false, List.any_eq_false]
  intro g _
  cases hg : P.funcs[g]? with
  | none => simp
  | some fn =>
    have := List.any_eq_false.1 h fn (Array.mem_toList_iff.2 (Array.mem_of_getElem? hg))
    simpa using this
theorem goesFrom_false {P : Program} (h : P.funcs.toList.any Func.goes = false) (s : String) : P.goesFrom s = false := by
  unfold Program.goesFrom
  cases P.funcNamed s with
  | none => rfl
  | some f => exact goes_false h f
theorem resumeFits_goes : false = Rows.resumeFitsRow.goesBy Tryz.pinned.checked.prog := by
  unfold OpenClaim.goesBy Program.goesAt
  rw [goesFrom_false noGo]
  rfl
end Go.Proofs.YtjjmdbhgmecpjaaGreatDoor
namespace Go.Proofs.YtjjmdbhgmecpjaaGreatDoor
open Go
theorem rf_wf : Rows.resumeFitsRow.wfByText (OpenSpec.ofChange Rows.resumeFitsSpec) = true := by kernel_rfl
theorem rf_main : Tryz.pinned.checked.prog.mainIs = some (true, "6ee867d27db9bfb31d6271d5862bb930c6058a7df2c2dfcd1d789eaac1888a65".toList) := by kernel_rfl
theorem rf_looks : true = Tryz.pinned.checked.prog.looks [] := by kernel_rfl
theorem rf_params : ([22, 3, 4].all fun u => !Tryz.pinned.checked.prog.wantsStandIn u) = true := by kernel_rfl
theorem resumeFits_holds : Rows.ResumeFitsCardSaid :=
  Claim7.holds_tied_plain_at .later [] [.sentinel, .sentinel, .data, .data, .data] true (true, "6ee867d27db9bfb31d6271d5862bb930c6058a7df2c2dfcd1d789eaac1888a65") true
    resumeFits.proved (fun _ h => by cases h) rf_wf (fun _ h => by cases h) resumeFits_row_tie rfl ⟨rfl, rfl⟩ rf_main rfl
    (fun f fn hf hfn => by
      obtain rfl : f = 3 := (Option.some.inj (resumeFits.fnm.symm.trans hf)).symm
      obtain rfl : fn = Tryz.f3 := (Option.some.inj (Tryz.func3.symm.trans hfn)).symm
      exact ⟨rf_looks, fun j t ht => by
        rw [Tryz.params3] at ht
        have hm : t ∈ [22, 3, 4] := by simpa using Array.mem_of_getElem? ht
        simpa using List.all_eq_true.1 rf_params t hm⟩)
    resumeFits_goes
end Go.Proofs.YtjjmdbhgmecpjaaGreatDoor
