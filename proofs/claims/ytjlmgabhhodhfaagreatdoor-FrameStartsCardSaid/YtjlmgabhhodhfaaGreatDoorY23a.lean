import Derived.Test.YtjlmgabhhodhfaaGreatDoorEvUEvX
import Derived.Test.YtjlmgabhhodhfaaGreatDoorKn
import Derived.Test.YtjlmgabhhodhfaaGreatDoorRows
import Derived.WalkKit
import Derived.ProofKit
import Derived.OpenShut
import Derived.ShutString
import Derived.ChangeOld
import Derived.Below
import Derived.SizedLaws
import Derived.LaidMore
import Derived.Stop.Joined
import Derived.Lib.LaidTab
import Derived.MakeChecks
set_option linter.unusedSimpArgs false
set_option linter.unusedVariables false
namespace Go.Proofs.YtjlmgabhhodhfaaGreatDoor.frameStarts
open Go.ChangeShapes Go.WideShapes Go.ChangeAt Go.RowKit
open Go.Ev
def spaceZ : List Int := (List.range 256).map fun i => if i = 9 ∨ i = 10 ∨ i = 11 ∨ i = 12 ∨ i = 13 ∨ i = 32 then 1 else 0
set_option maxRecDepth 1000000 in
theorem spaceD : (Rows.laid_strings_asciiSpace : DataW Unit) = Lib.tabData .u8 spaceZ := by rfl
theorem repM_ints {C : Mem} {E : Emb} {k : IntKind} : ∀ (zs : List Int) (b co : Nat), (∀ j z, zs[j]? = some z → C b (co + j) = some (.int k z)) → RepM C E b co (zs.map fun z => AV.int k z)
  | [], b, co, _ => .nil b co
  | z :: zs, b, co, h => .cons b co _ _ _ (h 0 z rfl) (.int _ _) (repM_ints zs b (co + 1) fun j z' hj => by rw [show co + 1 + j = co + (j + 1) by omega]; exact h (j + 1) z' (by simpa using hj))
theorem spaceC : spaceCells = spaceZ.map fun z => AV.int .u8 z := by
  unfold spaceCells spaceZ
  rw [List.map_map]
  rfl
theorem glOk_of {W : World} (h : laidMetH Tryz.prog Rows.frameStartsRow.laid W) : GlOk (memOf W) := by
  have h1 : laidMet Tryz.prog Rows.frameStartsRow.laid W := by
    rw [MakeChecks.laidMetH_plain Tryz.prog Rows.frameStartsRow.laid W rfl] at h
    exact h
  have h2 : laidMet Tryz.prog (("strings.asciiSpace", Lib.tabData .u8 spaceZ) :: Rows.frameStartsRow.laid.tail) W := by
    rw [← spaceD]
    exact h1
  have h3 := Lib.tabIs_of_head (g := 1) (t := 392) (e := 5) (n := 256) (by kernel_rfl) (by kernel_rfl) (by kernel_rfl) (by kernel_rfl) (by kernel_rfl) (by kernel_rfl) h2
  intro E g
  unfold globAV
  by_cases hg : g = 1
  · subst hg
    rw [if_pos rfl, spaceC]
    refine .iptr _ 0 1 0 0 (repM_ints spaceZ 1 0 fun j z hj => ?_) rfl
    have hlt : j < spaceZ.length := (List.getElem?_eq_some_iff.1 hj).1
    have := h3.cell (g := 1) (by kernel_rfl) j hlt
    rw [List.getD_eq_getElem?_getD, hj] at this
    rw [Nat.zero_add]
    exact this
  · rw [if_neg hg]
    exact .undef _
end Go.Proofs.YtjlmgabhhodhfaaGreatDoor.frameStarts
