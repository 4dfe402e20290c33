/-
  The row of ParseKeys, without its card; the closed facts of the card. No condition beyond the row's own.
-/
import Derived.Test.YtnhfokplkmlibaaGreatDoorK5
set_option linter.unusedSimpArgs false
set_option linter.unusedVariables false
namespace Go.Proofs.YtnhfokplkmlibaaGreatDoor
open Go.ChangeShapes Go.WideShapes Go.ChangeAt Go.RowKit

theorem named3 : Tryz.pinned.checked.prog.funcNamed Rows.parseKeysRow.func = some 3 := by kernel_rfl
theorem instance3 : Tryz.f3.isInstance Tryz.pinned.checked.prog Rows.parseKeysRow.origin Rows.parseKeysRow.targs := of_decide_eq_true (by kernel_rfl)
theorem wrapper3 : Tryz.f3.isWrapper Tryz.pinned.checked.prog Rows.parseKeysRow.wrapper Rows.parseKeysRow.mainSum := by
  unfold Func.isWrapper
  first | (rw [if_pos (by decide +kernel)]; kernel_rfl) | (rw [if_neg (by decide +kernel)]; exact ⟨rfl, rfl⟩)
theorem parseKeys_holds : Rows.ParseKeysSaid :=
  OpenClaim.holds_of_wide 3 Tryz.f3 rfl rfl rfl rfl rfl rfl rfl ⟨rfl, rfl, rfl, rfl, rfl⟩ rfl rfl rfl rfl rfl named3 Tryz.func3 closed instance3 wrapper3 (fun os started H enc _ => lifted os started H enc)
theorem card_wf : Rows.parseKeysRow.wfByText (OpenSpec.ofChange Rows.parseKeysSpec) = true := by kernel_rfl
theorem card_main : Tryz.pinned.checked.prog.mainIs = some (true, "7fea5fae2411f5d65629492da959d6194eaea16a97ae7ae53625cbb76f526de4".toList) := by kernel_rfl
theorem card_named : Tryz.prog.funcNamed "souffleur/souffleurlaw31.ParseKeys" = some 3 := by kernel_rfl
theorem card_looks : false = Tryz.pinned.checked.prog.looks [] := by kernel_rfl
theorem card_stand : ([22, 24, 24].all fun u => !Tryz.prog.wantsStandIn u) = true := by kernel_rfl
theorem card_goes : false = Rows.parseKeysRow.goesBy Tryz.pinned.checked.prog := by kernel_rfl
end Go.Proofs.YtnhfokplkmlibaaGreatDoor
