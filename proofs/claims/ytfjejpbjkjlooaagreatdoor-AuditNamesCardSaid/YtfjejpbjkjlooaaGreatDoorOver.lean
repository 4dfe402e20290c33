/-
  The row of AuditNames, without its card. No condition beyond the row's own.
-/
import Derived.Test.YtfjejpbjkjlooaaGreatDoorMain
import Derived.Test.YtfjejpbjkjlooaaGreatDoorFacts
namespace Go.Proofs.YtfjejpbjkjlooaaGreatDoor
open Go.ChangeShapes Go.WideShapes Go.ChangeAt Go.RowKit

theorem named3 : Tryz.pinned.checked.prog.funcNamed Rows.auditNamesRow.func = some 3 := by kernel_rfl
theorem instance3 : Tryz.f3.isInstance Tryz.pinned.checked.prog Rows.auditNamesRow.origin Rows.auditNamesRow.targs := of_decide_eq_true (by kernel_rfl)
theorem wrapper3 : Tryz.f3.isWrapper Tryz.pinned.checked.prog Rows.auditNamesRow.wrapper Rows.auditNamesRow.mainSum := by
  unfold Func.isWrapper
  first | (rw [if_pos (by decide +kernel)]; kernel_rfl) | (rw [if_neg (by decide +kernel)]; exact ⟨rfl, rfl⟩)
theorem auditNames_holds : Rows.AuditNamesSaid :=
  OpenClaim.holds_of_wide 3 Tryz.f3 rfl rfl rfl rfl rfl rfl rfl ⟨rfl, rfl, rfl, rfl, rfl⟩ rfl rfl rfl rfl rfl named3 Tryz.func3 closed instance3 wrapper3 (fun os started H enc _ => lifted os started H enc)
end Go.Proofs.YtfjejpbjkjlooaaGreatDoor
