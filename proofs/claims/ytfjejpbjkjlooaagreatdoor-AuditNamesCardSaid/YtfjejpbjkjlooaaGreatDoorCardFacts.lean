/-
  The closed facts of the card, each by the kernel. No condition.
-/
import Derived.Test.YtfjejpbjkjlooaaGreatDoorRows
import Derived.SevenTiedAt
import Derived.ProofKit
namespace Go.Proofs.YtfjejpbjkjlooaaGreatDoor
open Go.ChangeShapes Go.WideShapes Go.ChangeAt Go.RowKit

theorem card_wf : Rows.auditNamesRow.wfByText (OpenSpec.ofChange Rows.auditNamesSpec) = true := by kernel_rfl
theorem card_main : Tryz.pinned.checked.prog.mainIs = some (true, "204e6565c6a90fbad43341da7745bc828940d8358679eb392a0e8120b46e30e8".toList) := by kernel_rfl
theorem card_named : Tryz.prog.funcNamed "souffleur/souffleurlaw37.AuditNames" = some 3 := by kernel_rfl
theorem card_looks : false = Tryz.pinned.checked.prog.looks [] := by kernel_rfl
theorem card_stand : ([3, 3].all fun u => !Tryz.prog.wantsStandIn u) = true := by kernel_rfl
theorem card_goes : false = Rows.auditNamesRow.goesBy Tryz.pinned.checked.prog := by kernel_rfl
end Go.Proofs.YtfjejpbjkjlooaaGreatDoor
