/-
  DERIVED. GIVEN WITH THE SEED: THE CARDS: each row of YtfjejpbjkjlooaaGreatDoorRows.lean that lists a variable, with what it lists TIED to the program's text (the seventh form; the later family's looks); each row that meets fmt, with fmt's text TOLD by the authors' own Lean function (tested against real Go, not proved from fmt's source: count such statements apart). THE CARD IS WHAT COUNTS. Prove the row's statement (the work); the ties are given (YtfjejpbjkjlooaaGreatDoorTie.lean); close each card by the builder's one call (the guide's Derived/Test/ToyasCard.lean, 'card_holds'). Laid BY PROGRAM, IN A SANDBOX (cutbox-door.mjs). By AI agents, Wed Nov 11 2026. No macro, syntax, notation, axiom, sorry.
-/
import Derived.Test.YtfjejpbjkjlooaaGreatDoorRows
import GoSem.ClaimSeven
namespace Go.Proofs.YtfjejpbjkjlooaaGreatDoor
namespace Rows

/-- THE TIED CARD OF 'souffleurlaw37.AuditNames'. -/
def auditNamesCard : Claim7 := { stood := { row := auditNamesRow, standIns := [], harness := (true, "204e6565c6a90fbad43341da7745bc828940d8358679eb392a0e8120b46e30e8"), looks := false }, kinds := [], alts := [], laidByText := true, laidKinds := [.data, .data, .data, .data, .pinned], laidTests := true, laidLooks := .later }
def AuditNamesCardSaid : Prop := Claim7.holds Tryz.pinned (.plain (OpenSpec.ofChange auditNamesSpec)) auditNamesCard

/-- THE SECOND FORM's CARD OF 'souffleurlaw37.AuditNames'. -/
def auditNamesUptoCard : Claim7 := { stood := { row := auditNamesUptoRow, standIns := [], harness := (true, "204e6565c6a90fbad43341da7745bc828940d8358679eb392a0e8120b46e30e8"), looks := false }, kinds := [], alts := [], laidByText := true, laidKinds := [.data, .data, .data, .data, .pinned], laidTests := true, laidLooks := .later }
def AuditNamesUptoCardSaid : Prop := Claim7.holds Tryz.pinned (.plain (OpenSpec.upto auditNamesSpec)) auditNamesUptoCard
end Rows
end Go.Proofs.YtfjejpbjkjlooaaGreatDoor
