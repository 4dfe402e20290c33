/-
  DERIVED. GIVEN WITH THE SEED: THE CARDS: each row of YtnaekhjaflfbjaaGreatDoorRows.lean that lists a variable, with what it lists TIED to the program's text (the seventh form; the later family's looks); each row that meets fmt, with fmt's text TOLD by the authors' own Lean function (tested against real Go, not proved from fmt's source: count such statements apart). THE CARD IS WHAT COUNTS. Prove the row's statement (the work); the ties are given (YtnaekhjaflfbjaaGreatDoorTie.lean); close each card by the builder's one call (the guide's Derived/Test/ToyasCard.lean, 'card_holds'). Laid BY PROGRAM, IN A SANDBOX (cutbox-door.mjs). By AI agents, Wed Nov 11 2026. No macro, syntax, notation, axiom, sorry.
-/
import Derived.Test.YtnaekhjaflfbjaaGreatDoorRows
import GoSem.ClaimSeven
namespace Go.Proofs.YtnaekhjaflfbjaaGreatDoor
namespace Rows

/-- THE TIED CARD OF 'souffleurlaw34.SessionNobody'. -/
def sessionNobodyCard : Claim7 := { stood := { row := sessionNobodyRow, standIns := [], harness := (true, "7569d0652d7f0bae081ce1ddbfc6868a3c7969cac5a23be8c10c0117a339fa12"), looks := false }, kinds := [], alts := [], laidByText := true, laidKinds := [.data, .data, .data, .data, .pinned], laidTests := true, laidLooks := .later }
def SessionNobodyCardSaid : Prop := Claim7.holds Tryz.pinned (.plain (OpenSpec.ofChange sessionNobodySpec)) sessionNobodyCard

/-- THE SECOND FORM's CARD OF 'souffleurlaw34.SessionNobody'. -/
def sessionNobodyUptoCard : Claim7 := { stood := { row := sessionNobodyUptoRow, standIns := [], harness := (true, "7569d0652d7f0bae081ce1ddbfc6868a3c7969cac5a23be8c10c0117a339fa12"), looks := false }, kinds := [], alts := [], laidByText := true, laidKinds := [.data, .data, .data, .data, .pinned], laidTests := true, laidLooks := .later }
def SessionNobodyUptoCardSaid : Prop := Claim7.holds Tryz.pinned (.plain (OpenSpec.upto sessionNobodySpec)) sessionNobodyUptoCard
end Rows
end Go.Proofs.YtnaekhjaflfbjaaGreatDoor
