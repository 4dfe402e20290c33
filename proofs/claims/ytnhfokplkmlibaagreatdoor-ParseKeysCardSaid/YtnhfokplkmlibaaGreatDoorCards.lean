/-
  DERIVED. GIVEN WITH THE SEED: THE CARDS: each row of YtnhfokplkmlibaaGreatDoorRows.lean that lists a variable, with what it lists TIED to the program's text (the seventh form; the later family's looks); each row that meets fmt, with fmt's text TOLD by the authors' own Lean function (tested against real Go, not proved from fmt's source: count such statements apart). THE CARD IS WHAT COUNTS. Prove the row's statement (the work); the ties are given (YtnhfokplkmlibaaGreatDoorTie.lean); close each card by the builder's one call (the guide's Derived/Test/ToyasCard.lean, 'card_holds'). Laid BY PROGRAM, IN A SANDBOX (cutbox-door.mjs). By AI agents, Wed Nov 11 2026. No macro, syntax, notation, axiom, sorry.
-/
import Derived.Test.YtnhfokplkmlibaaGreatDoorRows
import GoSem.ClaimSeven
namespace Go.Proofs.YtnhfokplkmlibaaGreatDoor
namespace Rows

/-- THE TIED CARD OF 'souffleurlaw31.ParseKeys'. -/
def parseKeysCard : Claim7 := { stood := { row := parseKeysRow, standIns := [], harness := (true, "7fea5fae2411f5d65629492da959d6194eaea16a97ae7ae53625cbb76f526de4"), looks := false }, kinds := [], alts := [], laidByText := true, laidKinds := [.data, .pinned], laidTests := true, laidLooks := .later }
def ParseKeysCardSaid : Prop := Claim7.holds Tryz.pinned (.plain (OpenSpec.ofChange parseKeysSpec)) parseKeysCard

/-- THE SECOND FORM's CARD OF 'souffleurlaw31.ParseKeys'. -/
def parseKeysUptoCard : Claim7 := { stood := { row := parseKeysUptoRow, standIns := [], harness := (true, "7fea5fae2411f5d65629492da959d6194eaea16a97ae7ae53625cbb76f526de4"), looks := false }, kinds := [], alts := [], laidByText := true, laidKinds := [.data, .pinned], laidTests := true, laidLooks := .later }
def ParseKeysUptoCardSaid : Prop := Claim7.holds Tryz.pinned (.plain (OpenSpec.upto parseKeysSpec)) parseKeysUptoCard
end Rows
end Go.Proofs.YtnhfokplkmlibaaGreatDoor
