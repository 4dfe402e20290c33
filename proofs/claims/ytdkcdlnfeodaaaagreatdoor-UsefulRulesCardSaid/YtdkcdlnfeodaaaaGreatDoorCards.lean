/-
  DERIVED. GIVEN WITH THE SEED: THE CARDS: each row of YtdkcdlnfeodaaaaGreatDoorRows.lean that lists a variable, with what it lists TIED to the program's text (the seventh form; the later family's looks); each row that meets fmt, with fmt's text TOLD by the authors' own Lean function (tested against real Go, not proved from fmt's source: count such statements apart). THE CARD IS WHAT COUNTS. Prove the row's statement (the work); the ties are given (YtdkcdlnfeodaaaaGreatDoorTie.lean); close each card by the builder's one call (the guide's Derived/Test/ToyasCard.lean, 'card_holds'). Laid BY PROGRAM, IN A SANDBOX (cutbox-door.mjs). By AI agents, Wed Nov 11 2026. No macro, syntax, notation, axiom, sorry.
-/
import Derived.Test.YtdkcdlnfeodaaaaGreatDoorRows
import GoSem.ClaimSeven
namespace Go.Proofs.YtdkcdlnfeodaaaaGreatDoor
namespace Rows

/-- THE TIED CARD OF 'souffleurlaw17.UsefulRules'. -/
def usefulRulesCard : Claim7 := { stood := { row := usefulRulesRow, standIns := [], harness := (true, "32f7528da065070f008ebf890a3bbb37ef6b53503a88d639bc554603bffb0775"), looks := false }, kinds := [], alts := [], laidByText := true, laidKinds := [.data, .pinned], laidTests := true, laidLooks := .later }
def UsefulRulesCardSaid : Prop := Claim7.holds Tryz.pinned (.plain (OpenSpec.ofChange usefulRulesSpec)) usefulRulesCard

/-- THE TIED CARD OF 'souffleurlaw17.UsefulTrims'. -/
def usefulTrimsCard : Claim7 := { stood := { row := usefulTrimsRow, standIns := [], harness := (true, "32f7528da065070f008ebf890a3bbb37ef6b53503a88d639bc554603bffb0775"), looks := false }, kinds := [], alts := [], laidByText := true, laidKinds := [.data, .pinned], laidTests := true, laidLooks := .later }
def UsefulTrimsCardSaid : Prop := Claim7.holds Tryz.pinned (.plain (OpenSpec.ofChange usefulTrimsSpec)) usefulTrimsCard

/-- THE TIED CARD OF 'souffleurlaw17.UsefulComes'. -/
def usefulComesCard : Claim7 := { stood := { row := usefulComesRow, standIns := [], harness := (true, "32f7528da065070f008ebf890a3bbb37ef6b53503a88d639bc554603bffb0775"), looks := false }, kinds := [], alts := [], laidByText := true, laidKinds := [.data, .pinned], laidTests := true, laidLooks := .later }
def UsefulComesCardSaid : Prop := Claim7.holds Tryz.pinned (.plain (OpenSpec.ofChange usefulComesSpec)) usefulComesCard

/-- THE TIED CARD OF 'souffleurlaw18.LeftNone'. -/
def leftNoneCard : Claim7 := { stood := { row := leftNoneRow, standIns := [], harness := (true, "32f7528da065070f008ebf890a3bbb37ef6b53503a88d639bc554603bffb0775"), looks := false }, kinds := [], alts := [], laidByText := true, laidKinds := [.data, .pinned], laidTests := true, laidLooks := .later }
def LeftNoneCardSaid : Prop := Claim7.holds Tryz.pinned (.plain (OpenSpec.ofChange leftNoneSpec)) leftNoneCard

/-- THE TIED CARD OF 'souffleurlaw19.FollowRules'. -/
def followRulesCard : Claim7 := { stood := { row := followRulesRow, standIns := [], harness := (true, "32f7528da065070f008ebf890a3bbb37ef6b53503a88d639bc554603bffb0775"), looks := false }, kinds := [], alts := [], laidByText := true, laidKinds := [.data, .pinned], laidTests := true, laidLooks := .later }
def FollowRulesCardSaid : Prop := Claim7.holds Tryz.pinned (.plain (OpenSpec.ofChange followRulesSpec)) followRulesCard

/-- THE SECOND FORM's CARD OF 'souffleurlaw17.UsefulRules'. -/
def usefulRulesUptoCard : Claim7 := { stood := { row := usefulRulesUptoRow, standIns := [], harness := (true, "32f7528da065070f008ebf890a3bbb37ef6b53503a88d639bc554603bffb0775"), looks := false }, kinds := [], alts := [], laidByText := true, laidKinds := [.data, .pinned], laidTests := true, laidLooks := .later }
def UsefulRulesUptoCardSaid : Prop := Claim7.holds Tryz.pinned (.plain (OpenSpec.upto usefulRulesSpec)) usefulRulesUptoCard

/-- THE SECOND FORM's CARD OF 'souffleurlaw17.UsefulTrims'. -/
def usefulTrimsUptoCard : Claim7 := { stood := { row := usefulTrimsUptoRow, standIns := [], harness := (true, "32f7528da065070f008ebf890a3bbb37ef6b53503a88d639bc554603bffb0775"), looks := false }, kinds := [], alts := [], laidByText := true, laidKinds := [.data, .pinned], laidTests := true, laidLooks := .later }
def UsefulTrimsUptoCardSaid : Prop := Claim7.holds Tryz.pinned (.plain (OpenSpec.upto usefulTrimsSpec)) usefulTrimsUptoCard

/-- THE SECOND FORM's CARD OF 'souffleurlaw17.UsefulComes'. -/
def usefulComesUptoCard : Claim7 := { stood := { row := usefulComesUptoRow, standIns := [], harness := (true, "32f7528da065070f008ebf890a3bbb37ef6b53503a88d639bc554603bffb0775"), looks := false }, kinds := [], alts := [], laidByText := true, laidKinds := [.data, .pinned], laidTests := true, laidLooks := .later }
def UsefulComesUptoCardSaid : Prop := Claim7.holds Tryz.pinned (.plain (OpenSpec.upto usefulComesSpec)) usefulComesUptoCard

/-- THE SECOND FORM's CARD OF 'souffleurlaw18.LeftNone'. -/
def leftNoneUptoCard : Claim7 := { stood := { row := leftNoneUptoRow, standIns := [], harness := (true, "32f7528da065070f008ebf890a3bbb37ef6b53503a88d639bc554603bffb0775"), looks := false }, kinds := [], alts := [], laidByText := true, laidKinds := [.data, .pinned], laidTests := true, laidLooks := .later }
def LeftNoneUptoCardSaid : Prop := Claim7.holds Tryz.pinned (.plain (OpenSpec.upto leftNoneSpec)) leftNoneUptoCard

/-- THE SECOND FORM's CARD OF 'souffleurlaw19.FollowRules'. -/
def followRulesUptoCard : Claim7 := { stood := { row := followRulesUptoRow, standIns := [], harness := (true, "32f7528da065070f008ebf890a3bbb37ef6b53503a88d639bc554603bffb0775"), looks := false }, kinds := [], alts := [], laidByText := true, laidKinds := [.data, .pinned], laidTests := true, laidLooks := .later }
def FollowRulesUptoCardSaid : Prop := Claim7.holds Tryz.pinned (.plain (OpenSpec.upto followRulesSpec)) followRulesUptoCard
end Rows
end Go.Proofs.YtdkcdlnfeodaaaaGreatDoor
