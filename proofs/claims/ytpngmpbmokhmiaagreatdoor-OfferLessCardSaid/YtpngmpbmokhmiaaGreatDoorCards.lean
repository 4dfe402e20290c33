/-
  DERIVED. GIVEN WITH THE SEED: THE CARDS: each row of YtpngmpbmokhmiaaGreatDoorRows.lean that lists a variable, with what it lists TIED to the program's text (the seventh form; the later family's looks); each row that meets fmt, with fmt's text TOLD by the authors' own Lean function (tested against real Go, not proved from fmt's source: count such statements apart). THE CARD IS WHAT COUNTS. Prove the row's statement (the work); the ties are given (YtpngmpbmokhmiaaGreatDoorTie.lean); close each card by the builder's one call (the guide's Derived/Test/ToyasCard.lean, 'card_holds'). Laid BY PROGRAM, IN A SANDBOX (cutbox-door.mjs). By AI agents, Wed Nov 11 2026. No macro, syntax, notation, axiom, sorry.
-/
import Derived.Test.YtpngmpbmokhmiaaGreatDoorRows
import GoSem.ClaimSeven
namespace Go.Proofs.YtpngmpbmokhmiaaGreatDoor
namespace Rows

/-- THE TIED CARD OF 'souffleurlaw23.ViableAgain'. -/
def viableAgainCard : Claim7 := { stood := { row := viableAgainRow, standIns := [], harness := (true, "c7ba5974f1e424090d746d4cc289330a9863f6ddbae9006ee732232eac0b4017"), looks := false }, kinds := [], alts := [], laidByText := true, laidKinds := [.data, .pinned], laidTests := true, laidLooks := .later }
def ViableAgainCardSaid : Prop := Claim7.holds Tryz.pinned (.plain (OpenSpec.ofChange viableAgainSpec)) viableAgainCard

/-- THE TIED CARD OF 'souffleurlaw23.ViableGrows'. -/
def viableGrowsCard : Claim7 := { stood := { row := viableGrowsRow, standIns := [], harness := (true, "c7ba5974f1e424090d746d4cc289330a9863f6ddbae9006ee732232eac0b4017"), looks := false }, kinds := [], alts := [], laidByText := true, laidKinds := [.data, .pinned], laidTests := true, laidLooks := .later }
def ViableGrowsCardSaid : Prop := Claim7.holds Tryz.pinned (.plain (OpenSpec.ofChange viableGrowsSpec)) viableGrowsCard

/-- THE TIED CARD OF 'souffleurlaw22.SimHolds'. -/
def simHoldsCard : Claim7 := { stood := { row := simHoldsRow, standIns := [], harness := (true, "c7ba5974f1e424090d746d4cc289330a9863f6ddbae9006ee732232eac0b4017"), looks := false }, kinds := [], alts := [], laidByText := true, laidKinds := [.data, .pinned], laidTests := true, laidLooks := .later }
def SimHoldsCardSaid : Prop := Claim7.holds Tryz.pinned (.plain (OpenSpec.ofChange simHoldsSpec)) simHoldsCard

/-- THE TIED CARD OF 'souffleurlaw28.PredictSame'. -/
def predictSameCard : Claim7 := { stood := { row := predictSameRow, standIns := [], harness := (true, "c7ba5974f1e424090d746d4cc289330a9863f6ddbae9006ee732232eac0b4017"), looks := false }, kinds := [], alts := [], laidByText := true, laidKinds := [.data, .pinned], laidTests := true, laidLooks := .later }
def PredictSameCardSaid : Prop := Claim7.holds Tryz.pinned (.plain (OpenSpec.ofChange predictSameSpec)) predictSameCard

/-- THE TIED CARD OF 'souffleurlaw24.OfferLess'. -/
def offerLessCard : Claim7 := { stood := { row := offerLessRow, standIns := [], harness := (true, "c7ba5974f1e424090d746d4cc289330a9863f6ddbae9006ee732232eac0b4017"), looks := false }, kinds := [], alts := [], laidByText := true, laidKinds := [.data, .pinned], laidTests := true, laidLooks := .later }
def OfferLessCardSaid : Prop := Claim7.holds Tryz.pinned (.plain (OpenSpec.ofChange offerLessSpec)) offerLessCard

/-- THE TIED CARD OF 'souffleurlaw24.OfferGrows'. -/
def offerGrowsCard : Claim7 := { stood := { row := offerGrowsRow, standIns := [], harness := (true, "c7ba5974f1e424090d746d4cc289330a9863f6ddbae9006ee732232eac0b4017"), looks := false }, kinds := [], alts := [], laidByText := true, laidKinds := [.data, .pinned], laidTests := true, laidLooks := .later }
def OfferGrowsCardSaid : Prop := Claim7.holds Tryz.pinned (.plain (OpenSpec.ofChange offerGrowsSpec)) offerGrowsCard

/-- THE SECOND FORM's CARD OF 'souffleurlaw23.ViableAgain'. -/
def viableAgainUptoCard : Claim7 := { stood := { row := viableAgainUptoRow, standIns := [], harness := (true, "c7ba5974f1e424090d746d4cc289330a9863f6ddbae9006ee732232eac0b4017"), looks := false }, kinds := [], alts := [], laidByText := true, laidKinds := [.data, .pinned], laidTests := true, laidLooks := .later }
def ViableAgainUptoCardSaid : Prop := Claim7.holds Tryz.pinned (.plain (OpenSpec.upto viableAgainSpec)) viableAgainUptoCard

/-- THE SECOND FORM's CARD OF 'souffleurlaw23.ViableGrows'. -/
def viableGrowsUptoCard : Claim7 := { stood := { row := viableGrowsUptoRow, standIns := [], harness := (true, "c7ba5974f1e424090d746d4cc289330a9863f6ddbae9006ee732232eac0b4017"), looks := false }, kinds := [], alts := [], laidByText := true, laidKinds := [.data, .pinned], laidTests := true, laidLooks := .later }
def ViableGrowsUptoCardSaid : Prop := Claim7.holds Tryz.pinned (.plain (OpenSpec.upto viableGrowsSpec)) viableGrowsUptoCard

/-- THE SECOND FORM's CARD OF 'souffleurlaw22.SimHolds'. -/
def simHoldsUptoCard : Claim7 := { stood := { row := simHoldsUptoRow, standIns := [], harness := (true, "c7ba5974f1e424090d746d4cc289330a9863f6ddbae9006ee732232eac0b4017"), looks := false }, kinds := [], alts := [], laidByText := true, laidKinds := [.data, .pinned], laidTests := true, laidLooks := .later }
def SimHoldsUptoCardSaid : Prop := Claim7.holds Tryz.pinned (.plain (OpenSpec.upto simHoldsSpec)) simHoldsUptoCard

/-- THE SECOND FORM's CARD OF 'souffleurlaw28.PredictSame'. -/
def predictSameUptoCard : Claim7 := { stood := { row := predictSameUptoRow, standIns := [], harness := (true, "c7ba5974f1e424090d746d4cc289330a9863f6ddbae9006ee732232eac0b4017"), looks := false }, kinds := [], alts := [], laidByText := true, laidKinds := [.data, .pinned], laidTests := true, laidLooks := .later }
def PredictSameUptoCardSaid : Prop := Claim7.holds Tryz.pinned (.plain (OpenSpec.upto predictSameSpec)) predictSameUptoCard

/-- THE SECOND FORM's CARD OF 'souffleurlaw24.OfferLess'. -/
def offerLessUptoCard : Claim7 := { stood := { row := offerLessUptoRow, standIns := [], harness := (true, "c7ba5974f1e424090d746d4cc289330a9863f6ddbae9006ee732232eac0b4017"), looks := false }, kinds := [], alts := [], laidByText := true, laidKinds := [.data, .pinned], laidTests := true, laidLooks := .later }
def OfferLessUptoCardSaid : Prop := Claim7.holds Tryz.pinned (.plain (OpenSpec.upto offerLessSpec)) offerLessUptoCard

/-- THE SECOND FORM's CARD OF 'souffleurlaw24.OfferGrows'. -/
def offerGrowsUptoCard : Claim7 := { stood := { row := offerGrowsUptoRow, standIns := [], harness := (true, "c7ba5974f1e424090d746d4cc289330a9863f6ddbae9006ee732232eac0b4017"), looks := false }, kinds := [], alts := [], laidByText := true, laidKinds := [.data, .pinned], laidTests := true, laidLooks := .later }
def OfferGrowsUptoCardSaid : Prop := Claim7.holds Tryz.pinned (.plain (OpenSpec.upto offerGrowsSpec)) offerGrowsUptoCard
end Rows
end Go.Proofs.YtpngmpbmokhmiaaGreatDoor
