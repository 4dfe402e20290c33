/-
  NARROWER THAN 'FOR EVERY INPUT', by the rows' own cells (each row's printed sentence says how): ViableAgain: laid · ViableGrows: laid · SimHolds: laid · PredictSame: laid · OfferLess: laid · OfferGrows: laid.
  DERIVED. THE GIVEN ROWS OF THIS SEAT. 6 by the template 'for every input the law returns true; each argument reads behind the call as it read before'; 0 by the template 'total and deterministic' (their statements: YtpngmpbmokhmiaaGreatDoorTotals.lean).
  GIVEN WITH THE SEED: the statements are not yours to turn. If you find one false, say at which input.
  Laid BY PROGRAM, IN A SANDBOX (cutbox-rows.mjs): the forced cells as the released guide's own fill.sh prints them over the translation 78cdc9dfad417638… (all of the seat's roots in one cut). By AI agents, Wed Nov 11 2026. No macro, syntax, notation, axiom, sorry.
-/
import Derived.Test.YtpngmpbmokhmiaaGreatDoorChecked
import GoSem.PinnedTables
import GoSem.Claim
import GoSem.ClaimJoined
import GoSem.ClaimMapViews
import Derived.JoinedTies
import Derived.KernelRfl
namespace Go.Proofs.YtpngmpbmokhmiaaGreatDoor
/- THE CELL 'sum', in the pinned program and in every row, IS THE sha256 OF THE DUMP (.gsa) THAT YtpngmpbmokhmiaaGreatDoorProg.lean LOADS. Nothing in Lean hashes anything: it is a label: what it is worth is what the hold of that sum in a sandbox is worth. -/
noncomputable def Tryz.pinned : Pinned := { name := "ytpngmpbmokhmiaagreatdoor", sum := "78cdc9dfad417638a6b8a70757f8f001b61707495e0a70fc8d35214a26e686af", checked := Tryz.checked }
namespace Rows
def none {H : Type} : Left H := { results := [], args := [] }

/- WHAT THE LISTED PACKAGE-LEVEL VARIABLES READ AS WHEN THE CALL BEGINS. Each datum BY PROGRAM (the guide's laid-datum.mjs) off the statement by which the dump's own 'gosem.cut.vars' lays the variable. In a bare row this is a premise. The card (YtpngmpbmokhmiaaGreatDoorCards.lean) ties it to the program's text. -/
def laid_unicode_utf8_acceptRanges {H : Type} : DataW H := .agg [.agg [.lit (.int .u8 128), .lit (.int .u8 191)], .agg [.lit (.int .u8 160), .lit (.int .u8 191)], .agg [.lit (.int .u8 128), .lit (.int .u8 159)], .agg [.lit (.int .u8 144), .lit (.int .u8 191)], .agg [.lit (.int .u8 128), .lit (.int .u8 143)], .agg [.lit (.int .u8 0), .lit (.int .u8 0)], .agg [.lit (.int .u8 0), .lit (.int .u8 0)], .agg [.lit (.int .u8 0), .lit (.int .u8 0)], .agg [.lit (.int .u8 0), .lit (.int .u8 0)], .agg [.lit (.int .u8 0), .lit (.int .u8 0)], .agg [.lit (.int .u8 0), .lit (.int .u8 0)], .agg [.lit (.int .u8 0), .lit (.int .u8 0)], .agg [.lit (.int .u8 0), .lit (.int .u8 0)], .agg [.lit (.int .u8 0), .lit (.int .u8 0)], .agg [.lit (.int .u8 0), .lit (.int .u8 0)], .agg [.lit (.int .u8 0), .lit (.int .u8 0)]]
/-- One of Go's own tables, pinned by name: the form's constant. -/
def laid_unicode_utf8_first : DataW Unit := Go.Pinned.utf8First

/-- 'souffleurlaw23.ViableAgain': WHATEVER THE INPUT: true; the input reads as it did. -/
def viableAgainSpec : ChangeSpec := { name := "viableAgain", fn := fun _ => fun
  | [d1, d2] => { results := [.lit (.bool true)], args := [d1, d2] }
  | _ => none }
def viableAgainRow : OpenClaim := { program := "ytpngmpbmokhmiaagreatdoor", sum := "78cdc9dfad417638a6b8a70757f8f001b61707495e0a70fc8d35214a26e686af", func := "souffleur/souffleurlaw23.ViableAgain", spec := "viableAgain", inPlace := ["internal/bytealg.IndexByteString", "internal/abi.NoEscape"], unfollowed := true, recurses := true, named := ["unicode/utf8.first", "unicode/utf8.acceptRanges"], plainKeys := false, apart := false, laid := [("unicode/utf8.acceptRanges", laid_unicode_utf8_acceptRanges), ("unicode/utf8.first", laid_unicode_utf8_first)] }
def ViableAgainSaid : Prop := viableAgainRow.holds Tryz.pinned (OpenSpec.ofChange viableAgainSpec)

/-- ITS FALSE NEIGHBOUR: 'it returns false'. Refute it at one input. -/
def viableAgainWrong : ChangeSpec := { name := "viableAgain", fn := fun _ => fun
  | [d1, d2] => { results := [.lit (.bool false)], args := [d1, d2] }
  | _ => none }
def ViableAgainWrongFalsely : Prop := viableAgainRow.holds Tryz.pinned (OpenSpec.ofChange viableAgainWrong)

/-- 'souffleurlaw23.ViableGrows': WHATEVER THE INPUT: true; the input reads as it did. -/
def viableGrowsSpec : ChangeSpec := { name := "viableGrows", fn := fun _ => fun
  | [d1, d2] => { results := [.lit (.bool true)], args := [d1, d2] }
  | _ => none }
def viableGrowsRow : OpenClaim := { program := "ytpngmpbmokhmiaagreatdoor", sum := "78cdc9dfad417638a6b8a70757f8f001b61707495e0a70fc8d35214a26e686af", func := "souffleur/souffleurlaw23.ViableGrows", spec := "viableGrows", inPlace := ["internal/bytealg.IndexByteString", "internal/abi.NoEscape"], unfollowed := true, recurses := true, named := ["unicode/utf8.first", "unicode/utf8.acceptRanges"], plainKeys := false, apart := false, laid := [("unicode/utf8.acceptRanges", laid_unicode_utf8_acceptRanges), ("unicode/utf8.first", laid_unicode_utf8_first)] }
def ViableGrowsSaid : Prop := viableGrowsRow.holds Tryz.pinned (OpenSpec.ofChange viableGrowsSpec)

/-- ITS FALSE NEIGHBOUR: 'it returns false'. Refute it at one input. -/
def viableGrowsWrong : ChangeSpec := { name := "viableGrows", fn := fun _ => fun
  | [d1, d2] => { results := [.lit (.bool false)], args := [d1, d2] }
  | _ => none }
def ViableGrowsWrongFalsely : Prop := viableGrowsRow.holds Tryz.pinned (OpenSpec.ofChange viableGrowsWrong)

/-- 'souffleurlaw22.SimHolds': WHATEVER THE INPUT: true; the input reads as it did. -/
def simHoldsSpec : ChangeSpec := { name := "simHolds", fn := fun _ => fun
  | [d1, d2, d3] => { results := [.lit (.bool true)], args := [d1, d2, d3] }
  | _ => none }
def simHoldsRow : OpenClaim := { program := "ytpngmpbmokhmiaagreatdoor", sum := "78cdc9dfad417638a6b8a70757f8f001b61707495e0a70fc8d35214a26e686af", func := "souffleur/souffleurlaw22.SimHolds", spec := "simHolds", inPlace := ["internal/bytealg.IndexByteString", "internal/abi.NoEscape"], unfollowed := true, recurses := true, named := ["unicode/utf8.first", "unicode/utf8.acceptRanges"], plainKeys := false, apart := false, laid := [("unicode/utf8.acceptRanges", laid_unicode_utf8_acceptRanges), ("unicode/utf8.first", laid_unicode_utf8_first)] }
def SimHoldsSaid : Prop := simHoldsRow.holds Tryz.pinned (OpenSpec.ofChange simHoldsSpec)

/-- ITS FALSE NEIGHBOUR: 'it returns false'. Refute it at one input. -/
def simHoldsWrong : ChangeSpec := { name := "simHolds", fn := fun _ => fun
  | [d1, d2, d3] => { results := [.lit (.bool false)], args := [d1, d2, d3] }
  | _ => none }
def SimHoldsWrongFalsely : Prop := simHoldsRow.holds Tryz.pinned (OpenSpec.ofChange simHoldsWrong)

/-- 'souffleurlaw28.PredictSame': WHATEVER THE INPUT: true; the input reads as it did. -/
def predictSameSpec : ChangeSpec := { name := "predictSame", fn := fun _ => fun
  | [d1, d2, d3] => { results := [.lit (.bool true)], args := [d1, d2, d3] }
  | _ => none }
def predictSameRow : OpenClaim := { program := "ytpngmpbmokhmiaagreatdoor", sum := "78cdc9dfad417638a6b8a70757f8f001b61707495e0a70fc8d35214a26e686af", func := "souffleur/souffleurlaw28.PredictSame", spec := "predictSame", inPlace := ["internal/bytealg.IndexByteString", "internal/abi.NoEscape"], unfollowed := true, recurses := true, named := ["unicode/utf8.first", "unicode/utf8.acceptRanges"], plainKeys := false, apart := false, laid := [("unicode/utf8.acceptRanges", laid_unicode_utf8_acceptRanges), ("unicode/utf8.first", laid_unicode_utf8_first)] }
def PredictSameSaid : Prop := predictSameRow.holds Tryz.pinned (OpenSpec.ofChange predictSameSpec)

/-- ITS FALSE NEIGHBOUR: 'it returns false'. Refute it at one input. -/
def predictSameWrong : ChangeSpec := { name := "predictSame", fn := fun _ => fun
  | [d1, d2, d3] => { results := [.lit (.bool false)], args := [d1, d2, d3] }
  | _ => none }
def PredictSameWrongFalsely : Prop := predictSameRow.holds Tryz.pinned (OpenSpec.ofChange predictSameWrong)

/-- 'souffleurlaw24.OfferLess': WHATEVER THE INPUT: true; the input reads as it did. -/
def offerLessSpec : ChangeSpec := { name := "offerLess", fn := fun _ => fun
  | [d1, d2, d3] => { results := [.lit (.bool true)], args := [d1, d2, d3] }
  | _ => none }
def offerLessRow : OpenClaim := { program := "ytpngmpbmokhmiaagreatdoor", sum := "78cdc9dfad417638a6b8a70757f8f001b61707495e0a70fc8d35214a26e686af", func := "souffleur/souffleurlaw24.OfferLess", spec := "offerLess", inPlace := ["internal/bytealg.IndexByteString", "internal/abi.NoEscape"], unfollowed := true, recurses := true, named := ["unicode/utf8.first", "unicode/utf8.acceptRanges"], plainKeys := false, apart := false, laid := [("unicode/utf8.acceptRanges", laid_unicode_utf8_acceptRanges), ("unicode/utf8.first", laid_unicode_utf8_first)] }
def OfferLessSaid : Prop := offerLessRow.holds Tryz.pinned (OpenSpec.ofChange offerLessSpec)

/-- ITS FALSE NEIGHBOUR: 'it returns false'. Refute it at one input. -/
def offerLessWrong : ChangeSpec := { name := "offerLess", fn := fun _ => fun
  | [d1, d2, d3] => { results := [.lit (.bool false)], args := [d1, d2, d3] }
  | _ => none }
def OfferLessWrongFalsely : Prop := offerLessRow.holds Tryz.pinned (OpenSpec.ofChange offerLessWrong)

/-- 'souffleurlaw24.OfferGrows': WHATEVER THE INPUT: true; the input reads as it did. -/
def offerGrowsSpec : ChangeSpec := { name := "offerGrows", fn := fun _ => fun
  | [d1, d2, d3] => { results := [.lit (.bool true)], args := [d1, d2, d3] }
  | _ => none }
def offerGrowsRow : OpenClaim := { program := "ytpngmpbmokhmiaagreatdoor", sum := "78cdc9dfad417638a6b8a70757f8f001b61707495e0a70fc8d35214a26e686af", func := "souffleur/souffleurlaw24.OfferGrows", spec := "offerGrows", inPlace := ["internal/bytealg.IndexByteString", "internal/abi.NoEscape"], unfollowed := true, recurses := true, named := ["unicode/utf8.first", "unicode/utf8.acceptRanges"], plainKeys := false, apart := false, laid := [("unicode/utf8.acceptRanges", laid_unicode_utf8_acceptRanges), ("unicode/utf8.first", laid_unicode_utf8_first)] }
def OfferGrowsSaid : Prop := offerGrowsRow.holds Tryz.pinned (OpenSpec.ofChange offerGrowsSpec)

/-- ITS FALSE NEIGHBOUR: 'it returns false'. Refute it at one input. -/
def offerGrowsWrong : ChangeSpec := { name := "offerGrows", fn := fun _ => fun
  | [d1, d2, d3] => { results := [.lit (.bool false)], args := [d1, d2, d3] }
  | _ => none }
def OfferGrowsWrongFalsely : Prop := offerGrowsRow.holds Tryz.pinned (OpenSpec.ofChange offerGrowsWrong)

/- THE SECOND FORM. 'bulk': how many values and letters a reading holds, each counted each time it is reached (what is shared counts as often as it is met; a slice's spare places count too). A statement '..UptoSaid' is the law's where the arguments, and the package variables that the reading takes, are together of bulk at most 1048576: NARROWER than '..Said'. Prove '..Said' where nothing that the law and all that it calls make is longer than what came in: it says more and counts as full. Else prove '..UptoSaid'. A law counts once. -/
mutual
def uptoBulk {H : Type} : DataW H → Nat
  | .lit (.string bytes) => bytes.length + 1
  | .lit _ => 1
  | .nil => 1
  | .ptr d => uptoBulk d + 1
  | .slice elems spare => uptoBulkAll elems + uptoBulkAll spare + 1
  | .agg parts => uptoBulkAll parts + 1
  | .iface _ d => uptoBulk d + 1
  | .map entries => uptoBulkEntries entries + 1
  | .held _ => 1
def uptoBulkAll {H : Type} : List (DataW H) → Nat
  | [] => 0
  | d :: r => uptoBulk d + uptoBulkAll r
def uptoBulkEntries {H : Type} : List (Lit × DataW H) → Nat
  | [] => 0
  | x :: r => uptoBulkEntry x + uptoBulkEntries r
def uptoBulkEntry {H : Type} : Lit × DataW H → Nat
  | (.string bytes, d) => bytes.length + uptoBulk d + 1
  | (_, d) => uptoBulk d + 1
 end
def uptoSmall : (H : Type) → List (DataW H) → Bool := fun _ ds => decide (uptoBulkAll ds ≤ 1048576)
def OpenSpec.upto (s : _root_.Go.ChangeSpec) : _root_.Go.OpenSpec := { _root_.Go.OpenSpec.ofChange s with cond := some uptoSmall }

/-- 'souffleurlaw23.ViableAgain', WHERE WHAT IT READS IS OF BULK AT MOST 1048576: true; the input reads as it did. -/
def viableAgainUptoRow : OpenClaim := { program := "ytpngmpbmokhmiaagreatdoor", sum := "78cdc9dfad417638a6b8a70757f8f001b61707495e0a70fc8d35214a26e686af", func := "souffleur/souffleurlaw23.ViableAgain", spec := "viableAgain", inPlace := ["internal/bytealg.IndexByteString", "internal/abi.NoEscape"], unfollowed := true, recurses := true, named := ["unicode/utf8.first", "unicode/utf8.acceptRanges"], plainKeys := false, apart := false, laid := [("unicode/utf8.acceptRanges", laid_unicode_utf8_acceptRanges), ("unicode/utf8.first", laid_unicode_utf8_first)], narrowed := true }
def ViableAgainUptoSaid : Prop := viableAgainUptoRow.holds Tryz.pinned (OpenSpec.upto viableAgainSpec)

/-- 'souffleurlaw23.ViableGrows', WHERE WHAT IT READS IS OF BULK AT MOST 1048576: true; the input reads as it did. -/
def viableGrowsUptoRow : OpenClaim := { program := "ytpngmpbmokhmiaagreatdoor", sum := "78cdc9dfad417638a6b8a70757f8f001b61707495e0a70fc8d35214a26e686af", func := "souffleur/souffleurlaw23.ViableGrows", spec := "viableGrows", inPlace := ["internal/bytealg.IndexByteString", "internal/abi.NoEscape"], unfollowed := true, recurses := true, named := ["unicode/utf8.first", "unicode/utf8.acceptRanges"], plainKeys := false, apart := false, laid := [("unicode/utf8.acceptRanges", laid_unicode_utf8_acceptRanges), ("unicode/utf8.first", laid_unicode_utf8_first)], narrowed := true }
def ViableGrowsUptoSaid : Prop := viableGrowsUptoRow.holds Tryz.pinned (OpenSpec.upto viableGrowsSpec)

/-- 'souffleurlaw22.SimHolds', WHERE WHAT IT READS IS OF BULK AT MOST 1048576: true; the input reads as it did. -/
def simHoldsUptoRow : OpenClaim := { program := "ytpngmpbmokhmiaagreatdoor", sum := "78cdc9dfad417638a6b8a70757f8f001b61707495e0a70fc8d35214a26e686af", func := "souffleur/souffleurlaw22.SimHolds", spec := "simHolds", inPlace := ["internal/bytealg.IndexByteString", "internal/abi.NoEscape"], unfollowed := true, recurses := true, named := ["unicode/utf8.first", "unicode/utf8.acceptRanges"], plainKeys := false, apart := false, laid := [("unicode/utf8.acceptRanges", laid_unicode_utf8_acceptRanges), ("unicode/utf8.first", laid_unicode_utf8_first)], narrowed := true }
def SimHoldsUptoSaid : Prop := simHoldsUptoRow.holds Tryz.pinned (OpenSpec.upto simHoldsSpec)

/-- 'souffleurlaw28.PredictSame', WHERE WHAT IT READS IS OF BULK AT MOST 1048576: true; the input reads as it did. -/
def predictSameUptoRow : OpenClaim := { program := "ytpngmpbmokhmiaagreatdoor", sum := "78cdc9dfad417638a6b8a70757f8f001b61707495e0a70fc8d35214a26e686af", func := "souffleur/souffleurlaw28.PredictSame", spec := "predictSame", inPlace := ["internal/bytealg.IndexByteString", "internal/abi.NoEscape"], unfollowed := true, recurses := true, named := ["unicode/utf8.first", "unicode/utf8.acceptRanges"], plainKeys := false, apart := false, laid := [("unicode/utf8.acceptRanges", laid_unicode_utf8_acceptRanges), ("unicode/utf8.first", laid_unicode_utf8_first)], narrowed := true }
def PredictSameUptoSaid : Prop := predictSameUptoRow.holds Tryz.pinned (OpenSpec.upto predictSameSpec)

/-- 'souffleurlaw24.OfferLess', WHERE WHAT IT READS IS OF BULK AT MOST 1048576: true; the input reads as it did. -/
def offerLessUptoRow : OpenClaim := { program := "ytpngmpbmokhmiaagreatdoor", sum := "78cdc9dfad417638a6b8a70757f8f001b61707495e0a70fc8d35214a26e686af", func := "souffleur/souffleurlaw24.OfferLess", spec := "offerLess", inPlace := ["internal/bytealg.IndexByteString", "internal/abi.NoEscape"], unfollowed := true, recurses := true, named := ["unicode/utf8.first", "unicode/utf8.acceptRanges"], plainKeys := false, apart := false, laid := [("unicode/utf8.acceptRanges", laid_unicode_utf8_acceptRanges), ("unicode/utf8.first", laid_unicode_utf8_first)], narrowed := true }
def OfferLessUptoSaid : Prop := offerLessUptoRow.holds Tryz.pinned (OpenSpec.upto offerLessSpec)

/-- 'souffleurlaw24.OfferGrows', WHERE WHAT IT READS IS OF BULK AT MOST 1048576: true; the input reads as it did. -/
def offerGrowsUptoRow : OpenClaim := { program := "ytpngmpbmokhmiaagreatdoor", sum := "78cdc9dfad417638a6b8a70757f8f001b61707495e0a70fc8d35214a26e686af", func := "souffleur/souffleurlaw24.OfferGrows", spec := "offerGrows", inPlace := ["internal/bytealg.IndexByteString", "internal/abi.NoEscape"], unfollowed := true, recurses := true, named := ["unicode/utf8.first", "unicode/utf8.acceptRanges"], plainKeys := false, apart := false, laid := [("unicode/utf8.acceptRanges", laid_unicode_utf8_acceptRanges), ("unicode/utf8.first", laid_unicode_utf8_first)], narrowed := true }
def OfferGrowsUptoSaid : Prop := offerGrowsUptoRow.holds Tryz.pinned (OpenSpec.upto offerGrowsSpec)

end Rows
end Go.Proofs.YtpngmpbmokhmiaaGreatDoor
