/-
  NARROWER THAN 'FOR EVERY INPUT', by the rows' own cells (each row's printed sentence says how): UsefulRules: laid · UsefulTrims: laid · UsefulComes: laid · LeftNone: laid · FollowRules: laid.
  DERIVED. THE GIVEN ROWS OF THIS SEAT. 5 by the template 'for every input the law returns true; each argument reads behind the call as it read before'; 0 by the template 'total and deterministic' (their statements: YtdkcdlnfeodaaaaGreatDoorTotals.lean).
  GIVEN WITH THE SEED: the statements are not yours to turn. If you find one false, say at which input.
  Laid BY PROGRAM, IN A SANDBOX (cutbox-rows.mjs): the forced cells as the released guide's own fill.sh prints them over the translation 4e434258a86b4c54… (all of the seat's roots in one cut). By AI agents, Wed Nov 11 2026. No macro, syntax, notation, axiom, sorry.
-/
import Derived.Test.YtdkcdlnfeodaaaaGreatDoorChecked
import GoSem.PinnedTables
import GoSem.Claim
import GoSem.ClaimJoined
import GoSem.ClaimMapViews
import Derived.JoinedTies
import Derived.KernelRfl
namespace Go.Proofs.YtdkcdlnfeodaaaaGreatDoor
/- THE CELL 'sum', in the pinned program and in every row, IS THE sha256 OF THE DUMP (.gsa) THAT YtdkcdlnfeodaaaaGreatDoorProg.lean LOADS. Nothing in Lean hashes anything: it is a label: what it is worth is what the hold of that sum in a sandbox is worth. -/
noncomputable def Tryz.pinned : Pinned := { name := "ytdkcdlnfeodaaaagreatdoor", sum := "4e434258a86b4c54e262e28cb8ef27e66ffa011bd0fba80acccdb2b941eeb051", checked := Tryz.checked }
namespace Rows
def none {H : Type} : Left H := { results := [], args := [] }

/- WHAT THE LISTED PACKAGE-LEVEL VARIABLES READ AS WHEN THE CALL BEGINS. Each datum BY PROGRAM (the guide's laid-datum.mjs) off the statement by which the dump's own 'gosem.cut.vars' lays the variable. In a bare row this is a premise. The card (YtdkcdlnfeodaaaaGreatDoorCards.lean) ties it to the program's text. -/
def laid_unicode_utf8_acceptRanges {H : Type} : DataW H := .agg [.agg [.lit (.int .u8 128), .lit (.int .u8 191)], .agg [.lit (.int .u8 160), .lit (.int .u8 191)], .agg [.lit (.int .u8 128), .lit (.int .u8 159)], .agg [.lit (.int .u8 144), .lit (.int .u8 191)], .agg [.lit (.int .u8 128), .lit (.int .u8 143)], .agg [.lit (.int .u8 0), .lit (.int .u8 0)], .agg [.lit (.int .u8 0), .lit (.int .u8 0)], .agg [.lit (.int .u8 0), .lit (.int .u8 0)], .agg [.lit (.int .u8 0), .lit (.int .u8 0)], .agg [.lit (.int .u8 0), .lit (.int .u8 0)], .agg [.lit (.int .u8 0), .lit (.int .u8 0)], .agg [.lit (.int .u8 0), .lit (.int .u8 0)], .agg [.lit (.int .u8 0), .lit (.int .u8 0)], .agg [.lit (.int .u8 0), .lit (.int .u8 0)], .agg [.lit (.int .u8 0), .lit (.int .u8 0)], .agg [.lit (.int .u8 0), .lit (.int .u8 0)]]
/-- One of Go's own tables, pinned by name: the form's constant. -/
def laid_unicode_utf8_first : DataW Unit := Go.Pinned.utf8First

/-- 'souffleurlaw17.UsefulRules': WHATEVER THE INPUT: true; the input reads as it did. -/
def usefulRulesSpec : ChangeSpec := { name := "usefulRules", fn := fun _ => fun
  | [d] => { results := [.lit (.bool true)], args := [d] }
  | _ => none }
def usefulRulesRow : OpenClaim := { program := "ytdkcdlnfeodaaaagreatdoor", sum := "4e434258a86b4c54e262e28cb8ef27e66ffa011bd0fba80acccdb2b941eeb051", func := "souffleur/souffleurlaw17.UsefulRules", spec := "usefulRules", inPlace := ["internal/bytealg.IndexByteString", "internal/abi.NoEscape"], unfollowed := true, recurses := true, named := ["unicode/utf8.first", "unicode/utf8.acceptRanges"], apart := false, laid := [("unicode/utf8.acceptRanges", laid_unicode_utf8_acceptRanges), ("unicode/utf8.first", laid_unicode_utf8_first)] }
def UsefulRulesSaid : Prop := usefulRulesRow.holds Tryz.pinned (OpenSpec.ofChange usefulRulesSpec)

/-- ITS FALSE NEIGHBOUR: 'it returns false'. Refute it at one input. -/
def usefulRulesWrong : ChangeSpec := { name := "usefulRules", fn := fun _ => fun
  | [d] => { results := [.lit (.bool false)], args := [d] }
  | _ => none }
def UsefulRulesWrongFalsely : Prop := usefulRulesRow.holds Tryz.pinned (OpenSpec.ofChange usefulRulesWrong)

/-- 'souffleurlaw17.UsefulTrims': WHATEVER THE INPUT: true; the input reads as it did. -/
def usefulTrimsSpec : ChangeSpec := { name := "usefulTrims", fn := fun _ => fun
  | [d] => { results := [.lit (.bool true)], args := [d] }
  | _ => none }
def usefulTrimsRow : OpenClaim := { program := "ytdkcdlnfeodaaaagreatdoor", sum := "4e434258a86b4c54e262e28cb8ef27e66ffa011bd0fba80acccdb2b941eeb051", func := "souffleur/souffleurlaw17.UsefulTrims", spec := "usefulTrims", inPlace := ["internal/bytealg.IndexByteString", "internal/abi.NoEscape"], unfollowed := true, recurses := true, named := ["unicode/utf8.first", "unicode/utf8.acceptRanges"], apart := false, laid := [("unicode/utf8.acceptRanges", laid_unicode_utf8_acceptRanges), ("unicode/utf8.first", laid_unicode_utf8_first)] }
def UsefulTrimsSaid : Prop := usefulTrimsRow.holds Tryz.pinned (OpenSpec.ofChange usefulTrimsSpec)

/-- ITS FALSE NEIGHBOUR: 'it returns false'. Refute it at one input. -/
def usefulTrimsWrong : ChangeSpec := { name := "usefulTrims", fn := fun _ => fun
  | [d] => { results := [.lit (.bool false)], args := [d] }
  | _ => none }
def UsefulTrimsWrongFalsely : Prop := usefulTrimsRow.holds Tryz.pinned (OpenSpec.ofChange usefulTrimsWrong)

/-- 'souffleurlaw17.UsefulComes': WHATEVER THE INPUT: true; the input reads as it did. -/
def usefulComesSpec : ChangeSpec := { name := "usefulComes", fn := fun _ => fun
  | [d1, d2] => { results := [.lit (.bool true)], args := [d1, d2] }
  | _ => none }
def usefulComesRow : OpenClaim := { program := "ytdkcdlnfeodaaaagreatdoor", sum := "4e434258a86b4c54e262e28cb8ef27e66ffa011bd0fba80acccdb2b941eeb051", func := "souffleur/souffleurlaw17.UsefulComes", spec := "usefulComes", inPlace := ["internal/bytealg.IndexByteString", "internal/abi.NoEscape"], unfollowed := true, recurses := true, named := ["unicode/utf8.first", "unicode/utf8.acceptRanges"], apart := false, laid := [("unicode/utf8.acceptRanges", laid_unicode_utf8_acceptRanges), ("unicode/utf8.first", laid_unicode_utf8_first)] }
def UsefulComesSaid : Prop := usefulComesRow.holds Tryz.pinned (OpenSpec.ofChange usefulComesSpec)

/-- ITS FALSE NEIGHBOUR: 'it returns false'. Refute it at one input. -/
def usefulComesWrong : ChangeSpec := { name := "usefulComes", fn := fun _ => fun
  | [d1, d2] => { results := [.lit (.bool false)], args := [d1, d2] }
  | _ => none }
def UsefulComesWrongFalsely : Prop := usefulComesRow.holds Tryz.pinned (OpenSpec.ofChange usefulComesWrong)

/-- 'souffleurlaw18.LeftNone': WHATEVER THE INPUT: true; the input reads as it did. -/
def leftNoneSpec : ChangeSpec := { name := "leftNone", fn := fun _ => fun
  | [d] => { results := [.lit (.bool true)], args := [d] }
  | _ => none }
def leftNoneRow : OpenClaim := { program := "ytdkcdlnfeodaaaagreatdoor", sum := "4e434258a86b4c54e262e28cb8ef27e66ffa011bd0fba80acccdb2b941eeb051", func := "souffleur/souffleurlaw18.LeftNone", spec := "leftNone", inPlace := ["internal/bytealg.IndexByteString", "internal/abi.NoEscape"], unfollowed := true, recurses := true, named := ["unicode/utf8.first", "unicode/utf8.acceptRanges"], apart := false, laid := [("unicode/utf8.acceptRanges", laid_unicode_utf8_acceptRanges), ("unicode/utf8.first", laid_unicode_utf8_first)] }
def LeftNoneSaid : Prop := leftNoneRow.holds Tryz.pinned (OpenSpec.ofChange leftNoneSpec)

/-- ITS FALSE NEIGHBOUR: 'it returns false'. Refute it at one input. -/
def leftNoneWrong : ChangeSpec := { name := "leftNone", fn := fun _ => fun
  | [d] => { results := [.lit (.bool false)], args := [d] }
  | _ => none }
def LeftNoneWrongFalsely : Prop := leftNoneRow.holds Tryz.pinned (OpenSpec.ofChange leftNoneWrong)

/-- 'souffleurlaw19.FollowRules': WHATEVER THE INPUT: true; the input reads as it did. -/
def followRulesSpec : ChangeSpec := { name := "followRules", fn := fun _ => fun
  | [d] => { results := [.lit (.bool true)], args := [d] }
  | _ => none }
def followRulesRow : OpenClaim := { program := "ytdkcdlnfeodaaaagreatdoor", sum := "4e434258a86b4c54e262e28cb8ef27e66ffa011bd0fba80acccdb2b941eeb051", func := "souffleur/souffleurlaw19.FollowRules", spec := "followRules", inPlace := ["internal/bytealg.IndexByteString", "internal/abi.NoEscape"], unfollowed := true, recurses := true, named := ["unicode/utf8.first", "unicode/utf8.acceptRanges"], apart := false, laid := [("unicode/utf8.acceptRanges", laid_unicode_utf8_acceptRanges), ("unicode/utf8.first", laid_unicode_utf8_first)] }
def FollowRulesSaid : Prop := followRulesRow.holds Tryz.pinned (OpenSpec.ofChange followRulesSpec)

/-- ITS FALSE NEIGHBOUR: 'it returns false'. Refute it at one input. -/
def followRulesWrong : ChangeSpec := { name := "followRules", fn := fun _ => fun
  | [d] => { results := [.lit (.bool false)], args := [d] }
  | _ => none }
def FollowRulesWrongFalsely : Prop := followRulesRow.holds Tryz.pinned (OpenSpec.ofChange followRulesWrong)

/- THE SECOND FORM. 'bulk': how many values and letters a reading holds, each counted each time it is reached (what is shared counts as often as it is met; a slice's spare places count too). A statement '..UptoSaid' is the law's where the arguments, and the package variables that the reading takes, are together of bulk at most 1048576: NARROWER than '..Said'. Prove '..Said' where nothing that the law and all that it calls make is longer than what came in: it says more and counts as full. Else prove '..UptoSaid'. A law counts once. -/
mutual
def uptoBulk {H : Type} : DataW H → Nat
  | .lit (.string bytes) => bytes.length + 1
  | .lit _ => 1
  | .nil => 1
  | .ptr d => uptoBulk d + 1
  | .slice elems spare => uptoBulkAll elems + uptoBulkAll spare + 1
  | .agg parts => uptoBulkAll parts + 1
  | .iface _ d => uptoBulk d + 1
  | .map entries => uptoBulkEntries entries + 1
  | .held _ => 1
def uptoBulkAll {H : Type} : List (DataW H) → Nat
  | [] => 0
  | d :: r => uptoBulk d + uptoBulkAll r
def uptoBulkEntries {H : Type} : List (Lit × DataW H) → Nat
  | [] => 0
  | x :: r => uptoBulkEntry x + uptoBulkEntries r
def uptoBulkEntry {H : Type} : Lit × DataW H → Nat
  | (.string bytes, d) => bytes.length + uptoBulk d + 1
  | (_, d) => uptoBulk d + 1
 end
def uptoSmall : (H : Type) → List (DataW H) → Bool := fun _ ds => decide (uptoBulkAll ds ≤ 1048576)
def OpenSpec.upto (s : _root_.Go.ChangeSpec) : _root_.Go.OpenSpec := { _root_.Go.OpenSpec.ofChange s with cond := some uptoSmall }

/-- 'souffleurlaw17.UsefulRules', WHERE WHAT IT READS IS OF BULK AT MOST 1048576: true; the input reads as it did. -/
def usefulRulesUptoRow : OpenClaim := { program := "ytdkcdlnfeodaaaagreatdoor", sum := "4e434258a86b4c54e262e28cb8ef27e66ffa011bd0fba80acccdb2b941eeb051", func := "souffleur/souffleurlaw17.UsefulRules", spec := "usefulRules", inPlace := ["internal/bytealg.IndexByteString", "internal/abi.NoEscape"], unfollowed := true, recurses := true, named := ["unicode/utf8.first", "unicode/utf8.acceptRanges"], apart := false, laid := [("unicode/utf8.acceptRanges", laid_unicode_utf8_acceptRanges), ("unicode/utf8.first", laid_unicode_utf8_first)], narrowed := true }
def UsefulRulesUptoSaid : Prop := usefulRulesUptoRow.holds Tryz.pinned (OpenSpec.upto usefulRulesSpec)

/-- 'souffleurlaw17.UsefulTrims', WHERE WHAT IT READS IS OF BULK AT MOST 1048576: true; the input reads as it did. -/
def usefulTrimsUptoRow : OpenClaim := { program := "ytdkcdlnfeodaaaagreatdoor", sum := "4e434258a86b4c54e262e28cb8ef27e66ffa011bd0fba80acccdb2b941eeb051", func := "souffleur/souffleurlaw17.UsefulTrims", spec := "usefulTrims", inPlace := ["internal/bytealg.IndexByteString", "internal/abi.NoEscape"], unfollowed := true, recurses := true, named := ["unicode/utf8.first", "unicode/utf8.acceptRanges"], apart := false, laid := [("unicode/utf8.acceptRanges", laid_unicode_utf8_acceptRanges), ("unicode/utf8.first", laid_unicode_utf8_first)], narrowed := true }
def UsefulTrimsUptoSaid : Prop := usefulTrimsUptoRow.holds Tryz.pinned (OpenSpec.upto usefulTrimsSpec)

/-- 'souffleurlaw17.UsefulComes', WHERE WHAT IT READS IS OF BULK AT MOST 1048576: true; the input reads as it did. -/
def usefulComesUptoRow : OpenClaim := { program := "ytdkcdlnfeodaaaagreatdoor", sum := "4e434258a86b4c54e262e28cb8ef27e66ffa011bd0fba80acccdb2b941eeb051", func := "souffleur/souffleurlaw17.UsefulComes", spec := "usefulComes", inPlace := ["internal/bytealg.IndexByteString", "internal/abi.NoEscape"], unfollowed := true, recurses := true, named := ["unicode/utf8.first", "unicode/utf8.acceptRanges"], apart := false, laid := [("unicode/utf8.acceptRanges", laid_unicode_utf8_acceptRanges), ("unicode/utf8.first", laid_unicode_utf8_first)], narrowed := true }
def UsefulComesUptoSaid : Prop := usefulComesUptoRow.holds Tryz.pinned (OpenSpec.upto usefulComesSpec)

/-- 'souffleurlaw18.LeftNone', WHERE WHAT IT READS IS OF BULK AT MOST 1048576: true; the input reads as it did. -/
def leftNoneUptoRow : OpenClaim := { program := "ytdkcdlnfeodaaaagreatdoor", sum := "4e434258a86b4c54e262e28cb8ef27e66ffa011bd0fba80acccdb2b941eeb051", func := "souffleur/souffleurlaw18.LeftNone", spec := "leftNone", inPlace := ["internal/bytealg.IndexByteString", "internal/abi.NoEscape"], unfollowed := true, recurses := true, named := ["unicode/utf8.first", "unicode/utf8.acceptRanges"], apart := false, laid := [("unicode/utf8.acceptRanges", laid_unicode_utf8_acceptRanges), ("unicode/utf8.first", laid_unicode_utf8_first)], narrowed := true }
def LeftNoneUptoSaid : Prop := leftNoneUptoRow.holds Tryz.pinned (OpenSpec.upto leftNoneSpec)

/-- 'souffleurlaw19.FollowRules', WHERE WHAT IT READS IS OF BULK AT MOST 1048576: true; the input reads as it did. -/
def followRulesUptoRow : OpenClaim := { program := "ytdkcdlnfeodaaaagreatdoor", sum := "4e434258a86b4c54e262e28cb8ef27e66ffa011bd0fba80acccdb2b941eeb051", func := "souffleur/souffleurlaw19.FollowRules", spec := "followRules", inPlace := ["internal/bytealg.IndexByteString", "internal/abi.NoEscape"], unfollowed := true, recurses := true, named := ["unicode/utf8.first", "unicode/utf8.acceptRanges"], apart := false, laid := [("unicode/utf8.acceptRanges", laid_unicode_utf8_acceptRanges), ("unicode/utf8.first", laid_unicode_utf8_first)], narrowed := true }
def FollowRulesUptoSaid : Prop := followRulesUptoRow.holds Tryz.pinned (OpenSpec.upto followRulesSpec)

end Rows
end Go.Proofs.YtdkcdlnfeodaaaaGreatDoor
