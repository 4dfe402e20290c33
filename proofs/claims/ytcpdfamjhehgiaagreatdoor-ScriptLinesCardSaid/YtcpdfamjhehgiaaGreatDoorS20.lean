/-
  Part 20 of the proof. No condition.
-/
import Derived.Test.YtcpdfamjhehgiaaGreatDoorRows
import Derived.Below
import Derived.RowKit3
import Derived.Lib.Bytealg
import Derived.Calls
import Derived.Control
import Derived.Orders
import Derived.Scope
import Derived.Laws.Externs
import Derived.Defers
import Derived.Laws.Tables
import Derived.Lib.UnsafeStr
import Derived.Lib.ConvBytes
import Derived.Laws.BytesString
import Derived.Laws.IdiomStrings
import Derived.Laws.Sem
import Derived.Laws.Cells
import Derived.Laws.World
import Derived.Laws.StructEq
import Derived.IntWalk
import Derived.Laws.Strings
import Derived.ChangeKeysEq
import Derived.Test.YtcpdfamjhehgiaaGreatDoorProg
import Derived.ProofKit
import Derived.OpenShut
import Derived.Carry
import Derived.Deep.Slices
import Derived.Deep.Fields
import Derived.ChangeSame
import Derived.LaidMore
import Derived.LaidLaws
import Derived.Lay
import Derived.JoinedOf
import Derived.Test.YtcpdfamjhehgiaaGreatDoorCards
import Derived.LaidByTextLater
import Derived.SevenTiedAt
import Derived.LaidSub
import Derived.LaidOnce
import GoSem.ClaimGoes
import Derived.Stop.Joined
set_option linter.unusedVariables false
set_option linter.unusedSimpArgs false
set_option maxRecDepth 100000
set_option maxHeartbeats 8000000
noncomputable section
namespace Go.Proofs.YtcpdfamjhehgiaaGreatDoor
open Go
abbrev Ko:List (String×DataW Unit):=[("unicode/utf8.acceptRanges",Rows.laid_unicode_utf8_acceptRanges),("internal/strconv.uint64pow10",Rows.laid_internal_strconv_uint64pow10),("math/bits.deBruijn32tab",Rows.laid_math_bits_deBruijn32tab),("math/bits.deBruijn64tab",Rows.laid_math_bits_deBruijn64tab),("strconv.ErrSyntax",Rows.laid_strconv_ErrSyntax),("strconv.ErrRange",Rows.laid_strconv_ErrRange)]
abbrev XE:List LaidKind:=[.data,.data,.data,.data,.sentinel,.sentinel]
theorem XF:Tryz.prog.worded (varsWordLater true)=true:=by kernel_rfl
theorem XG:Tryz.prog.worded (varsWordLater !true)=false:=by kernel_rfl
theorem XH:Tryz.prog.worded rootWordLater=true:=by kernel_rfl
theorem XI:Ko.map (fun x=>Tryz.prog.kindOfLater x.1)=XE.map some:=by kernel_rfl
theorem XJ:(Tryz.prog.funcNamed "gosem.cut.vars").isSome=true:=by kernel_rfl
theorem XK:varsNamedLaterB Tryz.prog (varsId Tryz.prog) Ko=true:=by kernel_rfl
theorem XL:∀os tape,doorLeaves Tryz.prog 72 8 65 Ko os tape=some (Ko.filter fun x=>x.2.handleName?.isNone,(funcsListed Ko).map (·.2.funcsOut)):=fun _ _=>by kernel_rfl
theorem Zs:Tryz.prog.laidByTextLater Ko XE true:=Program.laidByTextLater_by_one 72 8 65 XF XG XH XI XJ XK XL
theorem pin_laid_unicode_utf8_first:Tryz.pinned.checked.prog.pinnedFits "unicode/utf8.first" =true:=by kernel_rfl
theorem fits1:Tryz.pinned.checked.prog.listedFits [("unicode/utf8.first",Rows.laid_unicode_utf8_first),("unicode/utf8.acceptRanges",Rows.laid_unicode_utf8_acceptRanges),("internal/strconv.uint64pow10",Rows.laid_internal_strconv_uint64pow10),("math/bits.deBruijn32tab",Rows.laid_math_bits_deBruijn32tab),("math/bits.deBruijn64tab",Rows.laid_math_bits_deBruijn64tab),("strconv.ErrSyntax",Rows.laid_strconv_ErrSyntax),("strconv.ErrRange",Rows.laid_strconv_ErrRange)]=true:=by
 unfold Program.listedFits
 exact Bool.and_eq_true_iff.2 ⟨by kernel_rfl,by kernel_rfl⟩
theorem scriptLines_row_tie:Rows.scriptLinesRow.laidByTextAt .later Tryz.pinned [.pinned,.data,.data,.data,.data,.sentinel,.sentinel] true:=
 OpenClaim.laidByTextAt_pinned rfl rfl Zs rfl rfl rfl rfl (fun y hy _e=>by
  simp only[Rows.scriptLinesRow,List.zip_cons_cons,List.zip_nil_right,List.mem_cons,List.mem_nil_iff,or_false]at hy
  rcases hy with rfl|rfl|rfl|rfl|rfl|rfl|rfl
  ·exact⟨pin_laid_unicode_utf8_first,by kernel_rfl⟩
  ·cases _e
  ·cases _e
  ·cases _e
  ·cases _e
  ·cases _e
  ·cases _e) fits1
end Go.Proofs.YtcpdfamjhehgiaaGreatDoor
