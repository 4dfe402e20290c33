/-
  Part 14 of the proof. No condition.
-/
import Derived.Test.YtcpdfamjhehgiaaGreatDoorRows
import Derived.Below
import Derived.RowKit3
import Derived.Lib.Bytealg
import Derived.Calls
import Derived.Control
import Derived.Orders
import Derived.Scope
import Derived.Laws.Externs
import Derived.Defers
import Derived.Laws.Tables
import Derived.Lib.UnsafeStr
import Derived.Lib.ConvBytes
import Derived.Laws.BytesString
import Derived.Laws.IdiomStrings
import Derived.Laws.Sem
import Derived.Laws.Cells
import Derived.Laws.World
import Derived.Laws.StructEq
import Derived.IntWalk
import Derived.Laws.Strings
import Derived.ChangeKeysEq
import Derived.Test.YtcpdfamjhehgiaaGreatDoorProg
import Derived.ProofKit
import Derived.OpenShut
import Derived.Carry
import Derived.Deep.Slices
import Derived.Deep.Fields
import Derived.ChangeSame
import Derived.LaidMore
import Derived.LaidLaws
import Derived.Lay
import Derived.JoinedOf
import Derived.Test.YtcpdfamjhehgiaaGreatDoorCards
import Derived.LaidByTextLater
import Derived.SevenTiedAt
import Derived.LaidSub
import Derived.LaidOnce
import GoSem.ClaimGoes
import Derived.Stop.Joined
set_option linter.unusedVariables false
set_option linter.unusedSimpArgs false
set_option maxRecDepth 100000
set_option maxHeartbeats 8000000
noncomputable section
namespace Go.Proofs.YtcpdfamjhehgiaaGreatDoor
theorem EG{P:Program}(h:(P.funcs.toList.all fun fn=>!fn.goes)=true)(c:OpenClaim)(hs:c.start=.entering):false=c.goesBy P:=by
 have h1:∀g:Nat,(P.funcs[g]?).any Func.goes=false:=by
  intro g
  cases hg:P.funcs[g]? with
  |none=>rfl
  |some fn=>
   have:=List.all_eq_true.1 h fn (List.mem_of_getElem? (by rw[Array.getElem?_toList];exact hg))
   simpa using this
 have h2:P.funcs.any Func.goes=false:=by
  rw[←Array.any_toList,List.any_eq_false]
  intro fn hf
  have:=List.all_eq_true.1 h fn hf
  simpa using this
 unfold OpenClaim.goesBy Program.goesAt Program.goesFrom
 rw[hs]
 cases P.funcNamed c.func with
 |none=>rfl
 |some f=>
  show false=(P.goes f||false)
  unfold Program.goes
  rw[h2,Bool.and_false,Bool.or_false,Bool.or_false,eq_comm,List.any_eq_false]
  intro g _
  rw[h1 g];simp
theorem Kq:(Tryz.prog.funcs.toList.all fun fn=>!fn.goes)=true:=by kernel_rfl
end Go.Proofs.YtcpdfamjhehgiaaGreatDoor
