/-
  Part 19 of the proof. No condition.
-/
import Derived.Test.YtcpdfamjhehgiaaGreatDoorS01
import Derived.Test.YtcpdfamjhehgiaaGreatDoorRows
import Derived.Below
import Derived.RowKit3
import Derived.Lib.Bytealg
import Derived.Calls
import Derived.Control
import Derived.Orders
import Derived.Scope
import Derived.Laws.Externs
import Derived.Defers
import Derived.Laws.Tables
import Derived.Lib.UnsafeStr
import Derived.Lib.ConvBytes
import Derived.Laws.BytesString
import Derived.Laws.IdiomStrings
import Derived.Laws.Sem
import Derived.Laws.Cells
import Derived.Laws.World
import Derived.Laws.StructEq
import Derived.IntWalk
import Derived.Laws.Strings
import Derived.ChangeKeysEq
import Derived.Test.YtcpdfamjhehgiaaGreatDoorProg
import Derived.ProofKit
import Derived.OpenShut
import Derived.Carry
import Derived.Deep.Slices
import Derived.Deep.Fields
import Derived.ChangeSame
import Derived.LaidMore
import Derived.LaidLaws
import Derived.Lay
import Derived.JoinedOf
import Derived.Test.YtcpdfamjhehgiaaGreatDoorCards
import Derived.LaidByTextLater
import Derived.SevenTiedAt
import Derived.LaidSub
import Derived.LaidOnce
import GoSem.ClaimGoes
import Derived.Stop.Joined
set_option linter.unusedVariables false
set_option linter.unusedSimpArgs false
set_option maxRecDepth 100000
set_option maxHeartbeats 8000000
noncomputable section
namespace Go.Proofs.YtcpdfamjhehgiaaGreatDoor
open Go.ChangeShapes Go.WideShapes Go.ChangeAt Go.RowKit
theorem QL:(Rows.scriptLinesRow.wf (OpenSpec.ofChange Rows.scriptLinesSpec))=true:=by kernel_rfl
theorem QM:(laidOutB Tryz.prog)=true:=by kernel_rfl
theorem closed2:(mapsRowed Tryz.prog)=true:=by kernel_rfl
theorem QN:(Tryz.f3.params.all (Tryz.prog.readableRec ·))=true:=by kernel_rfl
theorem QO:(namedTie Tryz.prog Rows.scriptLinesRow.named Rows.scriptLinesSpec.vars)=true:=by kernel_rfl
theorem QS:((Rows.scriptLinesRow.stops==[]))=true:=by kernel_rfl
theorem QT:((Tryz.prog.stops==[]))=true:=by kernel_rfl
theorem QU:((Rows.scriptLinesRow.knobs==[]))=true:=by kernel_rfl
theorem QV:((Tryz.prog.stopKnobs==[]))=true:=by kernel_rfl
theorem QW:((Rows.scriptLinesRow.inPlace==Tryz.prog.inPlace 3))=true:=by kernel_rfl
theorem Ov:((Rows.scriptLinesRow.unfollowed==Tryz.prog.unfollowed 3))=true:=by kernel_rfl
theorem Ow:((Rows.scriptLinesRow.recurses==Tryz.prog.recurses 3))=true:=by kernel_rfl
theorem Ox:((Rows.scriptLinesRow.named==Tryz.prog.varsNamed 3))=true:=by kernel_rfl
theorem Oy:((Rows.scriptLinesRow.maps==(Tryz.f3.params.toList++Rows.scriptLinesSpec.plain.varTypes Tryz.prog).any (Tryz.prog.mapsRec ·)))=true:=by kernel_rfl
theorem Oz:((Rows.scriptLinesRow.ifaces==(Tryz.f3.params.toList++Rows.scriptLinesSpec.plain.varTypes Tryz.prog).any (Tryz.prog.ifacesRec ·)))=true:=by kernel_rfl
theorem OA:((Rows.scriptLinesRow.mapsOut==Tryz.prog.mapsAmong Tryz.f3.resultTypes.toList))=true:=by kernel_rfl
theorem OB:((Rows.scriptLinesRow.loops==(Tryz.f3.params.toList++Rows.scriptLinesSpec.plain.varTypes Tryz.prog).any (Tryz.prog.loopsFrom ·)))=true:=by kernel_rfl
theorem OC:((Rows.scriptLinesRow.wideKeys==(Tryz.f3.params.toList++Rows.scriptLinesSpec.plain.varTypes Tryz.prog++Tryz.f3.resultTypes.toList).any (Tryz.prog.wideKeysFrom ·)))=true:=by kernel_rfl
theorem OD:(Rows.scriptLinesSpec.vars.all (Tryz.prog.varReadable ·))=true:=by kernel_rfl
theorem OE:(Tryz.f3.resultTypes.all (fun t=>Tryz.prog.readableRec t&&decide (t<Tryz.prog.types.size)))=true:=by kernel_rfl
theorem OG:((Rows.scriptLinesRow.ifacesOut==Tryz.f3.resultTypes.toList.any (Tryz.prog.ifacesRec ·)))=true:=by kernel_rfl
theorem OH:((Rows.scriptLinesRow.loopsOut==Tryz.f3.resultTypes.toList.any (Tryz.prog.loopsFrom ·)))=true:=by kernel_rfl
theorem OI:((Rows.scriptLinesRow.plainKeys==Tryz.prog.plainKeys))=true:=by kernel_rfl
theorem OJ:(Rows.scriptLinesRow.shortTexts.isNone)=true:=by kernel_rfl
theorem OK:(Tryz.prog.stopsHeard)=true:=by kernel_rfl
theorem OL:(Tryz.prog.mayEnter)=true:=by kernel_rfl
theorem OM:((Rows.scriptLinesRow.lifted==Tryz.prog.liftsFinal))=true:=by kernel_rfl
theorem OO:((Tryz.prog.make==some Rows.scriptLinesRow.make))=true:=by kernel_rfl
theorem OP:((Rows.scriptLinesRow.kinds==(if Rows.scriptLinesRow.domain.isEmpty then[]else Tryz.f3.params.toList.map fun t=>match Tryz.prog.underlying t with|some (.int k)=>some k|_=>none)))=true:=by kernel_rfl
theorem OQ:((Rows.scriptLinesRow.pinned==Rows.scriptLinesRow.pinnedBy))=true:=by kernel_rfl
theorem OT:((Rows.scriptLinesRow.veiled==(Tryz.f3.params.toList++Rows.scriptLinesSpec.plain.varTypes Tryz.prog++Tryz.f3.resultTypes.toList).any (Tryz.prog.veiledRec ·)))=true:=by kernel_rfl
theorem OU:(Rows.scriptLinesRow.veiledFits Tryz.prog Tryz.f3.params.toList (Tryz.f3.params.toList++Rows.scriptLinesSpec.plain.varTypes Tryz.prog++Tryz.f3.resultTypes.toList))=true:=by kernel_rfl
set_option maxRecDepth 100000 in
theorem closed:joinedFacts Tryz.prog 3 Tryz.f3 Rows.scriptLinesSpec Rows.scriptLinesRow=true:=by
 unfold joinedFacts
 exact(Go.Ae.eu ((Go.Ae.eu ((Go.Ae.eu ((Go.Ae.eu ((Go.Ae.eu ((Go.Ae.eu ((Go.Ae.eu ((Go.Ae.eu ((Go.Ae.eu ((Go.Ae.eu ((Go.Ae.eu ((Go.Ae.eu ((Go.Ae.eu ((Go.Ae.eu ((Go.Ae.eu ((Go.Ae.eu ((Go.Ae.eu ((Go.Ae.eu ((Go.Ae.eu ((Go.Ae.eu ((Go.Ae.eu ((Go.Ae.eu ((Go.Ae.eu ((Go.Ae.eu ((Go.Ae.eu ((Go.Ae.eu ((Go.Ae.eu ((Go.Ae.eu ((Go.Ae.eu ((Go.Ae.eu ((Go.Ae.eu (QL) (QM))) (closed2))) (QN))) (QO))) (QS))) (QT))) (QU))) (QV))) (QW))) (Ov))) (Ow))) (Ox))) (Oy))) (Oz))) (OA))) (OB))) (OC))) (OD))) (OE))) (OG))) (OH))) (OI))) (OJ))) (OK))) (OL))) (OM))) (OO))) (OP))) (OQ))) (OT))) (OU))
end Go.Proofs.YtcpdfamjhehgiaaGreatDoor
