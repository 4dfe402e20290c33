/-
  Part 15 of the proof. No condition.
-/
import Derived.Test.YtdkcdlnfeodaaaaGreatDoorR01
import Derived.Test.YtdkcdlnfeodaaaaGreatDoorRows
import Derived.Test.YtdkcdlnfeodaaaaGreatDoorProg
import Derived.Below
import Derived.RowKit3
import Derived.Lib.Bytealg
import Derived.Calls
import Derived.Control
import Derived.Orders
import Derived.Scope
import Derived.Laws.Externs
import Derived.Laws.Tables
import Derived.Lib.UnsafeStr
import Derived.Lib.ConvBytes
import Derived.Laws.BytesString
import Derived.Laws.IdiomStrings
import Derived.Laws.Sem
import Derived.Laws.Cells
import Derived.Laws.World
import Derived.Laws.StructEq
import Derived.IntWalk
import Derived.Laws.Strings
import Derived.ChangeKeysEq
import Derived.ProofKit
import Derived.OpenShut
import Derived.Carry
import Derived.Deep.Slices
import Derived.Deep.Fields
import Derived.ChangeSame
import Derived.LaidMore
import Derived.Lay
import Derived.JoinedOf
import Derived.Test.YtdkcdlnfeodaaaaGreatDoorCards
import Derived.Test.YtdkcdlnfeodaaaaGreatDoorTie
import Derived.SevenTiedAt
import Derived.Stop.Joined
set_option linter.unusedVariables false
set_option linter.unusedSimpArgs false
set_option maxRecDepth 100000
set_option maxHeartbeats 4000000
noncomputable section
namespace Go.Proofs.YtdkcdlnfeodaaaaGreatDoor
open Go.ChangeShapes Go.WideShapes Go.ChangeAt Go.RowKit
theorem ab2:(Rows.usefulRulesRow.wf<|OpenSpec.ofChange Rows.usefulRulesSpec)=true:=by kernel_rfl
theorem ab3:(laidOutB Tryz.prog)=true:=by kernel_rfl
theorem closed2:(mapsRowed Tryz.prog)=true:=by kernel_rfl
theorem ab4:(Tryz.f3.params.all (Tryz.prog.readableRec ·))=true:=by kernel_rfl
theorem ab5:(namedTie Tryz.prog Rows.usefulRulesRow.named Rows.usefulRulesSpec.vars)=true:=by kernel_rfl
theorem ab6:((Rows.usefulRulesRow.stops==[]))=true:=by kernel_rfl
theorem ab7:((Tryz.prog.stops==[]))=true:=by kernel_rfl
theorem ab8:((Rows.usefulRulesRow.knobs==[]))=true:=by kernel_rfl
theorem ab9:((Tryz.prog.stopKnobs==[]))=true:=by kernel_rfl
theorem acd:((Rows.usefulRulesRow.inPlace==Tryz.prog.inPlace 3))=true:=by kernel_rfl
theorem aam:((Rows.usefulRulesRow.unfollowed==Tryz.prog.unfollowed 3))=true:=by kernel_rfl
theorem aan:((Rows.usefulRulesRow.recurses==Tryz.prog.recurses 3))=true:=by kernel_rfl
theorem aao:((Rows.usefulRulesRow.named==Tryz.prog.varsNamed 3))=true:=by kernel_rfl
theorem aap:((Rows.usefulRulesRow.maps==(Tryz.f3.params.toList++Rows.usefulRulesSpec.plain.varTypes Tryz.prog).any (Tryz.prog.mapsRec ·)))=true:=by kernel_rfl
theorem aaq:((Rows.usefulRulesRow.ifaces==(Tryz.f3.params.toList++Rows.usefulRulesSpec.plain.varTypes Tryz.prog).any (Tryz.prog.ifacesRec ·)))=true:=by kernel_rfl
theorem aar:((Rows.usefulRulesRow.mapsOut==Tryz.prog.mapsAmong Tryz.f3.resultTypes.toList))=true:=by kernel_rfl
theorem aas:((Rows.usefulRulesRow.loops==(Tryz.f3.params.toList++Rows.usefulRulesSpec.plain.varTypes Tryz.prog).any (Tryz.prog.loopsFrom ·)))=true:=by kernel_rfl
theorem aat:((Rows.usefulRulesRow.wideKeys==(Tryz.f3.params.toList++Rows.usefulRulesSpec.plain.varTypes Tryz.prog++Tryz.f3.resultTypes.toList).any (Tryz.prog.wideKeysFrom ·)))=true:=by kernel_rfl
theorem aau:(Rows.usefulRulesSpec.vars.all (Tryz.prog.varReadable ·))=true:=by kernel_rfl
theorem aav:(Tryz.f3.resultTypes.all λt=>Tryz.prog.readableRec t&&decide (t<Tryz.prog.types.size))=true:=by kernel_rfl
theorem aaw:((Rows.usefulRulesRow.ifacesOut==Tryz.f3.resultTypes.toList.any (Tryz.prog.ifacesRec ·)))=true:=by kernel_rfl
theorem aax:((Rows.usefulRulesRow.loopsOut==Tryz.f3.resultTypes.toList.any (Tryz.prog.loopsFrom ·)))=true:=by kernel_rfl
theorem aay:((Rows.usefulRulesRow.plainKeys==Tryz.prog.plainKeys))=true:=by kernel_rfl
theorem aaz:(Rows.usefulRulesRow.shortTexts.isNone)=true:=by kernel_rfl
theorem aaA:(Tryz.prog.stopsHeard)=true:=by kernel_rfl
theorem aaB:(Tryz.prog.mayEnter)=true:=by kernel_rfl
theorem aaC:((Rows.usefulRulesRow.lifted==Tryz.prog.liftsFinal))=true:=by kernel_rfl
theorem aaD:((Tryz.prog.make==some Rows.usefulRulesRow.make))=true:=by kernel_rfl
theorem aaE:((Rows.usefulRulesRow.kinds==(if Rows.usefulRulesRow.domain.isEmpty then[]else Tryz.f3.params.toList.map λt=>match Tryz.prog.underlying t with|some (.int k)=>some k|_=>none)))=true:=by kernel_rfl
theorem aaF:((Rows.usefulRulesRow.pinned==Rows.usefulRulesRow.pinnedBy))=true:=by kernel_rfl
theorem aaG:((Rows.usefulRulesRow.veiled==(Tryz.f3.params.toList++Rows.usefulRulesSpec.plain.varTypes Tryz.prog++Tryz.f3.resultTypes.toList).any (Tryz.prog.veiledRec ·)))=true:=by kernel_rfl
theorem aaH:(Rows.usefulRulesRow.veiledFits Tryz.prog Tryz.f3.params.toList<|Tryz.f3.params.toList++Rows.usefulRulesSpec.plain.varTypes Tryz.prog++Tryz.f3.resultTypes.toList)=true:=by kernel_rfl
set_option maxRecDepth 100000 in
theorem closed:joinedFacts Tryz.prog 3 Tryz.f3 Rows.usefulRulesSpec Rows.usefulRulesRow=true:=by
 unfold joinedFacts;exact(Go.Ae.lF ((Go.Ae.lF ((Go.Ae.lF ((Go.Ae.lF ((Go.Ae.lF ((Go.Ae.lF ((Go.Ae.lF ((Go.Ae.lF ((Go.Ae.lF ((Go.Ae.lF ((Go.Ae.lF ((Go.Ae.lF ((Go.Ae.lF ((Go.Ae.lF ((Go.Ae.lF ((Go.Ae.lF ((Go.Ae.lF ((Go.Ae.lF ((Go.Ae.lF ((Go.Ae.lF ((Go.Ae.lF ((Go.Ae.lF ((Go.Ae.lF ((Go.Ae.lF ((Go.Ae.lF ((Go.Ae.lF ((Go.Ae.lF ((Go.Ae.lF ((Go.Ae.lF ((Go.Ae.lF ((Go.Ae.lF (ab2)<|ab3))<|closed2))<|ab4))<|ab5))<|ab6))<|ab7))<|ab8))<|ab9))<|acd))<|aam))<|aan))<|aao))<|aap))<|aaq))<|aar))<|aas))<|aat))<|aau))<|aav))<|aaw))<|aax))<|aay))<|aaz))<|aaA))<|aaB))<|aaC))<|aaD))<|aaE))<|aaF))<|aaG))<|aaH)
end Go.Proofs.YtdkcdlnfeodaaaaGreatDoor
