/-
  Part 19 of the proof. No condition.
-/
import Derived.Test.YtpngmpbmokhmiaaGreatDoorZ01
set_option linter.unusedVariables false
set_option linter.unusedSimpArgs false
set_option maxRecDepth 100000
set_option maxHeartbeats 4000000
set_option linter.defProp false
open Option renaming some->Z,none->W
open Bool renaming true->f
noncomputable section
namespace Go.Proofs.YtpngmpbmokhmiaaGreatDoor
open Go.ChangeShapes Go.WideShapes Go.ChangeAt Go.RowKit
def aeG:(Rows.predictSameRow.wf<|OpenSpec.ofChange Rows.predictSameSpec)=f:=by kernel_rfl
def aeH:(laidOutB Tryz.prog)=f:=by kernel_rfl
def closed2:(mapsRowed Tryz.prog)=f:=by kernel_rfl
def aeI:(Tryz.f6.params.all (Tryz.prog.readableRec ·))=f:=by kernel_rfl
def aeJ:(namedTie Tryz.prog Rows.predictSameRow.named Rows.predictSameSpec.vars)=f:=by kernel_rfl
def aeK:((Rows.predictSameRow.stops==[]))=f:=by kernel_rfl
def aeL:((Tryz.prog.stops==[]))=f:=by kernel_rfl
def aeM:((Rows.predictSameRow.knobs==[]))=f:=by kernel_rfl
def aeN:((Tryz.prog.stopKnobs==[]))=f:=by kernel_rfl
def aeO:((Rows.predictSameRow.inPlace==Tryz.prog.inPlace 6))=f:=by kernel_rfl
def acI:((Rows.predictSameRow.unfollowed==Tryz.prog.unfollowed 6))=f:=by kernel_rfl
def acJ:((Rows.predictSameRow.recurses==Tryz.prog.recurses 6))=f:=by kernel_rfl
def acK:((Rows.predictSameRow.named==Tryz.prog.varsNamed 6))=f:=by kernel_rfl
def acL:((Rows.predictSameRow.maps==(Tryz.f6.params.toList++Rows.predictSameSpec.plain.varTypes Tryz.prog).any (Tryz.prog.mapsRec ·)))=f:=by kernel_rfl
def acM:((Rows.predictSameRow.ifaces==(Tryz.f6.params.toList++Rows.predictSameSpec.plain.varTypes Tryz.prog).any (Tryz.prog.ifacesRec ·)))=f:=by kernel_rfl
def acN:((Rows.predictSameRow.mapsOut==Tryz.prog.mapsAmong Tryz.f6.resultTypes.toList))=f:=by kernel_rfl
def acO:((Rows.predictSameRow.loops==(Tryz.f6.params.toList++Rows.predictSameSpec.plain.varTypes Tryz.prog).any (Tryz.prog.loopsFrom ·)))=f:=by kernel_rfl
def acP:((Rows.predictSameRow.wideKeys==(Tryz.f6.params.toList++Rows.predictSameSpec.plain.varTypes Tryz.prog++Tryz.f6.resultTypes.toList).any (Tryz.prog.wideKeysFrom ·)))=f:=by kernel_rfl
def acQ:(Rows.predictSameSpec.vars.all (Tryz.prog.varReadable ·))=f:=by kernel_rfl
def acR:(Tryz.f6.resultTypes.all λt=>Tryz.prog.readableRec t&&decide (t<Tryz.prog.types.size))=f:=by kernel_rfl
def acS:((Rows.predictSameRow.ifacesOut==Tryz.f6.resultTypes.toList.any (Tryz.prog.ifacesRec ·)))=f:=by kernel_rfl
def acT:((Rows.predictSameRow.loopsOut==Tryz.f6.resultTypes.toList.any (Tryz.prog.loopsFrom ·)))=f:=by kernel_rfl
def acU:((Rows.predictSameRow.plainKeys==Tryz.prog.plainKeys))=f:=by kernel_rfl
def acV:(Rows.predictSameRow.shortTexts.isNone)=f:=by kernel_rfl
def acW:(Tryz.prog.stopsHeard)=f:=by kernel_rfl
def acX:(Tryz.prog.mayEnter)=f:=by kernel_rfl
def acY:((Rows.predictSameRow.lifted==Tryz.prog.liftsFinal))=f:=by kernel_rfl
def acZ:((Tryz.prog.make==Z Rows.predictSameRow.make))=f:=by kernel_rfl
def ac0:((Rows.predictSameRow.kinds==(if Rows.predictSameRow.domain.isEmpty then[]else Tryz.f6.params.toList.map λt=>match Tryz.prog.underlying t with|some (.int k)=>Z k|_=>W)))=f:=by kernel_rfl
def ac1:((Rows.predictSameRow.pinned==Rows.predictSameRow.pinnedBy))=f:=by kernel_rfl
def ac2:((Rows.predictSameRow.veiled==(Tryz.f6.params.toList++Rows.predictSameSpec.plain.varTypes Tryz.prog++Tryz.f6.resultTypes.toList).any (Tryz.prog.veiledRec ·)))=f:=by kernel_rfl
def ac3:(Rows.predictSameRow.veiledFits Tryz.prog Tryz.f6.params.toList<|Tryz.f6.params.toList++Rows.predictSameSpec.plain.varTypes Tryz.prog++Tryz.f6.resultTypes.toList)=f:=by kernel_rfl
set_option maxRecDepth 100000 in
def closed:joinedFacts Tryz.prog 6 Tryz.f6 Rows.predictSameSpec Rows.predictSameRow=f:=by
 unfold joinedFacts;exact(Go.Ae.oK ((Go.Ae.oK ((Go.Ae.oK ((Go.Ae.oK ((Go.Ae.oK ((Go.Ae.oK ((Go.Ae.oK ((Go.Ae.oK ((Go.Ae.oK ((Go.Ae.oK ((Go.Ae.oK ((Go.Ae.oK ((Go.Ae.oK ((Go.Ae.oK ((Go.Ae.oK ((Go.Ae.oK ((Go.Ae.oK ((Go.Ae.oK ((Go.Ae.oK ((Go.Ae.oK ((Go.Ae.oK ((Go.Ae.oK ((Go.Ae.oK ((Go.Ae.oK ((Go.Ae.oK ((Go.Ae.oK ((Go.Ae.oK ((Go.Ae.oK ((Go.Ae.oK ((Go.Ae.oK ((Go.Ae.oK (aeG)<|aeH))<|closed2))<|aeI))<|aeJ))<|aeK))<|aeL))<|aeM))<|aeN))<|aeO))<|acI))<|acJ))<|acK))<|acL))<|acM))<|acN))<|acO))<|acP))<|acQ))<|acR))<|acS))<|acT))<|acU))<|acV))<|acW))<|acX))<|acY))<|acZ))<|ac0))<|ac1))<|ac2))<|ac3)
end Go.Proofs.YtpngmpbmokhmiaaGreatDoor
