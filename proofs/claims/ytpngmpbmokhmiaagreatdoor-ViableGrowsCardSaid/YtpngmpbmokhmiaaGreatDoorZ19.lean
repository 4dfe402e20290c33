/-
  Part 19 of the proof. No condition.
-/
import Derived.Test.YtpngmpbmokhmiaaGreatDoorZ01
set_option linter.unusedVariables false
set_option linter.unusedSimpArgs false
set_option maxRecDepth 100000
set_option maxHeartbeats 4000000
set_option linter.defProp false
open Option renaming some->D,none->Q
open Bool renaming true->f
noncomputable section
namespace Go.Proofs.YtpngmpbmokhmiaaGreatDoor
open Go.ChangeShapes Go.WideShapes Go.ChangeAt Go.RowKit
def afo:(Rows.viableGrowsRow.wf<|OpenSpec.ofChange Rows.viableGrowsSpec)=f:=by kernel_rfl
def afp:(laidOutB Tryz.prog)=f:=by kernel_rfl
def closed2:(mapsRowed Tryz.prog)=f:=by kernel_rfl
def afq:(Tryz.f4.params.all (Tryz.prog.readableRec ·))=f:=by kernel_rfl
def afr:(namedTie Tryz.prog Rows.viableGrowsRow.named Rows.viableGrowsSpec.vars)=f:=by kernel_rfl
def afs:((Rows.viableGrowsRow.stops==[]))=f:=by kernel_rfl
def aft:((Tryz.prog.stops==[]))=f:=by kernel_rfl
def afu:((Rows.viableGrowsRow.knobs==[]))=f:=by kernel_rfl
def afv:((Tryz.prog.stopKnobs==[]))=f:=by kernel_rfl
def afw:((Rows.viableGrowsRow.inPlace==Tryz.prog.inPlace 4))=f:=by kernel_rfl
def adm:((Rows.viableGrowsRow.unfollowed==Tryz.prog.unfollowed 4))=f:=by kernel_rfl
def adn:((Rows.viableGrowsRow.recurses==Tryz.prog.recurses 4))=f:=by kernel_rfl
def ado:((Rows.viableGrowsRow.named==Tryz.prog.varsNamed 4))=f:=by kernel_rfl
def adp:((Rows.viableGrowsRow.maps==(Tryz.f4.params.toList++Rows.viableGrowsSpec.plain.varTypes Tryz.prog).any (Tryz.prog.mapsRec ·)))=f:=by kernel_rfl
def adq:((Rows.viableGrowsRow.ifaces==(Tryz.f4.params.toList++Rows.viableGrowsSpec.plain.varTypes Tryz.prog).any (Tryz.prog.ifacesRec ·)))=f:=by kernel_rfl
def adr:((Rows.viableGrowsRow.mapsOut==Tryz.prog.mapsAmong Tryz.f4.resultTypes.toList))=f:=by kernel_rfl
def ads:((Rows.viableGrowsRow.loops==(Tryz.f4.params.toList++Rows.viableGrowsSpec.plain.varTypes Tryz.prog).any (Tryz.prog.loopsFrom ·)))=f:=by kernel_rfl
def adt:((Rows.viableGrowsRow.wideKeys==(Tryz.f4.params.toList++Rows.viableGrowsSpec.plain.varTypes Tryz.prog++Tryz.f4.resultTypes.toList).any (Tryz.prog.wideKeysFrom ·)))=f:=by kernel_rfl
def adu:(Rows.viableGrowsSpec.vars.all (Tryz.prog.varReadable ·))=f:=by kernel_rfl
def adv:(Tryz.f4.resultTypes.all λt=>Tryz.prog.readableRec t&&decide (t<Tryz.prog.types.size))=f:=by kernel_rfl
def adw:((Rows.viableGrowsRow.ifacesOut==Tryz.f4.resultTypes.toList.any (Tryz.prog.ifacesRec ·)))=f:=by kernel_rfl
def adx:((Rows.viableGrowsRow.loopsOut==Tryz.f4.resultTypes.toList.any (Tryz.prog.loopsFrom ·)))=f:=by kernel_rfl
def ady:((Rows.viableGrowsRow.plainKeys==Tryz.prog.plainKeys))=f:=by kernel_rfl
def adz:(Rows.viableGrowsRow.shortTexts.isNone)=f:=by kernel_rfl
def adA:(Tryz.prog.stopsHeard)=f:=by kernel_rfl
def adB:(Tryz.prog.mayEnter)=f:=by kernel_rfl
def adC:((Rows.viableGrowsRow.lifted==Tryz.prog.liftsFinal))=f:=by kernel_rfl
def adD:((Tryz.prog.make==D Rows.viableGrowsRow.make))=f:=by kernel_rfl
def adE:((Rows.viableGrowsRow.kinds==(if Rows.viableGrowsRow.domain.isEmpty then[]else Tryz.f4.params.toList.map λt=>match Tryz.prog.underlying t with|some (.int k)=>D k|_=>Q)))=f:=by kernel_rfl
def adF:((Rows.viableGrowsRow.pinned==Rows.viableGrowsRow.pinnedBy))=f:=by kernel_rfl
def adG:((Rows.viableGrowsRow.veiled==(Tryz.f4.params.toList++Rows.viableGrowsSpec.plain.varTypes Tryz.prog++Tryz.f4.resultTypes.toList).any (Tryz.prog.veiledRec ·)))=f:=by kernel_rfl
def adH:(Rows.viableGrowsRow.veiledFits Tryz.prog Tryz.f4.params.toList<|Tryz.f4.params.toList++Rows.viableGrowsSpec.plain.varTypes Tryz.prog++Tryz.f4.resultTypes.toList)=f:=by kernel_rfl
set_option maxRecDepth 100000 in
def closed:joinedFacts Tryz.prog 4 Tryz.f4 Rows.viableGrowsSpec Rows.viableGrowsRow=f:=by
 unfold joinedFacts;exact(Go.Ae.oZ ((Go.Ae.oZ ((Go.Ae.oZ ((Go.Ae.oZ ((Go.Ae.oZ ((Go.Ae.oZ ((Go.Ae.oZ ((Go.Ae.oZ ((Go.Ae.oZ ((Go.Ae.oZ ((Go.Ae.oZ ((Go.Ae.oZ ((Go.Ae.oZ ((Go.Ae.oZ ((Go.Ae.oZ ((Go.Ae.oZ ((Go.Ae.oZ ((Go.Ae.oZ ((Go.Ae.oZ ((Go.Ae.oZ ((Go.Ae.oZ ((Go.Ae.oZ ((Go.Ae.oZ ((Go.Ae.oZ ((Go.Ae.oZ ((Go.Ae.oZ ((Go.Ae.oZ ((Go.Ae.oZ ((Go.Ae.oZ ((Go.Ae.oZ ((Go.Ae.oZ (afo)<|afp))<|closed2))<|afq))<|afr))<|afs))<|aft))<|afu))<|afv))<|afw))<|adm))<|adn))<|ado))<|adp))<|adq))<|adr))<|ads))<|adt))<|adu))<|adv))<|adw))<|adx))<|ady))<|adz))<|adA))<|adB))<|adC))<|adD))<|adE))<|adF))<|adG))<|adH)
end Go.Proofs.YtpngmpbmokhmiaaGreatDoor
