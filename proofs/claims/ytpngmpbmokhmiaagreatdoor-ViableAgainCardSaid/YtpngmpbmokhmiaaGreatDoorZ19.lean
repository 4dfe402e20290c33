/-
  Part 19 of the proof. No condition.
-/
import Derived.Test.YtpngmpbmokhmiaaGreatDoorZ01
set_option linter.unusedVariables false
set_option linter.unusedSimpArgs false
set_option maxRecDepth 100000
set_option maxHeartbeats 4000000
set_option linter.defProp false
open Option renaming some->D,none->Q
open Bool renaming true->f
noncomputable section
namespace Go.Proofs.YtpngmpbmokhmiaaGreatDoor
open Go.ChangeShapes Go.WideShapes Go.ChangeAt Go.RowKit
def afo:(Rows.viableAgainRow.wf<|OpenSpec.ofChange Rows.viableAgainSpec)=f:=by kernel_rfl
def afp:(laidOutB Tryz.prog)=f:=by kernel_rfl
def closed2:(mapsRowed Tryz.prog)=f:=by kernel_rfl
def afq:(Tryz.f3.params.all (Tryz.prog.readableRec ·))=f:=by kernel_rfl
def afr:(namedTie Tryz.prog Rows.viableAgainRow.named Rows.viableAgainSpec.vars)=f:=by kernel_rfl
def afs:((Rows.viableAgainRow.stops==[]))=f:=by kernel_rfl
def aft:((Tryz.prog.stops==[]))=f:=by kernel_rfl
def afu:((Rows.viableAgainRow.knobs==[]))=f:=by kernel_rfl
def afv:((Tryz.prog.stopKnobs==[]))=f:=by kernel_rfl
def afw:((Rows.viableAgainRow.inPlace==Tryz.prog.inPlace 3))=f:=by kernel_rfl
def adm:((Rows.viableAgainRow.unfollowed==Tryz.prog.unfollowed 3))=f:=by kernel_rfl
def adn:((Rows.viableAgainRow.recurses==Tryz.prog.recurses 3))=f:=by kernel_rfl
def ado:((Rows.viableAgainRow.named==Tryz.prog.varsNamed 3))=f:=by kernel_rfl
def adp:((Rows.viableAgainRow.maps==(Tryz.f3.params.toList++Rows.viableAgainSpec.plain.varTypes Tryz.prog).any (Tryz.prog.mapsRec ·)))=f:=by kernel_rfl
def adq:((Rows.viableAgainRow.ifaces==(Tryz.f3.params.toList++Rows.viableAgainSpec.plain.varTypes Tryz.prog).any (Tryz.prog.ifacesRec ·)))=f:=by kernel_rfl
def adr:((Rows.viableAgainRow.mapsOut==Tryz.prog.mapsAmong Tryz.f3.resultTypes.toList))=f:=by kernel_rfl
def ads:((Rows.viableAgainRow.loops==(Tryz.f3.params.toList++Rows.viableAgainSpec.plain.varTypes Tryz.prog).any (Tryz.prog.loopsFrom ·)))=f:=by kernel_rfl
def adt:((Rows.viableAgainRow.wideKeys==(Tryz.f3.params.toList++Rows.viableAgainSpec.plain.varTypes Tryz.prog++Tryz.f3.resultTypes.toList).any (Tryz.prog.wideKeysFrom ·)))=f:=by kernel_rfl
def adu:(Rows.viableAgainSpec.vars.all (Tryz.prog.varReadable ·))=f:=by kernel_rfl
def adv:(Tryz.f3.resultTypes.all λt=>Tryz.prog.readableRec t&&decide (t<Tryz.prog.types.size))=f:=by kernel_rfl
def adw:((Rows.viableAgainRow.ifacesOut==Tryz.f3.resultTypes.toList.any (Tryz.prog.ifacesRec ·)))=f:=by kernel_rfl
def adx:((Rows.viableAgainRow.loopsOut==Tryz.f3.resultTypes.toList.any (Tryz.prog.loopsFrom ·)))=f:=by kernel_rfl
def ady:((Rows.viableAgainRow.plainKeys==Tryz.prog.plainKeys))=f:=by kernel_rfl
def adz:(Rows.viableAgainRow.shortTexts.isNone)=f:=by kernel_rfl
def adA:(Tryz.prog.stopsHeard)=f:=by kernel_rfl
def adB:(Tryz.prog.mayEnter)=f:=by kernel_rfl
def adC:((Rows.viableAgainRow.lifted==Tryz.prog.liftsFinal))=f:=by kernel_rfl
def adD:((Tryz.prog.make==D Rows.viableAgainRow.make))=f:=by kernel_rfl
def adE:((Rows.viableAgainRow.kinds==(if Rows.viableAgainRow.domain.isEmpty then[]else Tryz.f3.params.toList.map λt=>match Tryz.prog.underlying t with|some (.int k)=>D k|_=>Q)))=f:=by kernel_rfl
def adF:((Rows.viableAgainRow.pinned==Rows.viableAgainRow.pinnedBy))=f:=by kernel_rfl
def adG:((Rows.viableAgainRow.veiled==(Tryz.f3.params.toList++Rows.viableAgainSpec.plain.varTypes Tryz.prog++Tryz.f3.resultTypes.toList).any (Tryz.prog.veiledRec ·)))=f:=by kernel_rfl
def adH:(Rows.viableAgainRow.veiledFits Tryz.prog Tryz.f3.params.toList<|Tryz.f3.params.toList++Rows.viableAgainSpec.plain.varTypes Tryz.prog++Tryz.f3.resultTypes.toList)=f:=by kernel_rfl
set_option maxRecDepth 100000 in
def closed:joinedFacts Tryz.prog 3 Tryz.f3 Rows.viableAgainSpec Rows.viableAgainRow=f:=by
 unfold joinedFacts;exact(Go.Ae.oZ ((Go.Ae.oZ ((Go.Ae.oZ ((Go.Ae.oZ ((Go.Ae.oZ ((Go.Ae.oZ ((Go.Ae.oZ ((Go.Ae.oZ ((Go.Ae.oZ ((Go.Ae.oZ ((Go.Ae.oZ ((Go.Ae.oZ ((Go.Ae.oZ ((Go.Ae.oZ ((Go.Ae.oZ ((Go.Ae.oZ ((Go.Ae.oZ ((Go.Ae.oZ ((Go.Ae.oZ ((Go.Ae.oZ ((Go.Ae.oZ ((Go.Ae.oZ ((Go.Ae.oZ ((Go.Ae.oZ ((Go.Ae.oZ ((Go.Ae.oZ ((Go.Ae.oZ ((Go.Ae.oZ ((Go.Ae.oZ ((Go.Ae.oZ ((Go.Ae.oZ (afo)<|afp))<|closed2))<|afq))<|afr))<|afs))<|aft))<|afu))<|afv))<|afw))<|adm))<|adn))<|ado))<|adp))<|adq))<|adr))<|ads))<|adt))<|adu))<|adv))<|adw))<|adx))<|ady))<|adz))<|adA))<|adB))<|adC))<|adD))<|adE))<|adF))<|adG))<|adH)
end Go.Proofs.YtpngmpbmokhmiaaGreatDoor
