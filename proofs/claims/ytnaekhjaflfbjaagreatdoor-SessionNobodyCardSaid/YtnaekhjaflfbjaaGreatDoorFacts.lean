/-
  The closed facts of the row, each by the kernel, a declaration each: together they do not fit into one. No condition.
-/
import Derived.Test.YtnaekhjaflfbjaaGreatDoorRows
import Derived.JoinedOf
import Derived.ProofKit
namespace Go.Proofs.YtnaekhjaflfbjaaGreatDoor
open Go.ChangeShapes Go.WideShapes Go.ChangeAt Go.RowKit

theorem closed0 : (Rows.sessionNobodyRow.wf (OpenSpec.ofChange Rows.sessionNobodySpec)) = true := by kernel_rfl
theorem closed1 : (laidOutB Tryz.prog) = true := by kernel_rfl
theorem closed2 : (mapsRowed Tryz.prog) = true := by kernel_rfl
theorem closed3 : (Tryz.f3.params.all (Tryz.prog.readableRec ·)) = true := by kernel_rfl
theorem closed4 : (namedTie Tryz.prog Rows.sessionNobodyRow.named Rows.sessionNobodySpec.vars) = true := by kernel_rfl
theorem closed5 : ((Rows.sessionNobodyRow.stops == [])) = true := by kernel_rfl
theorem closed6 : ((Tryz.prog.stops == [])) = true := by kernel_rfl
theorem closed7 : ((Rows.sessionNobodyRow.knobs == [])) = true := by kernel_rfl
theorem closed8 : ((Tryz.prog.stopKnobs == [])) = true := by kernel_rfl
theorem closed9 : ((Rows.sessionNobodyRow.inPlace == Tryz.prog.inPlace 3)) = true := by kernel_rfl
theorem closed10 : ((Rows.sessionNobodyRow.unfollowed == Tryz.prog.unfollowed 3)) = true := by kernel_rfl
theorem closed11 : ((Rows.sessionNobodyRow.recurses == Tryz.prog.recurses 3)) = true := by kernel_rfl
theorem closed12 : ((Rows.sessionNobodyRow.named == Tryz.prog.varsNamed 3)) = true := by kernel_rfl
theorem closed13 : ((Rows.sessionNobodyRow.maps == (Tryz.f3.params.toList ++ Rows.sessionNobodySpec.plain.varTypes Tryz.prog).any (Tryz.prog.mapsRec ·))) = true := by kernel_rfl
theorem closed14 : ((Rows.sessionNobodyRow.ifaces == (Tryz.f3.params.toList ++ Rows.sessionNobodySpec.plain.varTypes Tryz.prog).any (Tryz.prog.ifacesRec ·))) = true := by kernel_rfl
theorem closed15 : ((Rows.sessionNobodyRow.mapsOut == Tryz.prog.mapsAmong Tryz.f3.resultTypes.toList)) = true := by kernel_rfl
theorem closed16 : ((Rows.sessionNobodyRow.loops == (Tryz.f3.params.toList ++ Rows.sessionNobodySpec.plain.varTypes Tryz.prog).any (Tryz.prog.loopsFrom ·))) = true := by kernel_rfl
theorem closed17 : ((Rows.sessionNobodyRow.wideKeys == (Tryz.f3.params.toList ++ Rows.sessionNobodySpec.plain.varTypes Tryz.prog ++ Tryz.f3.resultTypes.toList).any (Tryz.prog.wideKeysFrom ·))) = true := by kernel_rfl
theorem closed18 : (Rows.sessionNobodySpec.vars.all (Tryz.prog.varReadable ·)) = true := by kernel_rfl
theorem closed19 : (Tryz.f3.resultTypes.all (fun t => Tryz.prog.readableRec t && decide (t < Tryz.prog.types.size))) = true := by kernel_rfl
theorem closed20 : ((Rows.sessionNobodyRow.ifacesOut == Tryz.f3.resultTypes.toList.any (Tryz.prog.ifacesRec ·))) = true := by kernel_rfl
theorem closed21 : ((Rows.sessionNobodyRow.loopsOut == Tryz.f3.resultTypes.toList.any (Tryz.prog.loopsFrom ·))) = true := by kernel_rfl
theorem closed22 : ((Rows.sessionNobodyRow.plainKeys == Tryz.prog.plainKeys)) = true := by kernel_rfl
theorem closed23 : (Rows.sessionNobodyRow.shortTexts.isNone) = true := by kernel_rfl
theorem closed24 : (Tryz.prog.stopsHeard) = true := by kernel_rfl
theorem closed25 : (Tryz.prog.mayEnter) = true := by kernel_rfl
theorem closed26 : ((Rows.sessionNobodyRow.lifted == Tryz.prog.liftsFinal)) = true := by kernel_rfl
theorem closed27 : ((Tryz.prog.make == some Rows.sessionNobodyRow.make)) = true := by kernel_rfl
theorem closed28 : ((Rows.sessionNobodyRow.kinds == (if Rows.sessionNobodyRow.domain.isEmpty then [] else Tryz.f3.params.toList.map fun t => match Tryz.prog.underlying t with | some (.int k) => some k | _ => none))) = true := by kernel_rfl
theorem closed29 : ((Rows.sessionNobodyRow.pinned == Rows.sessionNobodyRow.pinnedBy)) = true := by kernel_rfl
theorem closed30 : ((Rows.sessionNobodyRow.veiled == (Tryz.f3.params.toList ++ Rows.sessionNobodySpec.plain.varTypes Tryz.prog ++ Tryz.f3.resultTypes.toList).any (Tryz.prog.veiledRec ·))) = true := by kernel_rfl
theorem closed31 : (Rows.sessionNobodyRow.veiledFits Tryz.prog Tryz.f3.params.toList (Tryz.f3.params.toList ++ Rows.sessionNobodySpec.plain.varTypes Tryz.prog ++ Tryz.f3.resultTypes.toList)) = true := by kernel_rfl
set_option maxRecDepth 100000 in
theorem closed : joinedFacts Tryz.prog 3 Tryz.f3 Rows.sessionNobodySpec Rows.sessionNobodyRow = true := by
  unfold joinedFacts
  exact (Bool.and_eq_true_iff.2 ⟨(Bool.and_eq_true_iff.2 ⟨(Bool.and_eq_true_iff.2 ⟨(Bool.and_eq_true_iff.2 ⟨(Bool.and_eq_true_iff.2 ⟨(Bool.and_eq_true_iff.2 ⟨(Bool.and_eq_true_iff.2 ⟨(Bool.and_eq_true_iff.2 ⟨(Bool.and_eq_true_iff.2 ⟨(Bool.and_eq_true_iff.2 ⟨(Bool.and_eq_true_iff.2 ⟨(Bool.and_eq_true_iff.2 ⟨(Bool.and_eq_true_iff.2 ⟨(Bool.and_eq_true_iff.2 ⟨(Bool.and_eq_true_iff.2 ⟨(Bool.and_eq_true_iff.2 ⟨(Bool.and_eq_true_iff.2 ⟨(Bool.and_eq_true_iff.2 ⟨(Bool.and_eq_true_iff.2 ⟨(Bool.and_eq_true_iff.2 ⟨(Bool.and_eq_true_iff.2 ⟨(Bool.and_eq_true_iff.2 ⟨(Bool.and_eq_true_iff.2 ⟨(Bool.and_eq_true_iff.2 ⟨(Bool.and_eq_true_iff.2 ⟨(Bool.and_eq_true_iff.2 ⟨(Bool.and_eq_true_iff.2 ⟨(Bool.and_eq_true_iff.2 ⟨(Bool.and_eq_true_iff.2 ⟨(Bool.and_eq_true_iff.2 ⟨(Bool.and_eq_true_iff.2 ⟨closed0, closed1⟩), closed2⟩), closed3⟩), closed4⟩), closed5⟩), closed6⟩), closed7⟩), closed8⟩), closed9⟩), closed10⟩), closed11⟩), closed12⟩), closed13⟩), closed14⟩), closed15⟩), closed16⟩), closed17⟩), closed18⟩), closed19⟩), closed20⟩), closed21⟩), closed22⟩), closed23⟩), closed24⟩), closed25⟩), closed26⟩), closed27⟩), closed28⟩), closed29⟩), closed30⟩), closed31⟩)
end Go.Proofs.YtnaekhjaflfbjaaGreatDoor
