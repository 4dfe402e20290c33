/-
  The small play of law 30 comes to true, in every world. No condition.
-/
import Derived.Test.YtkepcgknjfmgdaaProg
import Derived.Test.YtkepcgknjfmgdaaAed
set_option linter.unusedVariables false
set_option linter.unusedSimpArgs false
namespace Go.Proofs.Ar
open Go.Ae
set_option maxRecDepth 100000
noncomputable def X : FuncId → Nat := fun g => bif' (Nat.beq g 43) 1 0
theorem fns : all' (fnOk 0) Try.prog.funcs.toList = true := by kernel_rfl
theorem xs : XOk Try.prog X := by
  refine XOk.of fun g => ?_
  by_cases h1 : g = 43
  · subst h1
    exact .inr (XAt.same Try.func43 (by kernel_rfl) (by kernel_rfl) (by kernel_rfl) (by kernel_rfl))
  · left
    have e1 : Nat.beq g 43 = false := by rw [← Bool.not_eq_true]; exact fun h => h1 (Nat.eq_of_beq_eq_true h)
    show bif' (Nat.beq g 43) 1 0 = 0
    rw [e1]; rfl
theorem mixed : Try.prog.follows .mixedOrders = true := by kernel_rfl
theorem works_run : okRun 0 true (acall Try.prog X 400 15 [] (heap0 0)) = true := by kernel_rfl
theorem works_any (w : World) : Calls Try.prog 15 #[] w fun e w' => e = .returned (.bool true) ∧ Go.RowKit.Below w.heap.size w w' := by
  obtain ⟨H', h1, h2⟩ := okRun_eq works_run
  exact closed_call mixed (FnsOk.of_all fns) xs Try.func15 (by kernel_rfl) h1 h2 rfl rfl (Nat.zero_le _)
end Go.Proofs.Ar
