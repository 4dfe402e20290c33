/-
  The small play of law 31 comes to true; functions without a body. No condition.
-/
import Derived.Test.YtnhfokplkmlibaaGreatDoorK2
import Derived.Test.YtnhfokplkmlibaaGreatDoorW17
set_option linter.unusedSimpArgs false
set_option linter.unusedVariables false
set_option maxRecDepth 100000
namespace Go.Proofs.Lk
open Go.Ae
/-- functions without a Go body, by numbers. -/
noncomputable def X0 : Xt := ⟨fun g => bif' (Nat.beq g 104) 1 (bif' (Nat.beq g 225) 3 0), fun _ _ _ => none⟩
theorem fns : all' (fnOk 3) Pg.funcs.toList = true := by kernel_rfl
theorem xs0 : XOk Pg X0 := by
  refine XOk.of fun g => ?_
  by_cases h1 : g = 104
  · subst h1
    exact .inr (XAt.same Tryz.func104 (by kernel_rfl) (by kernel_rfl) (by kernel_rfl) (by kernel_rfl))
  · by_cases h2 : g = 225
    · subst h2
      exact .inr (XAt.index Tryz.func225 (by kernel_rfl) (by kernel_rfl) (by kernel_rfl) (by kernel_rfl))
    · left
      have e1 : Nat.beq g 104 = false := by rw [← Bool.not_eq_true]; exact fun h => h1 (Nat.eq_of_beq_eq_true h)
      have e2 : Nat.beq g 225 = false := by rw [← Bool.not_eq_true]; exact fun h => h2 (Nat.eq_of_beq_eq_true h)
      show bif' (Nat.beq g 104) 1 (bif' (Nat.beq g 225) 3 0) = 0
      rw [e1, e2]; rfl
theorem xs : XOk Pg X := XOk.of fun g => .inl rfl
theorem mixed : Pg.follows .mixedOrders = true := by kernel_rfl
theorem works_run : ∀ t1 t2 : TypeId, okRun 3 true (acall Pg X0 4000 5 [] (hpT 3 t1 t2)) = true := fun t1 t2 => by kernel_rfl
theorem ors : OrOk Pg X 3 := by
  intro g args v H H' h
  by_cases hg : g = 5
  · subst hg
    exact or_tabs (Nat.le_refl _) mixed (FnsOk.of_all fns) xs0 (OrOk.none fun _ _ _ => rfl) Tryz.func5 (by kernel_rfl) works_run h
  · have e : Nat.beq g 5 = false := by rw [← Bool.not_eq_true]; exact fun h => hg (Nat.eq_of_beq_eq_true h)
    have h : bif' (Nat.beq g 5) (orT args H) none = some (v, H') := h
    rw [e] at h; cases h
end Go.Proofs.Lk
