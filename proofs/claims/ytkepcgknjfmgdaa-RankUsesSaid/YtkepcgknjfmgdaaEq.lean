/-
  Entries, compared. No condition.
-/
import Derived.Test.YtkepcgknjfmgdaaSort
import Derived.Laws.StructEq
set_option linter.unusedVariables false
set_option linter.unusedSimpArgs false
namespace Go.Proofs.Rk
open Go.Shelf Go.RowKit Go.Lib Go.Sort Go.Rk
theorem eqE (x y : En) (w : World) : (Op.equalIn 10000 26 (.agg #[.int .i64 x.kind, .int .i64 x.id, .string x.name, .bool x.lit, .bool x.clean, .int .i64 x.uses]) (.agg #[.int .i64 y.kind, .int .i64 y.id, .string y.name, .bool y.lit, .bool y.clean, .int .i64 y.uses])).run Try.prog w = .ok (decide (x = y)) w := by
  have u3 := Try.underlying3
  have a3 := Try.isAgg3
  have z3 := Try.sizeOf3
  have u4 := Try.underlying4
  have a4 := Try.isAgg4
  have z4 := Try.sizeOf4
  have u9 := Try.underlying9
  have a9 := Try.isAgg9
  have z9 := Try.sizeOf9
  have hS : Try.prog.underlying 26 = some (.struct (Try.prog.fieldsOf 26)) := by kernel_rfl
  have hp : Try.prog.stoodInHeld 26 = false := by kernel_rfl
  rw [show (10000 : Nat) = 9999 + 1 from rfl, run_equalIn_agg w 9999 26 _ _ hS hp]
  simp only [Program.fieldsOf, Try.underlying26]
  go_simp
  obtain ⟨k1, i1, n1, l1, c1, u1⟩ := x
  obtain ⟨k2, i2, n2, l2, c2, u2⟩ := y
  simp only [En.mk.injEq]
  have hn : (n1.toList == n2.toList) = decide (n1 = n2) := by
    rw [Bool.eq_iff_iff, beq_iff_eq, decide_eq_true_iff, ByteArray.toList_eq, ByteArray.toList_eq]
    constructor
    · intro h
      obtain ⟨⟨a⟩⟩ := n1
      obtain ⟨⟨b⟩⟩ := n2
      simp at h
      rw [h]
    · intro h; rw [h]
  by_cases h1 : k1 = k2 <;> by_cases h2 : i1 = i2 <;> by_cases h3 : n1 = n2 <;> by_cases h4 : l1 = l2 <;> by_cases h5 : c1 = c2 <;> by_cases h6 : u1 = u2 <;> simp_all
end Go.Proofs.Rk
