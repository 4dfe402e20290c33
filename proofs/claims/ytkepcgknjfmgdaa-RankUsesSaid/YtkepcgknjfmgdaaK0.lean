/-
  Floats of whole numbers in this program: their making, and how they stand to each other. Condition: below 2^53.
-/
import Derived.Test.YtkepcgknjfmgdaaStab
import Derived.Test.YtkepcgknjfmgdaaFloat
set_option linter.unusedVariables false
set_option linter.unusedSimpArgs false
namespace Go.Proofs.Rk
open Go.Shelf Go.RowKit Go.Lib Go.Sort Go.Rk
/-- a whole number as a float's bits. -/
def fl (n : Int) : Nat := FloatKind.f64.nearest n
theorem conv (n : Int) (w : World) : Sem.run Try.prog (convert 3 68 (.int .i64 n)) w = .ok (.float .f64 (fl n)) w := by
  kernel_rfl
theorem cplx (ts : Array TypeId) (t : TypeId) (a b : Nat) (w : World) : Sem.run Try.prog (Builtin.complex_ ts t #[.float .f64 a, .float .f64 b]) w = .ok (.complex .f64 a b) w := by
  kernel_rfl
theorem realp (ts : Array TypeId) (t : TypeId) (a b : Nat) (w : World) : Sem.run Try.prog (Builtin.real_ ts t #[.complex .f64 a b]) w = .ok (.float .f64 a) w := by
  kernel_rfl
theorem imagp (ts : Array TypeId) (t : TypeId) (a b : Nat) (w : World) : Sem.run Try.prog (Builtin.imag_ ts t #[.complex .f64 a b]) w = .ok (.float .f64 b) w := by
  kernel_rfl
theorem fl_order (a b : Int) (ha : 0 ≤ a) (hb : 0 ≤ b) (ha2 : a < 16777300) (hb2 : b < 16777300) : FloatKind.f64.format.order (fl a) (fl b) = some (compare a b) := by
  have e := order_nat a.toNat b.toNat (by omega) (by omega)
  rw [show ((a.toNat : Nat) : Int) = a by omega, show ((b.toNat : Nat) : Int) = b by omega] at e
  unfold fl
  rw [e]
  congr 1
  rcases Int.lt_trichotomy a b with h | h | h
  · rw [Int.compare_eq_lt.2 h, Nat.compare_eq_lt.2 (by omega)]
  · subst h; rw [Int.compare_eq_eq.2 rfl, Nat.compare_eq_eq.2 rfl]
  · rw [Int.compare_eq_gt.2 h, Nat.compare_eq_gt.2 (by omega)]
theorem fneq (a b : Int) (ha : 0 ≤ a) (hb : 0 ≤ b) (ha2 : a < 16777300) (hb2 : b < 16777300) (w : World) : Sem.run Try.prog (binOp .neq 68 (.float .f64 (fl a)) (.float .f64 (fl b))) w = .ok (.bool (decide (a ≠ b))) w := by
  show Sem.run Try.prog (pure (Value.bool (FloatKind.f64.format.order (fl a) (fl b) != some .eq))) w = _
  rw [fl_order a b ha hb ha2 hb2]
  rcases Int.lt_trichotomy a b with h | h | h
  · rw [Int.compare_eq_lt.2 h, show decide (a ≠ b) = true by simp; omega]; rfl
  · rw [Int.compare_eq_eq.2 h, show decide (a ≠ b) = false by simp; omega]; rfl
  · rw [Int.compare_eq_gt.2 h, show decide (a ≠ b) = true by simp; omega]; rfl
theorem fgtr (a b : Int) (ha : 0 ≤ a) (hb : 0 ≤ b) (ha2 : a < 16777300) (hb2 : b < 16777300) (w : World) : Sem.run Try.prog (binOp .gtr 68 (.float .f64 (fl a)) (.float .f64 (fl b))) w = .ok (.bool (decide (b < a))) w := by
  show Sem.run Try.prog (pure (Value.bool (FloatKind.f64.format.order (fl a) (fl b) == some .gt))) w = _
  rw [fl_order a b ha hb ha2 hb2]
  rcases Int.lt_trichotomy a b with h | h | h
  · rw [Int.compare_eq_lt.2 h, show decide (b < a) = false by simp; omega]; rfl
  · rw [Int.compare_eq_eq.2 h, show decide (b < a) = false by simp; omega]; rfl
  · rw [Int.compare_eq_gt.2 h, show decide (b < a) = true by simp; omega]; rfl
theorem flss (a b : Int) (ha : 0 ≤ a) (hb : 0 ≤ b) (ha2 : a < 16777300) (hb2 : b < 16777300) (w : World) : Sem.run Try.prog (binOp .lss 68 (.float .f64 (fl a)) (.float .f64 (fl b))) w = .ok (.bool (decide (a < b))) w := by
  show Sem.run Try.prog (pure (Value.bool (FloatKind.f64.format.order (fl a) (fl b) == some .lt))) w = _
  rw [fl_order a b ha hb ha2 hb2]
  rcases Int.lt_trichotomy a b with h | h | h
  · rw [Int.compare_eq_lt.2 h, show decide (a < b) = true by simp; omega]; rfl
  · rw [Int.compare_eq_eq.2 h, show decide (a < b) = false by simp; omega]; rfl
  · rw [Int.compare_eq_gt.2 h, show decide (a < b) = false by simp; omega]; rfl
end Go.Proofs.Rk
