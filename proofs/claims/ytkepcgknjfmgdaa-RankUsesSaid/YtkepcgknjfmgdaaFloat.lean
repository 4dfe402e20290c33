/-
  Whole numbers below 2^53 as floats stand to each other as they do. No other condition.
-/
import GoSem.Core.Float
import Ieee.Arith
set_option linter.unusedVariables false
set_option linter.unusedSimpArgs false
namespace Go.Rk
open Ieee

def K0 : Nat := 1074
theorem K0_eq : K0 = 1074 := rfl
attribute [irreducible] K0
theorem bin_eq : double.binade = 2 ^ 52 := rfl
theorem inf_eq : double.infRung = 2047 * 2 ^ 52 := rfl
theorem sgn_eq : double.signWeight = 2 ^ 63 := rfl
theorem least_eq : double.leastPlace = -1074 := rfl
theorem frac_eq : double.fractionBits = 52 := rfl

/-- The datum stands for the whole number. -/
def Stands (d : Datum) (n : Nat) : Prop := ∃ m : Nat, ∃ p : Nat, d = .number false m ((p : Int) - 1074) ∧ m * 2 ^ p = n * 2 ^ K0

theorem word_nearest (n : Nat) (h0 : 0 < n) (h : n < 2 ^ 53) : double.nearest false n 0 = (n.log2 + 1022) * 2 ^ 52 + n * 2 ^ (52 - n.log2) ∧ 2 ^ 52 ≤ n * 2 ^ (52 - n.log2) ∧ n * 2 ^ (52 - n.log2) < 2 ^ 53 ∧ n.log2 ≤ 52 := by
  have hl : n.log2 ≤ 52 := by
    have := (Nat.log2_lt (by omega)).2 h
    omega
  have hlo : 2 ^ n.log2 ≤ n := Nat.log2_self_le (by omega)
  have hhi : n < 2 ^ (n.log2 + 1) := Nat.lt_log2_self
  have hk1 : 2 ^ 52 ≤ n * 2 ^ (52 - n.log2) := by
    have : 2 ^ n.log2 * 2 ^ (52 - n.log2) = 2 ^ 52 := by rw [← Nat.pow_add]; congr 1; omega
    calc 2 ^ 52 = 2 ^ n.log2 * 2 ^ (52 - n.log2) := this.symm
      _ ≤ n * 2 ^ (52 - n.log2) := Nat.mul_le_mul_right _ hlo
  have hk2 : n * 2 ^ (52 - n.log2) < 2 ^ 53 := by
    have : 2 ^ (n.log2 + 1) * 2 ^ (52 - n.log2) = 2 ^ 53 := by rw [← Nat.pow_add]; congr 1; omega
    calc n * 2 ^ (52 - n.log2) < 2 ^ (n.log2 + 1) * 2 ^ (52 - n.log2) := Nat.mul_lt_mul_of_pos_right hhi (Nat.pow_pos (by omega))
      _ = 2 ^ 53 := this
  refine ⟨?_, hk1, hk2, hl⟩
  have hlast : max ((0 : Int) + (n.log2 : Int) - (double.fractionBits : Int)) double.leastPlace = (n.log2 : Int) - 52 := by
    rw [frac_eq, least_eq]
    omega
  have hcut : ∀ k : Nat, Toward.even.cut false k 0 = k := by
    intro k
    unfold Toward.cut
    simp [Nat.mod_one]
  unfold Format.nearest
  rw [if_neg (by omega)]
  simp only [hlast]
  rw [show (0 - ((n.log2 : Int) - 52)).toNat = 52 - n.log2 by omega, show ((n.log2 : Int) - 52 - 0).toNat = 0 by omega, hcut, Nat.shiftLeft_eq, show ((n.log2 : Int) - 52 - double.leastPlace).toNat = n.log2 + 1022 by
    rw [least_eq]
    omega, bin_eq, inf_eq]
  unfold Format.word
  rw [if_neg (by simp)]
  generalize n * 2 ^ (52 - n.log2) = k at hk1 hk2 ⊢
  generalize n.log2 = L at hl ⊢
  omega

theorem stands_nearest (n : Nat) (h : n < 2 ^ 53) : Stands (double.read (double.nearest false n 0)) n := by
  by_cases h0 : n = 0
  · subst h0
    exact ⟨0, 0, rfl, by simp⟩
  · obtain ⟨e, k1, k2, hl⟩ := word_nearest n (by omega) h
    have hmul : n * 2 ^ (52 - n.log2) * 2 ^ (n.log2 + 1022) = n * 2 ^ K0 := by
      rw [Nat.mul_assoc, ← Nat.pow_add, show 52 - n.log2 + (n.log2 + 1022) = K0 by rw [K0_eq]; omega]
    refine ⟨n * 2 ^ (52 - n.log2), n.log2 + 1022, ?_, hmul⟩
    rw [e]
    clear hmul e
    generalize n * 2 ^ (52 - n.log2) = k at k1 k2 ⊢
    generalize n.log2 = L at hl ⊢
    unfold Format.read
    have e1 : ((L + 1022) * 2 ^ 52 + k) / double.signWeight % 2 = 0 := by
      rw [sgn_eq]
      omega
    have e2 : ((L + 1022) * 2 ^ 52 + k) % double.signWeight = (L + 1022) * 2 ^ 52 + k := by
      rw [sgn_eq]
      omega
    simp only [e1, e2]
    rw [bin_eq, inf_eq, least_eq, if_neg (by omega), if_pos (by omega)]
    rw [show ((L + 1022) * 2 ^ 52 + k) % 2 ^ 52 = k - 2 ^ 52 by omega, show ((L + 1022) * 2 ^ 52 + k) / 2 ^ 52 = L + 1023 by omega]
    have e3 : 2 ^ 52 + (k - 2 ^ 52) = k := by omega
    have e4 : (-1074 : Int) + ((L + 1023 - 1 : Nat) : Int) = ((L + 1022 : Nat) : Int) - 1074 := by omega
    rw [e3, e4]
    simp

theorem order_stands {d d' : Datum} {n n' : Nat} (h : Stands d n) (h' : Stands d' n') : d.order d' = some (compare n n') := by
  obtain ⟨m, p, rfl, e⟩ := h
  obtain ⟨m', p', rfl, e'⟩ := h'
  show some (compare (signed false m _) (signed false m' _)) = _
  congr 1
  have hb : ∃ b : Nat, min ((p : Int) - 1074) ((p' : Int) - 1074) = (b : Int) - 1074 ∧ b ≤ p ∧ b ≤ p' := ⟨min p p', by omega, by omega, by omega⟩
  obtain ⟨b, hb, hp, hp'⟩ := hb
  rw [hb, show ((p : Int) - 1074 - ((b : Int) - 1074)).toNat = p - b by omega, show ((p' : Int) - 1074 - ((b : Int) - 1074)).toNat = p' - b by omega]
  show compare ((m <<< (p - b) : Nat) : Int) ((m' <<< (p' - b) : Nat) : Int) = _
  rw [Nat.shiftLeft_eq, Nat.shiftLeft_eq]
  have q : m * 2 ^ (p - b) * 2 ^ b = n * 2 ^ K0 := by rw [← e, Nat.mul_assoc, ← Nat.pow_add]; congr 2; omega
  have q' : m' * 2 ^ (p' - b) * 2 ^ b = n' * 2 ^ K0 := by rw [← e', Nat.mul_assoc, ← Nat.pow_add]; congr 2; omega
  generalize m * 2 ^ (p - b) = x at q ⊢
  generalize m' * 2 ^ (p' - b) = y at q' ⊢
  have hB : 0 < 2 ^ b := Nat.pow_pos (by omega)
  have hC : 0 < 2 ^ K0 := Nat.pow_pos (by omega)
  generalize 2 ^ b = B at hB q q'
  generalize 2 ^ K0 = C at hC q q'
  have key : ∀ {x y n n' : Nat}, x * B = n * C → y * B = n' * C → x < y → n < n' := by
    intro x y n n' q q' hxy
    have : x * B < y * B := Nat.mul_lt_mul_of_pos_right hxy hB
    rw [q, q'] at this
    exact Nat.lt_of_mul_lt_mul_right this
  rcases Nat.lt_trichotomy x y with hx | hx | hx
  · have := key q q' hx
    rw [Int.compare_eq_lt.2 (by omega), Nat.compare_eq_lt.2 this]
  · subst hx
    have : n = n' := Nat.eq_of_mul_eq_mul_right hC (q.symm.trans q')
    subst this
    rw [Int.compare_eq_eq.2 rfl, Nat.compare_eq_eq.2 rfl]
  · have := key q' q hx
    rw [Int.compare_eq_gt.2 (by omega), Nat.compare_eq_gt.2 this]

/-- ████ whole numbers as floats ████ -/
theorem order_nat (n n' : Nat) (h : n < 2 ^ 53) (h' : n' < 2 ^ 53) : FloatKind.f64.format.order (FloatKind.f64.nearest n) (FloatKind.f64.nearest n') = some (compare n n') := by
  have e : ∀ n : Nat, FloatKind.f64.nearest (n : Int) = double.nearest false n 0 := by
    intro n
    show double.write (.number (decide ((n : Int) < 0)) (n : Int).natAbs 0) = _
    rw [show decide ((n : Int) < 0) = false by simp]
    rfl
  rw [e, e]
  exact order_stands (stands_nearest n h) (stands_nearest n' h')
end Go.Rk
