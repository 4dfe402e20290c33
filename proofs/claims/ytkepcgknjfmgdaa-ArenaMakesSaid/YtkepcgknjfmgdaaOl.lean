/-
  Maker.Open and Maker.Leaf where they refuse. No condition.
-/
import Derived.Test.YtkepcgknjfmgdaaSh
set_option linter.unusedVariables false
set_option linter.unusedSimpArgs false
namespace Go.Proofs.Ar
open Go.RowKit Go.Lib Go.Sort
variable {w w1 w2 : World} {base mb : Nat} {nv ov : Value} {ls : List (Nd × Value)} {op : List Nat} {tk : Nat}

set_option maxHeartbeats 4000000 in
theorem open_nil (a : Int) (w : World) : Calls Try.prog 9 #[.pointer none, .int .i64 a] w fun e w' => ret0 1 e ∧ w = w' := by
  go_enter Try.func9, Try.ntmps9
  go_wp2
  go_ret
  exact ⟨rfl, rfl⟩
set_option maxHeartbeats 4000000 in
theorem leaf_nil (a : Int) (w : World) : Calls Try.prog 10 #[.pointer none, .int .i64 a] w fun e w' => ret0 1 e ∧ w = w' := by
  go_enter Try.func10, Try.ntmps10
  go_wp2
  go_ret
  exact ⟨rfl, rfl⟩
set_option maxHeartbeats 4000000 in
/-- a maker that was not begun. -/
theorem open_bare (b : Nat) (a : Int) (w : World) (h : w.cell? ⟨b, 0, none⟩ = some (.bool false)) : Calls Try.prog 9 #[.pointer (some ⟨b, 0, none⟩), .int .i64 a] w fun e w' => ret0 1 e ∧ w = w' := by
  go_enter Try.func9, Try.ntmps9
  go_wp2
  go_ret
  exact ⟨rfl, rfl⟩
set_option maxHeartbeats 4000000 in
theorem leaf_none (h : Mk w base mb nv ov ls [] tk) (a : Int) : Calls Try.prog 10 #[.pointer (some ⟨mb, 0, none⟩), .int .i64 a] w fun e w' => ret0 32 e ∧ w = w' := by
  obtain ⟨ao, co, rfl⟩ := h.oform
  have m0 := h.c0
  have m2 := h.c2
  clear h
  go_enter Try.func10, Try.ntmps10
  go_wp2
  go_ret
  exact ⟨rfl, rfl⟩
set_option maxHeartbeats 4000000 in
theorem leaf_less (h : Mk w base mb nv ov ls op tk) (ho : 0 < op.length) (a : Int) (ha : a < 0) : Calls Try.prog 10 #[.pointer (some ⟨mb, 0, none⟩), .int .i64 a] w fun e w' => ret0 2 e ∧ w = w' := by
  obtain ⟨ao, co, rfl⟩ := h.oform
  have m0 := h.c0
  have m2 := h.c2
  obtain ⟨m, hm⟩ : ∃ m, m = op.length := ⟨_, rfl⟩
  rw [← hm] at m2 ho
  have d1 : ((m : Int) == 0) = false := by simp; omega
  have d2 : (m : Int) ≠ 0 := by omega
  clear h hm
  go_enter Try.func10, Try.ntmps10
  go_wp2
  go_ret
  exact ⟨rfl, rfl⟩
set_option maxHeartbeats 4000000 in
theorem open_none (h : Mk w base mb nv ov ls [] tk) (hl : 0 < ls.length) (a : Int) : Calls Try.prog 9 #[.pointer (some ⟨mb, 0, none⟩), .int .i64 a] w fun e w' => ret0 32 e ∧ w = w' := by
  obtain ⟨an, cn, rfl⟩ := h.nform
  obtain ⟨ao, co, rfl⟩ := h.oform
  have m0 := h.c0
  have m1 := h.c1
  have m2 := h.c2
  obtain ⟨m, hm⟩ : ∃ m, m = ls.length := ⟨_, rfl⟩
  rw [← hm] at m1 hl
  have d1 : decide ((m : Int) > 0) = true := by simp; omega
  have d2 : (0 : Int) < (m : Int) := by omega
  clear h hm
  go_enter Try.func9, Try.ntmps9
  go_wp2
  go_ret
  exact ⟨rfl, rfl⟩
set_option maxHeartbeats 4000000 in
theorem open_less (h : Mk w base mb nv ov ls op tk) (hl : ls.length = 0 ∨ 0 < op.length) (a : Int) (ha : a < 0) : Calls Try.prog 9 #[.pointer (some ⟨mb, 0, none⟩), .int .i64 a] w fun e w' => ret0 2 e ∧ w = w' := by
  obtain ⟨an, cn, rfl⟩ := h.nform
  obtain ⟨ao, co, rfl⟩ := h.oform
  have m0 := h.c0
  have m1 := h.c1
  have m2 := h.c2
  obtain ⟨m, hm⟩ : ∃ m, m = ls.length := ⟨_, rfl⟩
  obtain ⟨o, ho⟩ : ∃ o, o = op.length := ⟨_, rfl⟩
  rw [← hm] at m1 hl
  rw [← ho] at m2 hl
  clear h hm ho
  by_cases hz : m = 0
  · subst hz
    clear hl
    go_enter Try.func9, Try.ntmps9
    go_wp2
    go_ret
    exact ⟨rfl, rfl⟩
  · have d1 : decide ((m : Int) > 0) = true := by simp; omega
    have d2 : (0 : Int) < (m : Int) := by omega
    have d3 : ((o : Int) == 0) = false := by simp; omega
    have d4 : (o : Int) ≠ 0 := by omega
    clear hl hz
    go_enter Try.func9, Try.ntmps9
    go_wp2
    go_ret
    exact ⟨rfl, rfl⟩
end Go.Proofs.Ar
