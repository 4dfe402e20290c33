/-
  The small plays of law 37 come to true, in every world in which two of Go's tables lie as the text lays them; and what audit.Name comes to. No other condition.
-/
import Derived.Test.YtfjejpbjkjlooaaGreatDoorRows
import Derived.Test.YtfjejpbjkjlooaaGreatDoorAed
namespace Go.Proofs.YtfjejpbjkjlooaaGreatDoor
open Go.Ae
set_option maxRecDepth 100000

/-- functions without a Go body, by numbers. -/
noncomputable def X : FuncId → Nat := fun g => bif' (Nat.beq g 334) 1 (bif' (Nat.beq g 288) 3 0)
theorem fns : all' (fnOk 6) Tryz.prog.funcs.toList = true := by kernel_rfl
theorem xs : XOk Tryz.prog X := by
  refine XOk.of fun g => ?_
  by_cases h1 : g = 334
  · subst h1
    exact .inr (XAt.same Tryz.func334 (by kernel_rfl) (by kernel_rfl) (by kernel_rfl) (by kernel_rfl))
  · by_cases h2 : g = 288
    · subst h2
      exact .inr (XAt.index Tryz.func288 (by kernel_rfl) (by kernel_rfl) (by kernel_rfl) (by kernel_rfl))
    · left
      have e1 : Nat.beq g 334 = false := by rw [← Bool.not_eq_true]; exact fun h => h1 (Nat.eq_of_beq_eq_true h)
      have e2 : Nat.beq g 288 = false := by rw [← Bool.not_eq_true]; exact fun h => h2 (Nat.eq_of_beq_eq_true h)
      show bif' (Nat.beq g 334) 1 (bif' (Nat.beq g 288) 3 0) = 0
      rw [e1, e2]; rfl
theorem mixed : Tryz.prog.follows .mixedOrders = true := by kernel_rfl

def d64 : List Nat := [0, 1, 56, 2, 57, 49, 28, 3, 61, 58, 42, 50, 38, 29, 17, 4, 62, 47, 59, 36, 45, 43, 51, 22, 53, 39, 33, 30, 24, 18, 12, 5, 63, 55, 48, 27, 60, 41, 37, 16, 46, 35, 44, 21, 52, 32, 23, 11, 54, 26, 40, 15, 34, 20, 31, 10, 25, 14, 19, 9, 13, 8, 7, 6]
def p10 : List Nat := [1, 10, 100, 1000, 10000, 100000, 1000000, 10000000, 100000000, 1000000000, 10000000000, 100000000000, 1000000000000, 10000000000000, 100000000000000, 1000000000000000, 10000000000000000, 100000000000000000, 1000000000000000000, 10000000000000000000]
noncomputable def hp (t0 t4 : TypeId) : AHeap := ⟨Tr.set .dead (Tr.set .dead .nil 0 (tabRow t0 .u8 d64)) 4 (tabRow t4 .u64 p10), 6, 6⟩
theorem works_run : ∀ t0 t4 : TypeId, okRun 6 true (acall Tryz.prog X 4000 5 [] (hp t0 t4)) = true := fun t0 t4 => by kernel_rfl

/-- the two tables lie there. -/
structure Laid (w : World) : Prop where
  size : 6 ≤ w.heap.size
  t0 : ∃ (ty : TypeId) (cs : Array Value) (fr : Nat × Nat), w.heap[0]? = some (.cells cs ty fr) ∧ ∀ i z : Nat, d64[i]? = some z → cs[i]? = some (Value.int .u8 (z : Nat))
  t4 : ∃ (ty : TypeId) (cs : Array Value) (fr : Nat × Nat), w.heap[4]? = some (.cells cs ty fr) ∧ ∀ i z : Nat, p10[i]? = some z → cs[i]? = some (Value.int .u64 (z : Nat))
theorem Laid.below {w w' : World} (h : Laid w) (hb : Go.RowKit.Below w.heap.size w w') : Laid w' := by
  have hs := h.size
  refine ⟨Nat.le_trans h.size hb.size, ?_, ?_⟩
  · obtain ⟨ty, cs, fr, h1, h2⟩ := h.t0
    exact ⟨ty, cs, fr, by rw [hb.block 0 (by omega)]; exact h1, h2⟩
  · obtain ⟨ty, cs, fr, h1, h2⟩ := h.t4
    exact ⟨ty, cs, fr, by rw [hb.block 4 (by omega)]; exact h1, h2⟩

theorem works_any (w : World) (h : Laid w) : Calls Tryz.prog 5 #[] w fun e w' => e = .returned (.bool true) ∧ Go.RowKit.Below w.heap.size w w' := by
  obtain ⟨t0, cs0, fr0, a1, a2⟩ := h.t0
  obtain ⟨t4, cs4, fr4, b1, b2⟩ := h.t4
  obtain ⟨H', h1, h2⟩ := okRun_eq (works_run t0 t4)
  refine table_call mixed (H := hp t0 t4) (FnsOk.of_all fns) xs Tryz.func5 (by kernel_rfl) h1 h2 rfl rfl h.size ?_
  intro r hr
  have hobj : ∀ r, (hp t0 t4).obj r = if r = 4 then tabRow t4 .u64 p10 else if r = 0 then tabRow t0 .u8 d64 else .dead := by
    intro r
    show (Tr.set .dead (Tr.set .dead .nil 0 (tabRow t0 .u8 d64)) 4 (tabRow t4 .u64 p10)).get .dead r = _
    rw [Tr.get_set, Tr.get_set, Tr.get_nil]
  rw [hobj]
  by_cases e4 : r = 4
  · subst e4; rw [if_pos rfl]; exact .inr ⟨t4, .u64, p10, cs4, fr4, rfl, b1, b2⟩
  · rw [if_neg e4]
    by_cases e0 : r = 0
    · subst e0; rw [if_pos rfl]; exact .inr ⟨t0, .u8, d64, cs0, fr0, rfl, a1, a2⟩
    · rw [if_neg e0]; exact .inl rfl
end Go.Proofs.YtfjejpbjkjlooaaGreatDoor
