/-
  Maker.Leaf and Maker.Open where they do what they are asked for. Condition: fewer than 2^20 nodes.
-/
import Derived.Test.YtkepcgknjfmgdaaOl
import Derived.StillTailTactics
set_option linter.unusedVariables false
set_option linter.unusedSimpArgs false
namespace Go.Proofs.Ar
open Go.RowKit Go.Lib Go.Sort
variable {w w1 w2 : World} {base mb : Nat} {nv ov : Value} {ls : List (Nd × Value)} {op : List Nat} {tk : Nat}

set_option maxHeartbeats 8000000 in
set_option maxRecDepth 1000000 in
theorem leaf_some (h : Mk w base mb nv ov ls op tk) (ho : 0 < op.length) (a : Int) (ha : 0 ≤ a) (ht : tk < 1048576) (R : World → Prop)
    (hadd : ∀ W nv ov, Mk W base mb nv ov ls op tk → Below base w W → Calls Try.prog 23 #[.pointer (some ⟨mb, 0, none⟩), aggN ⟨true, a, tk, tk + 1, [], false⟩ (.slice none 0 0)] W fun e w' => e = .returned (.tuple #[]) ∧ R w' ∧ w'.cell? ⟨mb, 3, none⟩ = some (.int .i64 (tk : Int)) ∧ w'.frozen? ⟨mb, 3, none⟩ = false) :
    Calls Try.prog 10 #[.pointer (some ⟨mb, 0, none⟩), .int .i64 a] w fun e w' => ret0 0 e ∧ ∃ w0, R w0 ∧ w' = w0.setCell ⟨mb, 3, none⟩ (.int .i64 ((tk + 1 : Nat) : Int)) := by
  obtain ⟨an, cn, rfl⟩ := h.nform
  obtain ⟨ao, co, rfl⟩ := h.oform
  have m0 := h.c0
  have m1 := h.c1
  have m2 := h.c2
  have m3 := h.c3
  have H0 := Lib.hid h
  obtain ⟨o, hoo⟩ : ∃ o, o = op.length := ⟨_, rfl⟩
  rw [← hoo] at m2 ho
  have d1 : ((o : Int) == 0) = false := by simp; omega
  have d2 : (o : Int) ≠ 0 := by omega
  have d3 : ¬ a < 0 := by omega
  have hc : Calls Try.prog 23 #[.pointer (some ⟨mb, 0, none⟩), .agg #[.bool true, .int .i64 a, .int .i64 (tk : Int), .int .i64 ((tk : Int) + 1), .slice none 0 0, .bool false]] w.drew fun e w' => e = .returned (.tuple #[]) ∧ R w' ∧ w'.cell? ⟨mb, 3, none⟩ = some (.int .i64 (tk : Int)) ∧ w'.frozen? ⟨mb, 3, none⟩ = false := by
    have := hadd w.drew _ _ h.drew ((Below.refl _ w).drew)
    rw [show (aggN ⟨true, a, tk, tk + 1, [], false⟩ (.slice none 0 0)) = Value.agg #[.bool true, .int .i64 a, .int .i64 (tk : Int), .int .i64 ((tk + 1 : Nat) : Int), .slice none 0 0, .bool false] from rfl, show ((tk + 1 : Nat) : Int) = (tk : Int) + 1 by omega] at this
    exact this
  have HC := Lib.hid hc
  clear hc hadd h hoo
  go_enter Try.func10, Try.ntmps10
  go_upto_region 7 with fail
  go_still_tail 12, (by kernel_rfl)
  change wpList _ _ _ _ _ w.drew
  go_wp2_with (go_at_call 23; refine HC.out.mono ?_; rintro ee w3 ⟨rfl, r1, r2, r3⟩; have R1 := Lib.hid r1; clear r1)
  go_ret
  refine ⟨rfl, _, R1.out, ?_⟩
  rw [show ((tk + 1 : Nat) : Int) = (tk : Int) + 1 by omega]
end Go.Proofs.Ar
