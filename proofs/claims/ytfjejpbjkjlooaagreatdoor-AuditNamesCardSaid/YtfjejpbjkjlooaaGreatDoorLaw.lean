/-
  AuditNames returns true, whatever two numbers it is given, in every world in which two of Go's tables lie as the text lays them. No other condition.
-/
import Derived.Test.YtfjejpbjkjlooaaGreatDoorNames
import Derived.WalkKit
namespace Go.Proofs.YtfjejpbjkjlooaaGreatDoor
open Go.RowKit

theorem nmc (a : Int) (s : List UInt8) (hn : nm a = s) (w : World) (h : Laid w) : Calls Tryz.prog 4 #[.int .i64 a] w fun e w' => e = .returned (.string ⟨⟨s⟩⟩) ∧ Below w.heap.size w w' ∧ Laid w' := by
  subst hn
  exact (name_any a w h.size).mono fun e w' ⟨h1, h2⟩ => ⟨h1, h2, h.below h2⟩
theorem nm_out (a : Int) (h : a < 1 ∨ 5 < a) : nm a = [] := by
  match a with
  | .ofNat 0 => rfl
  | .ofNat 1 => exact absurd h (by decide)
  | .ofNat 2 => exact absurd h (by decide)
  | .ofNat 3 => exact absurd h (by decide)
  | .ofNat 4 => exact absurd h (by decide)
  | .ofNat 5 => exact absurd h (by decide)
  | .ofNat (n + 6) => rfl
  | .negSucc n => rfl
theorem far {w w1 w2 w3 : World} (h1 : Below w.heap.size w w1) (h2 : Below w1.heap.size w1 w2) (h3 : Below w2.heap.size w2 w3) : Below w.heap.size w w3 :=
  h1.trans ((h2.mono h1.size).trans (h3.mono (Nat.le_trans h1.size h2.size)))

set_option maxHeartbeats 400000 in
theorem law_lo_0 (a : Int) (b : Int) (w : World) (h : Laid w) (ha : nm a = []) (h1 : decide (a ≥ 1) = false) (hb : nm b = []) :
    Calls Tryz.prog 3 #[.int .i64 a, .int .i64 b] w fun e w' => e = .returned (.bool true) ∧ Below w.heap.size w w' := by
  have A := nmc a [] ha
  have B := nmc b [] hb
  clear ha
  clear hb
  go_enter Tryz.func3, Tryz.ntmps3
  go_wp2_with fail
  refine (A _ h).mono ?_
  rintro e w1 ⟨rfl, hb1, hl1⟩
  go_wp2_with fail
  refine (B _ hl1).mono ?_
  rintro e w2 ⟨rfl, hb2, hl2⟩
  go_wp2_with fail
  all_goals
    refine (works_any _ hl2).mono ?_
    rintro e w3 ⟨rfl, hb3⟩
    go_wp2
    go_ret
    exact ⟨rfl, far hb1 hb2 hb3⟩
set_option maxHeartbeats 400000 in
theorem law_lo_1 (a : Int) (w : World) (h : Laid w) (ha : nm a = []) (h1 : decide (a ≥ 1) = false) :
    Calls Tryz.prog 3 #[.int .i64 a, .int .i64 1] w fun e w' => e = .returned (.bool true) ∧ Below w.heap.size w w' := by
  have A := nmc a [] ha
  have B := nmc 1 [108, 111, 115, 116] rfl
  clear ha
  go_enter Tryz.func3, Tryz.ntmps3
  go_wp2_with fail
  refine (A _ h).mono ?_
  rintro e w1 ⟨rfl, hb1, hl1⟩
  go_wp2_with fail
  refine (B _ hl1).mono ?_
  rintro e w2 ⟨rfl, hb2, hl2⟩
  go_wp2_with fail
  all_goals
    refine (works_any _ hl2).mono ?_
    rintro e w3 ⟨rfl, hb3⟩
    go_wp2
    go_ret
    exact ⟨rfl, far hb1 hb2 hb3⟩
set_option maxHeartbeats 400000 in
theorem law_lo_2 (a : Int) (w : World) (h : Laid w) (ha : nm a = []) (h1 : decide (a ≥ 1) = false) :
    Calls Tryz.prog 3 #[.int .i64 a, .int .i64 2] w fun e w' => e = .returned (.bool true) ∧ Below w.heap.size w w' := by
  have A := nmc a [] ha
  have B := nmc 2 [115, 116, 114, 97, 121] rfl
  clear ha
  go_enter Tryz.func3, Tryz.ntmps3
  go_wp2_with fail
  refine (A _ h).mono ?_
  rintro e w1 ⟨rfl, hb1, hl1⟩
  go_wp2_with fail
  refine (B _ hl1).mono ?_
  rintro e w2 ⟨rfl, hb2, hl2⟩
  go_wp2_with fail
  all_goals
    refine (works_any _ hl2).mono ?_
    rintro e w3 ⟨rfl, hb3⟩
    go_wp2
    go_ret
    exact ⟨rfl, far hb1 hb2 hb3⟩
set_option maxHeartbeats 400000 in
theorem law_lo_3 (a : Int) (w : World) (h : Laid w) (ha : nm a = []) (h1 : decide (a ≥ 1) = false) :
    Calls Tryz.prog 3 #[.int .i64 a, .int .i64 3] w fun e w' => e = .returned (.bool true) ∧ Below w.heap.size w w' := by
  have A := nmc a [] ha
  have B := nmc 3 [111, 114, 100, 101, 114] rfl
  clear ha
  go_enter Tryz.func3, Tryz.ntmps3
  go_wp2_with fail
  refine (A _ h).mono ?_
  rintro e w1 ⟨rfl, hb1, hl1⟩
  go_wp2_with fail
  refine (B _ hl1).mono ?_
  rintro e w2 ⟨rfl, hb2, hl2⟩
  go_wp2_with fail
  all_goals
    refine (works_any _ hl2).mono ?_
    rintro e w3 ⟨rfl, hb3⟩
    go_wp2
    go_ret
    exact ⟨rfl, far hb1 hb2 hb3⟩
set_option maxHeartbeats 400000 in
theorem law_lo_4 (a : Int) (w : World) (h : Laid w) (ha : nm a = []) (h1 : decide (a ≥ 1) = false) :
    Calls Tryz.prog 3 #[.int .i64 a, .int .i64 4] w fun e w' => e = .returned (.bool true) ∧ Below w.heap.size w w' := by
  have A := nmc a [] ha
  have B := nmc 4 [110, 97, 109, 101, 100] rfl
  clear ha
  go_enter Tryz.func3, Tryz.ntmps3
  go_wp2_with fail
  refine (A _ h).mono ?_
  rintro e w1 ⟨rfl, hb1, hl1⟩
  go_wp2_with fail
  refine (B _ hl1).mono ?_
  rintro e w2 ⟨rfl, hb2, hl2⟩
  go_wp2_with fail
  all_goals
    refine (works_any _ hl2).mono ?_
    rintro e w3 ⟨rfl, hb3⟩
    go_wp2
    go_ret
    exact ⟨rfl, far hb1 hb2 hb3⟩
set_option maxHeartbeats 400000 in
theorem law_lo_5 (a : Int) (w : World) (h : Laid w) (ha : nm a = []) (h1 : decide (a ≥ 1) = false) :
    Calls Tryz.prog 3 #[.int .i64 a, .int .i64 5] w fun e w' => e = .returned (.bool true) ∧ Below w.heap.size w w' := by
  have A := nmc a [] ha
  have B := nmc 5 [114, 111, 119, 101, 100] rfl
  clear ha
  go_enter Tryz.func3, Tryz.ntmps3
  go_wp2_with fail
  refine (A _ h).mono ?_
  rintro e w1 ⟨rfl, hb1, hl1⟩
  go_wp2_with fail
  refine (B _ hl1).mono ?_
  rintro e w2 ⟨rfl, hb2, hl2⟩
  go_wp2_with fail
  all_goals
    refine (works_any _ hl2).mono ?_
    rintro e w3 ⟨rfl, hb3⟩
    go_wp2
    go_ret
    exact ⟨rfl, far hb1 hb2 hb3⟩
set_option maxHeartbeats 400000 in
theorem law_hi_0 (a : Int) (b : Int) (w : World) (h : Laid w) (ha : nm a = []) (h1 : decide (a ≥ 1) = true) (h2 : decide (a ≤ 5) = false) (hb : nm b = []) :
    Calls Tryz.prog 3 #[.int .i64 a, .int .i64 b] w fun e w' => e = .returned (.bool true) ∧ Below w.heap.size w w' := by
  have A := nmc a [] ha
  have B := nmc b [] hb
  clear ha
  clear hb
  go_enter Tryz.func3, Tryz.ntmps3
  go_wp2_with fail
  refine (A _ h).mono ?_
  rintro e w1 ⟨rfl, hb1, hl1⟩
  go_wp2_with fail
  refine (B _ hl1).mono ?_
  rintro e w2 ⟨rfl, hb2, hl2⟩
  go_wp2_with fail
  all_goals
    refine (works_any _ hl2).mono ?_
    rintro e w3 ⟨rfl, hb3⟩
    go_wp2
    go_ret
    exact ⟨rfl, far hb1 hb2 hb3⟩
set_option maxHeartbeats 400000 in
theorem law_hi_1 (a : Int) (w : World) (h : Laid w) (ha : nm a = []) (h1 : decide (a ≥ 1) = true) (h2 : decide (a ≤ 5) = false) :
    Calls Tryz.prog 3 #[.int .i64 a, .int .i64 1] w fun e w' => e = .returned (.bool true) ∧ Below w.heap.size w w' := by
  have A := nmc a [] ha
  have B := nmc 1 [108, 111, 115, 116] rfl
  clear ha
  go_enter Tryz.func3, Tryz.ntmps3
  go_wp2_with fail
  refine (A _ h).mono ?_
  rintro e w1 ⟨rfl, hb1, hl1⟩
  go_wp2_with fail
  refine (B _ hl1).mono ?_
  rintro e w2 ⟨rfl, hb2, hl2⟩
  go_wp2_with fail
  all_goals
    refine (works_any _ hl2).mono ?_
    rintro e w3 ⟨rfl, hb3⟩
    go_wp2
    go_ret
    exact ⟨rfl, far hb1 hb2 hb3⟩
set_option maxHeartbeats 400000 in
theorem law_hi_2 (a : Int) (w : World) (h : Laid w) (ha : nm a = []) (h1 : decide (a ≥ 1) = true) (h2 : decide (a ≤ 5) = false) :
    Calls Tryz.prog 3 #[.int .i64 a, .int .i64 2] w fun e w' => e = .returned (.bool true) ∧ Below w.heap.size w w' := by
  have A := nmc a [] ha
  have B := nmc 2 [115, 116, 114, 97, 121] rfl
  clear ha
  go_enter Tryz.func3, Tryz.ntmps3
  go_wp2_with fail
  refine (A _ h).mono ?_
  rintro e w1 ⟨rfl, hb1, hl1⟩
  go_wp2_with fail
  refine (B _ hl1).mono ?_
  rintro e w2 ⟨rfl, hb2, hl2⟩
  go_wp2_with fail
  all_goals
    refine (works_any _ hl2).mono ?_
    rintro e w3 ⟨rfl, hb3⟩
    go_wp2
    go_ret
    exact ⟨rfl, far hb1 hb2 hb3⟩
set_option maxHeartbeats 400000 in
theorem law_hi_3 (a : Int) (w : World) (h : Laid w) (ha : nm a = []) (h1 : decide (a ≥ 1) = true) (h2 : decide (a ≤ 5) = false) :
    Calls Tryz.prog 3 #[.int .i64 a, .int .i64 3] w fun e w' => e = .returned (.bool true) ∧ Below w.heap.size w w' := by
  have A := nmc a [] ha
  have B := nmc 3 [111, 114, 100, 101, 114] rfl
  clear ha
  go_enter Tryz.func3, Tryz.ntmps3
  go_wp2_with fail
  refine (A _ h).mono ?_
  rintro e w1 ⟨rfl, hb1, hl1⟩
  go_wp2_with fail
  refine (B _ hl1).mono ?_
  rintro e w2 ⟨rfl, hb2, hl2⟩
  go_wp2_with fail
  all_goals
    refine (works_any _ hl2).mono ?_
    rintro e w3 ⟨rfl, hb3⟩
    go_wp2
    go_ret
    exact ⟨rfl, far hb1 hb2 hb3⟩
set_option maxHeartbeats 400000 in
theorem law_hi_4 (a : Int) (w : World) (h : Laid w) (ha : nm a = []) (h1 : decide (a ≥ 1) = true) (h2 : decide (a ≤ 5) = false) :
    Calls Tryz.prog 3 #[.int .i64 a, .int .i64 4] w fun e w' => e = .returned (.bool true) ∧ Below w.heap.size w w' := by
  have A := nmc a [] ha
  have B := nmc 4 [110, 97, 109, 101, 100] rfl
  clear ha
  go_enter Tryz.func3, Tryz.ntmps3
  go_wp2_with fail
  refine (A _ h).mono ?_
  rintro e w1 ⟨rfl, hb1, hl1⟩
  go_wp2_with fail
  refine (B _ hl1).mono ?_
  rintro e w2 ⟨rfl, hb2, hl2⟩
  go_wp2_with fail
  all_goals
    refine (works_any _ hl2).mono ?_
    rintro e w3 ⟨rfl, hb3⟩
    go_wp2
    go_ret
    exact ⟨rfl, far hb1 hb2 hb3⟩
set_option maxHeartbeats 400000 in
theorem law_hi_5 (a : Int) (w : World) (h : Laid w) (ha : nm a = []) (h1 : decide (a ≥ 1) = true) (h2 : decide (a ≤ 5) = false) :
    Calls Tryz.prog 3 #[.int .i64 a, .int .i64 5] w fun e w' => e = .returned (.bool true) ∧ Below w.heap.size w w' := by
  have A := nmc a [] ha
  have B := nmc 5 [114, 111, 119, 101, 100] rfl
  clear ha
  go_enter Tryz.func3, Tryz.ntmps3
  go_wp2_with fail
  refine (A _ h).mono ?_
  rintro e w1 ⟨rfl, hb1, hl1⟩
  go_wp2_with fail
  refine (B _ hl1).mono ?_
  rintro e w2 ⟨rfl, hb2, hl2⟩
  go_wp2_with fail
  all_goals
    refine (works_any _ hl2).mono ?_
    rintro e w3 ⟨rfl, hb3⟩
    go_wp2
    go_ret
    exact ⟨rfl, far hb1 hb2 hb3⟩
set_option maxHeartbeats 400000 in
theorem law_1_0 (b : Int) (w : World) (h : Laid w) (hb : nm b = []) :
    Calls Tryz.prog 3 #[.int .i64 1, .int .i64 b] w fun e w' => e = .returned (.bool true) ∧ Below w.heap.size w w' := by
  have A := nmc 1 [108, 111, 115, 116] rfl
  have B := nmc b [] hb
  clear hb
  go_enter Tryz.func3, Tryz.ntmps3
  go_wp2_with fail
  refine (A _ h).mono ?_
  rintro e w1 ⟨rfl, hb1, hl1⟩
  go_wp2_with fail
  refine (B _ hl1).mono ?_
  rintro e w2 ⟨rfl, hb2, hl2⟩
  go_wp2_with fail
  all_goals
    refine (works_any _ hl2).mono ?_
    rintro e w3 ⟨rfl, hb3⟩
    go_wp2
    go_ret
    exact ⟨rfl, far hb1 hb2 hb3⟩
set_option maxHeartbeats 400000 in
theorem law_1_1 (w : World) (h : Laid w) :
    Calls Tryz.prog 3 #[.int .i64 1, .int .i64 1] w fun e w' => e = .returned (.bool true) ∧ Below w.heap.size w w' := by
  have A := nmc 1 [108, 111, 115, 116] rfl
  have B := nmc 1 [108, 111, 115, 116] rfl
  go_enter Tryz.func3, Tryz.ntmps3
  go_wp2_with fail
  refine (A _ h).mono ?_
  rintro e w1 ⟨rfl, hb1, hl1⟩
  go_wp2_with fail
  refine (B _ hl1).mono ?_
  rintro e w2 ⟨rfl, hb2, hl2⟩
  go_wp2_with fail
  all_goals
    refine (works_any _ hl2).mono ?_
    rintro e w3 ⟨rfl, hb3⟩
    go_wp2
    go_ret
    exact ⟨rfl, far hb1 hb2 hb3⟩
set_option maxHeartbeats 400000 in
theorem law_1_2 (w : World) (h : Laid w) :
    Calls Tryz.prog 3 #[.int .i64 1, .int .i64 2] w fun e w' => e = .returned (.bool true) ∧ Below w.heap.size w w' := by
  have A := nmc 1 [108, 111, 115, 116] rfl
  have B := nmc 2 [115, 116, 114, 97, 121] rfl
  go_enter Tryz.func3, Tryz.ntmps3
  go_wp2_with fail
  refine (A _ h).mono ?_
  rintro e w1 ⟨rfl, hb1, hl1⟩
  go_wp2_with fail
  refine (B _ hl1).mono ?_
  rintro e w2 ⟨rfl, hb2, hl2⟩
  go_wp2_with fail
  all_goals
    refine (works_any _ hl2).mono ?_
    rintro e w3 ⟨rfl, hb3⟩
    go_wp2
    go_ret
    exact ⟨rfl, far hb1 hb2 hb3⟩
set_option maxHeartbeats 400000 in
theorem law_1_3 (w : World) (h : Laid w) :
    Calls Tryz.prog 3 #[.int .i64 1, .int .i64 3] w fun e w' => e = .returned (.bool true) ∧ Below w.heap.size w w' := by
  have A := nmc 1 [108, 111, 115, 116] rfl
  have B := nmc 3 [111, 114, 100, 101, 114] rfl
  go_enter Tryz.func3, Tryz.ntmps3
  go_wp2_with fail
  refine (A _ h).mono ?_
  rintro e w1 ⟨rfl, hb1, hl1⟩
  go_wp2_with fail
  refine (B _ hl1).mono ?_
  rintro e w2 ⟨rfl, hb2, hl2⟩
  go_wp2_with fail
  all_goals
    refine (works_any _ hl2).mono ?_
    rintro e w3 ⟨rfl, hb3⟩
    go_wp2
    go_ret
    exact ⟨rfl, far hb1 hb2 hb3⟩
set_option maxHeartbeats 400000 in
theorem law_1_4 (w : World) (h : Laid w) :
    Calls Tryz.prog 3 #[.int .i64 1, .int .i64 4] w fun e w' => e = .returned (.bool true) ∧ Below w.heap.size w w' := by
  have A := nmc 1 [108, 111, 115, 116] rfl
  have B := nmc 4 [110, 97, 109, 101, 100] rfl
  go_enter Tryz.func3, Tryz.ntmps3
  go_wp2_with fail
  refine (A _ h).mono ?_
  rintro e w1 ⟨rfl, hb1, hl1⟩
  go_wp2_with fail
  refine (B _ hl1).mono ?_
  rintro e w2 ⟨rfl, hb2, hl2⟩
  go_wp2_with fail
  all_goals
    refine (works_any _ hl2).mono ?_
    rintro e w3 ⟨rfl, hb3⟩
    go_wp2
    go_ret
    exact ⟨rfl, far hb1 hb2 hb3⟩
set_option maxHeartbeats 400000 in
theorem law_1_5 (w : World) (h : Laid w) :
    Calls Tryz.prog 3 #[.int .i64 1, .int .i64 5] w fun e w' => e = .returned (.bool true) ∧ Below w.heap.size w w' := by
  have A := nmc 1 [108, 111, 115, 116] rfl
  have B := nmc 5 [114, 111, 119, 101, 100] rfl
  go_enter Tryz.func3, Tryz.ntmps3
  go_wp2_with fail
  refine (A _ h).mono ?_
  rintro e w1 ⟨rfl, hb1, hl1⟩
  go_wp2_with fail
  refine (B _ hl1).mono ?_
  rintro e w2 ⟨rfl, hb2, hl2⟩
  go_wp2_with fail
  all_goals
    refine (works_any _ hl2).mono ?_
    rintro e w3 ⟨rfl, hb3⟩
    go_wp2
    go_ret
    exact ⟨rfl, far hb1 hb2 hb3⟩
set_option maxHeartbeats 400000 in
theorem law_2_0 (b : Int) (w : World) (h : Laid w) (hb : nm b = []) :
    Calls Tryz.prog 3 #[.int .i64 2, .int .i64 b] w fun e w' => e = .returned (.bool true) ∧ Below w.heap.size w w' := by
  have A := nmc 2 [115, 116, 114, 97, 121] rfl
  have B := nmc b [] hb
  clear hb
  go_enter Tryz.func3, Tryz.ntmps3
  go_wp2_with fail
  refine (A _ h).mono ?_
  rintro e w1 ⟨rfl, hb1, hl1⟩
  go_wp2_with fail
  refine (B _ hl1).mono ?_
  rintro e w2 ⟨rfl, hb2, hl2⟩
  go_wp2_with fail
  all_goals
    refine (works_any _ hl2).mono ?_
    rintro e w3 ⟨rfl, hb3⟩
    go_wp2
    go_ret
    exact ⟨rfl, far hb1 hb2 hb3⟩
set_option maxHeartbeats 400000 in
theorem law_2_1 (w : World) (h : Laid w) :
    Calls Tryz.prog 3 #[.int .i64 2, .int .i64 1] w fun e w' => e = .returned (.bool true) ∧ Below w.heap.size w w' := by
  have A := nmc 2 [115, 116, 114, 97, 121] rfl
  have B := nmc 1 [108, 111, 115, 116] rfl
  go_enter Tryz.func3, Tryz.ntmps3
  go_wp2_with fail
  refine (A _ h).mono ?_
  rintro e w1 ⟨rfl, hb1, hl1⟩
  go_wp2_with fail
  refine (B _ hl1).mono ?_
  rintro e w2 ⟨rfl, hb2, hl2⟩
  go_wp2_with fail
  all_goals
    refine (works_any _ hl2).mono ?_
    rintro e w3 ⟨rfl, hb3⟩
    go_wp2
    go_ret
    exact ⟨rfl, far hb1 hb2 hb3⟩
set_option maxHeartbeats 400000 in
theorem law_2_2 (w : World) (h : Laid w) :
    Calls Tryz.prog 3 #[.int .i64 2, .int .i64 2] w fun e w' => e = .returned (.bool true) ∧ Below w.heap.size w w' := by
  have A := nmc 2 [115, 116, 114, 97, 121] rfl
  have B := nmc 2 [115, 116, 114, 97, 121] rfl
  go_enter Tryz.func3, Tryz.ntmps3
  go_wp2_with fail
  refine (A _ h).mono ?_
  rintro e w1 ⟨rfl, hb1, hl1⟩
  go_wp2_with fail
  refine (B _ hl1).mono ?_
  rintro e w2 ⟨rfl, hb2, hl2⟩
  go_wp2_with fail
  all_goals
    refine (works_any _ hl2).mono ?_
    rintro e w3 ⟨rfl, hb3⟩
    go_wp2
    go_ret
    exact ⟨rfl, far hb1 hb2 hb3⟩
set_option maxHeartbeats 400000 in
theorem law_2_3 (w : World) (h : Laid w) :
    Calls Tryz.prog 3 #[.int .i64 2, .int .i64 3] w fun e w' => e = .returned (.bool true) ∧ Below w.heap.size w w' := by
  have A := nmc 2 [115, 116, 114, 97, 121] rfl
  have B := nmc 3 [111, 114, 100, 101, 114] rfl
  go_enter Tryz.func3, Tryz.ntmps3
  go_wp2_with fail
  refine (A _ h).mono ?_
  rintro e w1 ⟨rfl, hb1, hl1⟩
  go_wp2_with fail
  refine (B _ hl1).mono ?_
  rintro e w2 ⟨rfl, hb2, hl2⟩
  go_wp2_with fail
  all_goals
    refine (works_any _ hl2).mono ?_
    rintro e w3 ⟨rfl, hb3⟩
    go_wp2
    go_ret
    exact ⟨rfl, far hb1 hb2 hb3⟩
set_option maxHeartbeats 400000 in
theorem law_2_4 (w : World) (h : Laid w) :
    Calls Tryz.prog 3 #[.int .i64 2, .int .i64 4] w fun e w' => e = .returned (.bool true) ∧ Below w.heap.size w w' := by
  have A := nmc 2 [115, 116, 114, 97, 121] rfl
  have B := nmc 4 [110, 97, 109, 101, 100] rfl
  go_enter Tryz.func3, Tryz.ntmps3
  go_wp2_with fail
  refine (A _ h).mono ?_
  rintro e w1 ⟨rfl, hb1, hl1⟩
  go_wp2_with fail
  refine (B _ hl1).mono ?_
  rintro e w2 ⟨rfl, hb2, hl2⟩
  go_wp2_with fail
  all_goals
    refine (works_any _ hl2).mono ?_
    rintro e w3 ⟨rfl, hb3⟩
    go_wp2
    go_ret
    exact ⟨rfl, far hb1 hb2 hb3⟩
set_option maxHeartbeats 400000 in
theorem law_2_5 (w : World) (h : Laid w) :
    Calls Tryz.prog 3 #[.int .i64 2, .int .i64 5] w fun e w' => e = .returned (.bool true) ∧ Below w.heap.size w w' := by
  have A := nmc 2 [115, 116, 114, 97, 121] rfl
  have B := nmc 5 [114, 111, 119, 101, 100] rfl
  go_enter Tryz.func3, Tryz.ntmps3
  go_wp2_with fail
  refine (A _ h).mono ?_
  rintro e w1 ⟨rfl, hb1, hl1⟩
  go_wp2_with fail
  refine (B _ hl1).mono ?_
  rintro e w2 ⟨rfl, hb2, hl2⟩
  go_wp2_with fail
  all_goals
    refine (works_any _ hl2).mono ?_
    rintro e w3 ⟨rfl, hb3⟩
    go_wp2
    go_ret
    exact ⟨rfl, far hb1 hb2 hb3⟩
set_option maxHeartbeats 400000 in
theorem law_3_0 (b : Int) (w : World) (h : Laid w) (hb : nm b = []) :
    Calls Tryz.prog 3 #[.int .i64 3, .int .i64 b] w fun e w' => e = .returned (.bool true) ∧ Below w.heap.size w w' := by
  have A := nmc 3 [111, 114, 100, 101, 114] rfl
  have B := nmc b [] hb
  clear hb
  go_enter Tryz.func3, Tryz.ntmps3
  go_wp2_with fail
  refine (A _ h).mono ?_
  rintro e w1 ⟨rfl, hb1, hl1⟩
  go_wp2_with fail
  refine (B _ hl1).mono ?_
  rintro e w2 ⟨rfl, hb2, hl2⟩
  go_wp2_with fail
  all_goals
    refine (works_any _ hl2).mono ?_
    rintro e w3 ⟨rfl, hb3⟩
    go_wp2
    go_ret
    exact ⟨rfl, far hb1 hb2 hb3⟩
set_option maxHeartbeats 400000 in
theorem law_3_1 (w : World) (h : Laid w) :
    Calls Tryz.prog 3 #[.int .i64 3, .int .i64 1] w fun e w' => e = .returned (.bool true) ∧ Below w.heap.size w w' := by
  have A := nmc 3 [111, 114, 100, 101, 114] rfl
  have B := nmc 1 [108, 111, 115, 116] rfl
  go_enter Tryz.func3, Tryz.ntmps3
  go_wp2_with fail
  refine (A _ h).mono ?_
  rintro e w1 ⟨rfl, hb1, hl1⟩
  go_wp2_with fail
  refine (B _ hl1).mono ?_
  rintro e w2 ⟨rfl, hb2, hl2⟩
  go_wp2_with fail
  all_goals
    refine (works_any _ hl2).mono ?_
    rintro e w3 ⟨rfl, hb3⟩
    go_wp2
    go_ret
    exact ⟨rfl, far hb1 hb2 hb3⟩
set_option maxHeartbeats 400000 in
theorem law_3_2 (w : World) (h : Laid w) :
    Calls Tryz.prog 3 #[.int .i64 3, .int .i64 2] w fun e w' => e = .returned (.bool true) ∧ Below w.heap.size w w' := by
  have A := nmc 3 [111, 114, 100, 101, 114] rfl
  have B := nmc 2 [115, 116, 114, 97, 121] rfl
  go_enter Tryz.func3, Tryz.ntmps3
  go_wp2_with fail
  refine (A _ h).mono ?_
  rintro e w1 ⟨rfl, hb1, hl1⟩
  go_wp2_with fail
  refine (B _ hl1).mono ?_
  rintro e w2 ⟨rfl, hb2, hl2⟩
  go_wp2_with fail
  all_goals
    refine (works_any _ hl2).mono ?_
    rintro e w3 ⟨rfl, hb3⟩
    go_wp2
    go_ret
    exact ⟨rfl, far hb1 hb2 hb3⟩
set_option maxHeartbeats 400000 in
theorem law_3_3 (w : World) (h : Laid w) :
    Calls Tryz.prog 3 #[.int .i64 3, .int .i64 3] w fun e w' => e = .returned (.bool true) ∧ Below w.heap.size w w' := by
  have A := nmc 3 [111, 114, 100, 101, 114] rfl
  have B := nmc 3 [111, 114, 100, 101, 114] rfl
  go_enter Tryz.func3, Tryz.ntmps3
  go_wp2_with fail
  refine (A _ h).mono ?_
  rintro e w1 ⟨rfl, hb1, hl1⟩
  go_wp2_with fail
  refine (B _ hl1).mono ?_
  rintro e w2 ⟨rfl, hb2, hl2⟩
  go_wp2_with fail
  all_goals
    refine (works_any _ hl2).mono ?_
    rintro e w3 ⟨rfl, hb3⟩
    go_wp2
    go_ret
    exact ⟨rfl, far hb1 hb2 hb3⟩
set_option maxHeartbeats 400000 in
theorem law_3_4 (w : World) (h : Laid w) :
    Calls Tryz.prog 3 #[.int .i64 3, .int .i64 4] w fun e w' => e = .returned (.bool true) ∧ Below w.heap.size w w' := by
  have A := nmc 3 [111, 114, 100, 101, 114] rfl
  have B := nmc 4 [110, 97, 109, 101, 100] rfl
  go_enter Tryz.func3, Tryz.ntmps3
  go_wp2_with fail
  refine (A _ h).mono ?_
  rintro e w1 ⟨rfl, hb1, hl1⟩
  go_wp2_with fail
  refine (B _ hl1).mono ?_
  rintro e w2 ⟨rfl, hb2, hl2⟩
  go_wp2_with fail
  all_goals
    refine (works_any _ hl2).mono ?_
    rintro e w3 ⟨rfl, hb3⟩
    go_wp2
    go_ret
    exact ⟨rfl, far hb1 hb2 hb3⟩
set_option maxHeartbeats 400000 in
theorem law_3_5 (w : World) (h : Laid w) :
    Calls Tryz.prog 3 #[.int .i64 3, .int .i64 5] w fun e w' => e = .returned (.bool true) ∧ Below w.heap.size w w' := by
  have A := nmc 3 [111, 114, 100, 101, 114] rfl
  have B := nmc 5 [114, 111, 119, 101, 100] rfl
  go_enter Tryz.func3, Tryz.ntmps3
  go_wp2_with fail
  refine (A _ h).mono ?_
  rintro e w1 ⟨rfl, hb1, hl1⟩
  go_wp2_with fail
  refine (B _ hl1).mono ?_
  rintro e w2 ⟨rfl, hb2, hl2⟩
  go_wp2_with fail
  all_goals
    refine (works_any _ hl2).mono ?_
    rintro e w3 ⟨rfl, hb3⟩
    go_wp2
    go_ret
    exact ⟨rfl, far hb1 hb2 hb3⟩
set_option maxHeartbeats 400000 in
theorem law_4_0 (b : Int) (w : World) (h : Laid w) (hb : nm b = []) :
    Calls Tryz.prog 3 #[.int .i64 4, .int .i64 b] w fun e w' => e = .returned (.bool true) ∧ Below w.heap.size w w' := by
  have A := nmc 4 [110, 97, 109, 101, 100] rfl
  have B := nmc b [] hb
  clear hb
  go_enter Tryz.func3, Tryz.ntmps3
  go_wp2_with fail
  refine (A _ h).mono ?_
  rintro e w1 ⟨rfl, hb1, hl1⟩
  go_wp2_with fail
  refine (B _ hl1).mono ?_
  rintro e w2 ⟨rfl, hb2, hl2⟩
  go_wp2_with fail
  all_goals
    refine (works_any _ hl2).mono ?_
    rintro e w3 ⟨rfl, hb3⟩
    go_wp2
    go_ret
    exact ⟨rfl, far hb1 hb2 hb3⟩
set_option maxHeartbeats 400000 in
theorem law_4_1 (w : World) (h : Laid w) :
    Calls Tryz.prog 3 #[.int .i64 4, .int .i64 1] w fun e w' => e = .returned (.bool true) ∧ Below w.heap.size w w' := by
  have A := nmc 4 [110, 97, 109, 101, 100] rfl
  have B := nmc 1 [108, 111, 115, 116] rfl
  go_enter Tryz.func3, Tryz.ntmps3
  go_wp2_with fail
  refine (A _ h).mono ?_
  rintro e w1 ⟨rfl, hb1, hl1⟩
  go_wp2_with fail
  refine (B _ hl1).mono ?_
  rintro e w2 ⟨rfl, hb2, hl2⟩
  go_wp2_with fail
  all_goals
    refine (works_any _ hl2).mono ?_
    rintro e w3 ⟨rfl, hb3⟩
    go_wp2
    go_ret
    exact ⟨rfl, far hb1 hb2 hb3⟩
set_option maxHeartbeats 400000 in
theorem law_4_2 (w : World) (h : Laid w) :
    Calls Tryz.prog 3 #[.int .i64 4, .int .i64 2] w fun e w' => e = .returned (.bool true) ∧ Below w.heap.size w w' := by
  have A := nmc 4 [110, 97, 109, 101, 100] rfl
  have B := nmc 2 [115, 116, 114, 97, 121] rfl
  go_enter Tryz.func3, Tryz.ntmps3
  go_wp2_with fail
  refine (A _ h).mono ?_
  rintro e w1 ⟨rfl, hb1, hl1⟩
  go_wp2_with fail
  refine (B _ hl1).mono ?_
  rintro e w2 ⟨rfl, hb2, hl2⟩
  go_wp2_with fail
  all_goals
    refine (works_any _ hl2).mono ?_
    rintro e w3 ⟨rfl, hb3⟩
    go_wp2
    go_ret
    exact ⟨rfl, far hb1 hb2 hb3⟩
set_option maxHeartbeats 400000 in
theorem law_4_3 (w : World) (h : Laid w) :
    Calls Tryz.prog 3 #[.int .i64 4, .int .i64 3] w fun e w' => e = .returned (.bool true) ∧ Below w.heap.size w w' := by
  have A := nmc 4 [110, 97, 109, 101, 100] rfl
  have B := nmc 3 [111, 114, 100, 101, 114] rfl
  go_enter Tryz.func3, Tryz.ntmps3
  go_wp2_with fail
  refine (A _ h).mono ?_
  rintro e w1 ⟨rfl, hb1, hl1⟩
  go_wp2_with fail
  refine (B _ hl1).mono ?_
  rintro e w2 ⟨rfl, hb2, hl2⟩
  go_wp2_with fail
  all_goals
    refine (works_any _ hl2).mono ?_
    rintro e w3 ⟨rfl, hb3⟩
    go_wp2
    go_ret
    exact ⟨rfl, far hb1 hb2 hb3⟩
set_option maxHeartbeats 400000 in
theorem law_4_4 (w : World) (h : Laid w) :
    Calls Tryz.prog 3 #[.int .i64 4, .int .i64 4] w fun e w' => e = .returned (.bool true) ∧ Below w.heap.size w w' := by
  have A := nmc 4 [110, 97, 109, 101, 100] rfl
  have B := nmc 4 [110, 97, 109, 101, 100] rfl
  go_enter Tryz.func3, Tryz.ntmps3
  go_wp2_with fail
  refine (A _ h).mono ?_
  rintro e w1 ⟨rfl, hb1, hl1⟩
  go_wp2_with fail
  refine (B _ hl1).mono ?_
  rintro e w2 ⟨rfl, hb2, hl2⟩
  go_wp2_with fail
  all_goals
    refine (works_any _ hl2).mono ?_
    rintro e w3 ⟨rfl, hb3⟩
    go_wp2
    go_ret
    exact ⟨rfl, far hb1 hb2 hb3⟩
set_option maxHeartbeats 400000 in
theorem law_4_5 (w : World) (h : Laid w) :
    Calls Tryz.prog 3 #[.int .i64 4, .int .i64 5] w fun e w' => e = .returned (.bool true) ∧ Below w.heap.size w w' := by
  have A := nmc 4 [110, 97, 109, 101, 100] rfl
  have B := nmc 5 [114, 111, 119, 101, 100] rfl
  go_enter Tryz.func3, Tryz.ntmps3
  go_wp2_with fail
  refine (A _ h).mono ?_
  rintro e w1 ⟨rfl, hb1, hl1⟩
  go_wp2_with fail
  refine (B _ hl1).mono ?_
  rintro e w2 ⟨rfl, hb2, hl2⟩
  go_wp2_with fail
  all_goals
    refine (works_any _ hl2).mono ?_
    rintro e w3 ⟨rfl, hb3⟩
    go_wp2
    go_ret
    exact ⟨rfl, far hb1 hb2 hb3⟩
set_option maxHeartbeats 400000 in
theorem law_5_0 (b : Int) (w : World) (h : Laid w) (hb : nm b = []) :
    Calls Tryz.prog 3 #[.int .i64 5, .int .i64 b] w fun e w' => e = .returned (.bool true) ∧ Below w.heap.size w w' := by
  have A := nmc 5 [114, 111, 119, 101, 100] rfl
  have B := nmc b [] hb
  clear hb
  go_enter Tryz.func3, Tryz.ntmps3
  go_wp2_with fail
  refine (A _ h).mono ?_
  rintro e w1 ⟨rfl, hb1, hl1⟩
  go_wp2_with fail
  refine (B _ hl1).mono ?_
  rintro e w2 ⟨rfl, hb2, hl2⟩
  go_wp2_with fail
  all_goals
    refine (works_any _ hl2).mono ?_
    rintro e w3 ⟨rfl, hb3⟩
    go_wp2
    go_ret
    exact ⟨rfl, far hb1 hb2 hb3⟩
set_option maxHeartbeats 400000 in
theorem law_5_1 (w : World) (h : Laid w) :
    Calls Tryz.prog 3 #[.int .i64 5, .int .i64 1] w fun e w' => e = .returned (.bool true) ∧ Below w.heap.size w w' := by
  have A := nmc 5 [114, 111, 119, 101, 100] rfl
  have B := nmc 1 [108, 111, 115, 116] rfl
  go_enter Tryz.func3, Tryz.ntmps3
  go_wp2_with fail
  refine (A _ h).mono ?_
  rintro e w1 ⟨rfl, hb1, hl1⟩
  go_wp2_with fail
  refine (B _ hl1).mono ?_
  rintro e w2 ⟨rfl, hb2, hl2⟩
  go_wp2_with fail
  all_goals
    refine (works_any _ hl2).mono ?_
    rintro e w3 ⟨rfl, hb3⟩
    go_wp2
    go_ret
    exact ⟨rfl, far hb1 hb2 hb3⟩
set_option maxHeartbeats 400000 in
theorem law_5_2 (w : World) (h : Laid w) :
    Calls Tryz.prog 3 #[.int .i64 5, .int .i64 2] w fun e w' => e = .returned (.bool true) ∧ Below w.heap.size w w' := by
  have A := nmc 5 [114, 111, 119, 101, 100] rfl
  have B := nmc 2 [115, 116, 114, 97, 121] rfl
  go_enter Tryz.func3, Tryz.ntmps3
  go_wp2_with fail
  refine (A _ h).mono ?_
  rintro e w1 ⟨rfl, hb1, hl1⟩
  go_wp2_with fail
  refine (B _ hl1).mono ?_
  rintro e w2 ⟨rfl, hb2, hl2⟩
  go_wp2_with fail
  all_goals
    refine (works_any _ hl2).mono ?_
    rintro e w3 ⟨rfl, hb3⟩
    go_wp2
    go_ret
    exact ⟨rfl, far hb1 hb2 hb3⟩
set_option maxHeartbeats 400000 in
theorem law_5_3 (w : World) (h : Laid w) :
    Calls Tryz.prog 3 #[.int .i64 5, .int .i64 3] w fun e w' => e = .returned (.bool true) ∧ Below w.heap.size w w' := by
  have A := nmc 5 [114, 111, 119, 101, 100] rfl
  have B := nmc 3 [111, 114, 100, 101, 114] rfl
  go_enter Tryz.func3, Tryz.ntmps3
  go_wp2_with fail
  refine (A _ h).mono ?_
  rintro e w1 ⟨rfl, hb1, hl1⟩
  go_wp2_with fail
  refine (B _ hl1).mono ?_
  rintro e w2 ⟨rfl, hb2, hl2⟩
  go_wp2_with fail
  all_goals
    refine (works_any _ hl2).mono ?_
    rintro e w3 ⟨rfl, hb3⟩
    go_wp2
    go_ret
    exact ⟨rfl, far hb1 hb2 hb3⟩
set_option maxHeartbeats 400000 in
theorem law_5_4 (w : World) (h : Laid w) :
    Calls Tryz.prog 3 #[.int .i64 5, .int .i64 4] w fun e w' => e = .returned (.bool true) ∧ Below w.heap.size w w' := by
  have A := nmc 5 [114, 111, 119, 101, 100] rfl
  have B := nmc 4 [110, 97, 109, 101, 100] rfl
  go_enter Tryz.func3, Tryz.ntmps3
  go_wp2_with fail
  refine (A _ h).mono ?_
  rintro e w1 ⟨rfl, hb1, hl1⟩
  go_wp2_with fail
  refine (B _ hl1).mono ?_
  rintro e w2 ⟨rfl, hb2, hl2⟩
  go_wp2_with fail
  all_goals
    refine (works_any _ hl2).mono ?_
    rintro e w3 ⟨rfl, hb3⟩
    go_wp2
    go_ret
    exact ⟨rfl, far hb1 hb2 hb3⟩
set_option maxHeartbeats 400000 in
theorem law_5_5 (w : World) (h : Laid w) :
    Calls Tryz.prog 3 #[.int .i64 5, .int .i64 5] w fun e w' => e = .returned (.bool true) ∧ Below w.heap.size w w' := by
  have A := nmc 5 [114, 111, 119, 101, 100] rfl
  have B := nmc 5 [114, 111, 119, 101, 100] rfl
  go_enter Tryz.func3, Tryz.ntmps3
  go_wp2_with fail
  refine (A _ h).mono ?_
  rintro e w1 ⟨rfl, hb1, hl1⟩
  go_wp2_with fail
  refine (B _ hl1).mono ?_
  rintro e w2 ⟨rfl, hb2, hl2⟩
  go_wp2_with fail
  all_goals
    refine (works_any _ hl2).mono ?_
    rintro e w3 ⟨rfl, hb3⟩
    go_wp2
    go_ret
    exact ⟨rfl, far hb1 hb2 hb3⟩
theorem law_any (a b : Int) (w : World) (h : Laid w) : Calls Tryz.prog 3 #[.int .i64 a, .int .i64 b] w fun e w' => e = .returned (.bool true) ∧ Below w.heap.size w w' := by
  have hb : nm b = [] ∨ b = 1 ∨ b = 2 ∨ b = 3 ∨ b = 4 ∨ b = 5 := by
    by_cases hb : b < 1 ∨ 5 < b
    · exact .inl (nm_out b hb)
    · omega
  have ha : a < 1 ∨ 5 < a ∨ a = 1 ∨ a = 2 ∨ a = 3 ∨ a = 4 ∨ a = 5 := by omega
  rcases ha with ha | ha | rfl | rfl | rfl | rfl | rfl
  · rcases hb with hb | rfl | rfl | rfl | rfl | rfl
    · exact law_lo_0 a b w h (nm_out a (.inl ha)) (by simp; omega) hb
    · exact law_lo_1 a w h (nm_out a (.inl ha)) (by simp; omega)
    · exact law_lo_2 a w h (nm_out a (.inl ha)) (by simp; omega)
    · exact law_lo_3 a w h (nm_out a (.inl ha)) (by simp; omega)
    · exact law_lo_4 a w h (nm_out a (.inl ha)) (by simp; omega)
    · exact law_lo_5 a w h (nm_out a (.inl ha)) (by simp; omega)
  · rcases hb with hb | rfl | rfl | rfl | rfl | rfl
    · exact law_hi_0 a b w h (nm_out a (.inr ha)) (by simp; omega) (by simp; omega) hb
    · exact law_hi_1 a w h (nm_out a (.inr ha)) (by simp; omega) (by simp; omega)
    · exact law_hi_2 a w h (nm_out a (.inr ha)) (by simp; omega) (by simp; omega)
    · exact law_hi_3 a w h (nm_out a (.inr ha)) (by simp; omega) (by simp; omega)
    · exact law_hi_4 a w h (nm_out a (.inr ha)) (by simp; omega) (by simp; omega)
    · exact law_hi_5 a w h (nm_out a (.inr ha)) (by simp; omega) (by simp; omega)
  · rcases hb with hb | rfl | rfl | rfl | rfl | rfl
    · exact law_1_0 b w h hb
    · exact law_1_1 w h
    · exact law_1_2 w h
    · exact law_1_3 w h
    · exact law_1_4 w h
    · exact law_1_5 w h
  · rcases hb with hb | rfl | rfl | rfl | rfl | rfl
    · exact law_2_0 b w h hb
    · exact law_2_1 w h
    · exact law_2_2 w h
    · exact law_2_3 w h
    · exact law_2_4 w h
    · exact law_2_5 w h
  · rcases hb with hb | rfl | rfl | rfl | rfl | rfl
    · exact law_3_0 b w h hb
    · exact law_3_1 w h
    · exact law_3_2 w h
    · exact law_3_3 w h
    · exact law_3_4 w h
    · exact law_3_5 w h
  · rcases hb with hb | rfl | rfl | rfl | rfl | rfl
    · exact law_4_0 b w h hb
    · exact law_4_1 w h
    · exact law_4_2 w h
    · exact law_4_3 w h
    · exact law_4_4 w h
    · exact law_4_5 w h
  · rcases hb with hb | rfl | rfl | rfl | rfl | rfl
    · exact law_5_0 b w h hb
    · exact law_5_1 w h
    · exact law_5_2 w h
    · exact law_5_3 w h
    · exact law_5_4 w h
    · exact law_5_5 w h
end Go.Proofs.YtfjejpbjkjlooaaGreatDoor
