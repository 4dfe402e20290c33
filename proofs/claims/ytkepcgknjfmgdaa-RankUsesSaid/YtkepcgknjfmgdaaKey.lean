/-
  Entries: what Weight, Key, before, Ahead and the closure of Sort tell of them. No condition.
-/
import Derived.Test.YtkepcgknjfmgdaaK0
set_option linter.unusedVariables false
set_option linter.unusedSimpArgs false
namespace Go.Proofs.Rk
open Go.Shelf Go.RowKit Go.Lib Go.Sort Go.Rk

structure En where
  kind : Int
  id : Int
  name : ByteArray
  lit : Bool
  clean : Bool
  uses : Int
  deriving DecidableEq
instance : Inhabited En := ⟨⟨0, 0, ByteArray.empty, false, false, 0⟩⟩
def encE (e : En) : List Value := [.int .i64 e.kind, .int .i64 e.id, .string e.name, .bool e.lit, .bool e.clean, .int .i64 e.uses]

theorem ret_int {k : IntKind} {a b : Int} (h : a = b) : Ending.returned (.int k a) = .returned (.int k b) := by rw [h]
def weight (e : En) : Int := 16 * max 0 (min e.uses 1048576) + (if e.clean then 8 else 0) + (if e.kind = 1 then 4 else 0) + (if e.lit then 2 else 0) + (if e.kind = 2 then 1 else 0)

set_option maxHeartbeats 4000000 in
theorem weight_calls (e : En) (w : World) : Calls Try.prog 16 #[.agg (encE e).toArray] w fun r w' => r = .returned (.int .i64 (weight e)) ∧ ∃ os, w' = grow w os := by
  obtain ⟨kind, id, name, lit, clean, uses⟩ := e
  obtain ⟨u, hu⟩ : ∃ u, u = max 0 (min uses 1048576) := ⟨_, rfl⟩
  have hu1 : 0 ≤ u := by omega
  have hu2 : u ≤ 1048576 := by omega
  show Calls Try.prog 16 #[.agg #[.int .i64 kind, .int .i64 id, .string name, .bool lit, .bool clean, .int .i64 uses]] w _
  go_enter Try.func16, Try.ntmps16
  go_wp2
  all_goals go_ret
  all_goals refine ⟨ret_int ?_, _, alloc_eq_grow _ _⟩
  all_goals simp_all [weight]
  all_goals omega

theorem weight_bd (e : En) : 0 ≤ weight e ∧ weight e < 16777300 := by
  unfold weight
  repeat' split
  all_goals omega

def second (e : En) : Int := 4 * max 0 (min e.id 1048576) + max 0 (min e.kind 3)
theorem second_bd (e : En) : 0 ≤ second e ∧ second e < 16777300 := by
  unfold second
  omega
def keyV (e : En) : Value := .complex .f64 (fl (weight e)) (fl (second e))

set_option maxHeartbeats 4000000 in
theorem key_calls (e : En) (w : World) : Calls Try.prog 18 #[.agg (encE e).toArray] w fun r w' => r = .returned (keyV e) ∧ ∃ os, w' = grow w os := by
  have hw := weight_calls e
  have hb := weight_bd e
  obtain ⟨hb1, hb2⟩ := hb
  have hs := second_bd e
  obtain ⟨hs1, hs2⟩ := hs
  obtain ⟨wt, hwt⟩ : ∃ wt, wt = weight e := ⟨_, rfl⟩
  have HK : Hid (keyV e = .complex .f64 (fl wt) (fl (second e))) := by rw [hwt]; rfl
  rw [← hwt] at hw hb1 hb2
  have HW : Aside _ := hw
  clear hw hwt
  obtain ⟨V, hV⟩ : ∃ V, V = keyV e := ⟨_, rfl⟩
  rw [← hV] at HK ⊢
  clear hV
  obtain ⟨s, hs⟩ : ∃ s, s = second e := ⟨_, rfl⟩
  have HS : Hid _ := hs
  rw [← hs] at HK hs1 hs2
  clear hs
  obtain ⟨kind, id, name, lit, clean, uses⟩ := e
  replace HS : Hid (s = 4 * max 0 (min id 1048576) + max 0 (min kind 3)) := HS.out
  show Calls Try.prog 18 #[.agg #[.int .i64 kind, .int .i64 id, .string name, .bool lit, .bool clean, .int .i64 uses]] w _
  replace HW : Aside (∀ (w : World), Calls Try.prog 16 #[.agg #[.int .i64 kind, .int .i64 id, .string name, .bool lit, .bool clean, .int .i64 uses]] w fun r w' => r = .returned (.int .i64 wt) ∧ ∃ os, w' = grow w os) := HW.out
  obtain ⟨u, hu⟩ : ∃ u, u = max 0 (min id 1048576) := ⟨_, rfl⟩
  have hu1 : 0 ≤ u := by omega
  have hu2 : u ≤ 1048576 := by omega
  obtain ⟨u3, hu3⟩ : ∃ u, u = max 0 (min kind 3) := ⟨_, rfl⟩
  have hu4 : 0 ≤ u3 := by omega
  have hu5 : u3 ≤ 3 := by omega
  rw [← hu, ← hu3] at HS
  replace hu := hu.symm
  replace hu3 := hu3.symm
  have hconv := conv
  have hcp := cplx
  go_enter Try.func18, Try.ntmps18
  go_wp2_with (go_at_call 16; refine (HW.out _).mono ?_; rintro ee w1 ⟨rfl, os, rfl⟩)
  go_ret
  refine ⟨?_, ?_⟩
  · rw [HK.out, HS.out]; rfl
  · exact ⟨_, by rw [alloc_eq_grow, grow_grow]⟩

/-- who stands ahead. -/
def ahead (x y : En) : Bool := decide (weight y < weight x) || (decide (weight x = weight y) && decide (second x < second y))

set_option maxHeartbeats 4000000 in
theorem before_calls (x y : En) (w : World) : Calls Try.prog 22 #[keyV x, keyV y] w fun r w' => r = .returned (.bool (ahead x y)) ∧ w' = w := by
  obtain ⟨wx1, wx2⟩ := weight_bd x
  obtain ⟨wy1, wy2⟩ := weight_bd y
  obtain ⟨sx1, sx2⟩ := second_bd x
  obtain ⟨sy1, sy2⟩ := second_bd y
  unfold keyV ahead
  generalize weight x = a at *
  generalize weight y = b at *
  generalize second x = c at *
  generalize second y = d at *
  have h1 := fneq a b wx1 wy1 wx2 wy2
  have h2 := fgtr a b wx1 wy1 wx2 wy2
  have h3 := flss c d sx1 sy1 sx2 sy2
  have h4 := realp
  have h5 := imagp
  by_cases hab : a = b
  · have e1 : decide (a ≠ b) = false := by simpa using hab
    have e2 : (decide (b < a) || (decide (a = b) && decide (c < d))) = decide (c < d) := by subst hab; simp
    rw [e1] at h1
    rw [e2]
    clear e1 e2 hab
    go_enter Try.func22, Try.ntmps22
    go_wp2
    go_ret
    exact ⟨rfl, rfl⟩
  · have e1 : decide (a ≠ b) = true := by simpa using hab
    have e2 : (decide (b < a) || (decide (a = b) && decide (c < d))) = decide (b < a) := by simp [hab]
    rw [e1] at h1
    rw [e2]
    clear e1 e2 hab
    go_enter Try.func22, Try.ntmps22
    go_wp2
    go_ret
    exact ⟨rfl, rfl⟩
end Go.Proofs.Rk
