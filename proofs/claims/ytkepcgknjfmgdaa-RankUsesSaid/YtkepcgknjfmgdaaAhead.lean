/-
  Ahead, and the closure of Sort: what they tell. No condition.
-/
import Derived.Test.YtkepcgknjfmgdaaKey
import Derived.Lib.Hide
import Derived.Deep.CutRange
set_option linter.unusedVariables false
set_option linter.unusedSimpArgs false
namespace Go.Proofs.Rk
open Go.Shelf Go.RowKit Go.Lib Go.Sort Go.Rk

theorem key_grown (x : En) (w : World) (n : Nat) (os : Array Obj) : Calls Try.prog 18 #[.agg #[.int .i64 x.kind, .int .i64 x.id, .string x.name, .bool x.lit, .bool x.clean, .int .i64 x.uses]] (grow (w.drewN n) os) fun e w' => e = .returned (keyV x) ∧ ∃ q os', w' = grow ((grow (w.drewN n) os).drewN q) os' :=
  (key_calls x _).mono fun _ _ ⟨he, os', hq⟩ => ⟨he, 0, os', hq⟩
theorem before_grown (x y : En) (w : World) (n : Nat) (os : Array Obj) : Calls Try.prog 22 #[keyV x, keyV y] (grow (w.drewN n) os) fun e w' => e = .returned (.bool (ahead x y)) ∧ ∃ q os', w' = grow ((grow (w.drewN n) os).drewN q) os' :=
  (before_calls x y _).mono fun _ _ ⟨he, hq⟩ => ⟨he, 0, #[], by rw [hq, grow_empty]; rfl⟩

theorem grow_drew_grow (w : World) (q n : Nat) (a b : Array Obj) : grow ((grow (w.drewN q) a).drewN n) b = grow (w.drewN (q + n)) (a ++ b) := by
  show grow (grow ((w.drewN q).drewN n) a) b = _
  rw [grow_grow, World.drewN_drewN]

/-- a block of six cells, that stays. -/
def Box (W : World) (b : Nat) (x : En) : Prop := b < W.heap.size ∧ ∀ j, W.cell? ⟨b, j, none⟩ = (encE x).toArray[j]?
theorem Box.grown {W : World} {b : Nat} {x : En} (h : Box W b x) (n : Nat) (os : Array Obj) (j : Nat) : (grow (W.drewN n) os).cell? ⟨b, j, none⟩ = (encE x).toArray[j]? := by
  rw [cell?_grow _ _ _ (by exact h.1)]
  exact h.2 j
theorem Box.new (W : World) (x : En) (t : TypeId) : Box (W.alloc (.cells (encE x).toArray t)) W.heap.size x := by
  refine ⟨by simp, fun j => ?_⟩
  simp
theorem Box.next {W : World} {b : Nat} {x : En} (h : Box W b x) (os : Array Obj) : Box (grow W os) b x := by
  refine ⟨by rw [size_grow]; have := h.1; omega, fun j => ?_⟩
  exact h.grown 0 os j

set_option maxHeartbeats 4000000 in
theorem ahead_calls (x y : En) (w : World) : Calls Try.prog 7 #[.agg (encE x).toArray, .agg (encE y).toArray] w fun r w' => r = .returned (.bool (ahead x y)) ∧ ∃ q os, w' = grow (w.drewN q) os := by
  have mixed := Try.lays39.mixed
  obtain ⟨cx, hcx⟩ : ∃ c, c = (encE x).toArray := ⟨_, rfl⟩
  obtain ⟨cy, hcy⟩ : ∃ c, c = (encE y).toArray := ⟨_, rfl⟩
  obtain ⟨B, hB⟩ : ∃ c, c = ahead x y := ⟨_, rfl⟩
  have bx : Box ((w.alloc (.cells cx 26)).alloc (.cells cy 26)) w.heap.size x := by
    rw [hcx, alloc_eq_grow _ (.cells cy 26)]
    exact (Box.new w x 26).next _
  have bY : Box ((w.alloc (.cells cx 26)).alloc (.cells cy 26)) (w.heap.size + 1) y := by
    have := Box.new (w.alloc (.cells cx 26)) y 26
    rw [hcy]
    simpa using this
  rw [← hcx, ← hcy, ← hB]
  have HB : Hid _ := hB
  have HW : Hid (∃ q os, (w.alloc (.cells cx 26)).alloc (.cells cy 26) = grow (w.drewN q) os) := ⟨0, _, by rw [alloc_eq_grow, alloc_eq_grow, grow_grow]; rfl⟩
  clear hcx hcy hB
  have HBX := Lib.hid bx
  have HBY := Lib.hid bY
  clear bx bY
  go_enter Try.func7, Try.ntmps7
  go_wp2_with fail
  generalize (w.alloc (.cells cx 26)).alloc (.cells cy 26) = W at HW HBX HBY ⊢
  have x0 := fun n os => HBX.out.grown n os 0
  have x1 := fun n os => HBX.out.grown n os 1
  have x2 := fun n os => HBX.out.grown n os 2
  have x3 := fun n os => HBX.out.grown n os 3
  have x4 := fun n os => HBX.out.grown n os 4
  have x5 := fun n os => HBX.out.grown n os 5
  have y0 := fun n os => HBY.out.grown n os 0
  have y1 := fun n os => HBY.out.grown n os 1
  have y2 := fun n os => HBY.out.grown n os 2
  have y3 := fun n os => HBY.out.grown n os 3
  have y4 := fun n os => HBY.out.grown n os 4
  have y5 := fun n os => HBY.out.grown n os 5
  simp only [encE, List.getElem?_toArray, List.getElem?_cons_zero, List.getElem?_cons_succ] at x0 x1 x2 x3 x4 x5 y0 y1 y2 y3 y4 y5
  go_quiet_grown (first | (go_at_call_of 18 (Value.agg #[.int .i64 x.kind, .int .i64 x.id, .string x.name, .bool x.lit, .bool x.clean, .int .i64 x.uses]); refine Calls.grown_of (key_grown x _ _ _)) | (go_at_call 18; refine Calls.grown_of (key_grown y _ _ _)) | (go_at_call 22; refine Calls.grown_of (before_grown x y _ _ _)))
  go_wp2_with fail
  go_ret
  refine ⟨by rw [HB.out]; rfl, ?_⟩
  obtain ⟨q, os, hq⟩ := HW.out
  rw [hq]
  exact ⟨_, _, grow_drew_grow _ _ _ _ _⟩

def cfE (x y : En) : Int := if ahead x y then -1 else if ahead y x then 1 else 0

set_option maxHeartbeats 4000000 in
theorem cmp_calls (x y : En) (w : World) : Calls Try.prog 21 #[.agg (encE x).toArray, .agg (encE y).toArray] w fun r w' => r = .returned (.int .i64 (cfE x y)) ∧ ∃ q os, w' = grow (w.drewN q) os := by
  have mixed := Try.lays39.mixed
  have hxy := ahead_calls x y
  have hyx := ahead_calls y x
  obtain ⟨cx, hcx⟩ : ∃ c, c = (encE x).toArray := ⟨_, rfl⟩
  obtain ⟨cy, hcy⟩ : ∃ c, c = (encE y).toArray := ⟨_, rfl⟩
  have hsx : cx = #[.int .i64 x.kind, .int .i64 x.id, .string x.name, .bool x.lit, .bool x.clean, .int .i64 x.uses] := hcx
  have hsy : cy = #[.int .i64 y.kind, .int .i64 y.id, .string y.name, .bool y.lit, .bool y.clean, .int .i64 y.uses] := hcy
  obtain ⟨B, hB⟩ : ∃ c, c = cfE x y := ⟨_, rfl⟩
  have bx : Box ((w.alloc (.cells cx 26)).alloc (.cells cy 26)) w.heap.size x := by
    rw [hcx, alloc_eq_grow _ (.cells cy 26)]
    exact (Box.new w x 26).next _
  have bY : Box ((w.alloc (.cells cx 26)).alloc (.cells cy 26)) (w.heap.size + 1) y := by
    have := Box.new (w.alloc (.cells cx 26)) y 26
    rw [hcy]
    simpa using this
  rw [← hcx, ← hcy] at hxy hyx
  rw [← hcx, ← hcy, ← hB]
  have hW : Hid (∃ q os, (w.alloc (.cells cx 26)).alloc (.cells cy 26) = grow (w.drewN q) os) := ⟨0, _, by rw [alloc_eq_grow, alloc_eq_grow, grow_grow]; rfl⟩
  rw [hsx, hsy] at hxy hyx
  clear hcx hcy
  have HSX : Hid _ := hsx
  have HSY : Hid _ := hsy
  have HBX := Lib.hid bx
  have HBY := Lib.hid bY
  clear bx bY hsx hsy
  have HXY : Aside _ := hxy
  have HYX : Aside _ := hyx
  have HB : Hid _ := hB
  clear hxy hyx hB
  have HP : Hid (B = if ahead x y then -1 else if ahead y x then 1 else 0) := HB.out
  cases hv1 : ahead x y with
  | true =>
    rw [hv1] at HP
    rw [hv1] at HXY
    go_enter Try.func21, Try.ntmps21
    go_upto_region 1 with fail
    generalize (w.alloc (.cells cx 26)).alloc (.cells cy 26) = W at hW HBX HBY ⊢
    have x0 := fun n os => HBX.out.grown n os 0
    have xw0 := HBX.out.2 0
    have x1 := fun n os => HBX.out.grown n os 1
    have xw1 := HBX.out.2 1
    have x2 := fun n os => HBX.out.grown n os 2
    have xw2 := HBX.out.2 2
    have x3 := fun n os => HBX.out.grown n os 3
    have xw3 := HBX.out.2 3
    have x4 := fun n os => HBX.out.grown n os 4
    have xw4 := HBX.out.2 4
    have x5 := fun n os => HBX.out.grown n os 5
    have xw5 := HBX.out.2 5
    have y0 := fun n os => HBY.out.grown n os 0
    have yw0 := HBY.out.2 0
    have y1 := fun n os => HBY.out.grown n os 1
    have yw1 := HBY.out.2 1
    have y2 := fun n os => HBY.out.grown n os 2
    have yw2 := HBY.out.2 2
    have y3 := fun n os => HBY.out.grown n os 3
    have yw3 := HBY.out.2 3
    have y4 := fun n os => HBY.out.grown n os 4
    have yw4 := HBY.out.2 4
    have y5 := fun n os => HBY.out.grown n os 5
    have yw5 := HBY.out.2 5
    simp only [encE, List.getElem?_toArray, List.getElem?_cons_zero, List.getElem?_cons_succ] at x0 xw0 x1 xw1 x2 xw2 x3 xw3 x4 xw4 x5 xw5 y0 yw0 y1 yw1 y2 yw2 y3 yw3 y4 yw4 y5 yw5
    go_wp2_with (go_at_call 7; refine (HXY.out _).mono ?_; rintro ee w1 ⟨rfl, q, os, rfl⟩)
    go_ret
    refine ⟨by rw [HP.out]; rfl, ?_⟩
    obtain ⟨q1, os1, hq⟩ := hW.out
    rw [hq]
    exact ⟨_, _, grow_drew_grow _ _ _ _ _⟩
  | false =>
    rw [hv1] at HP
    rw [hv1] at HXY
    cases hv2 : ahead y x with
    | true =>
      rw [hv2] at HP
      rw [hv2] at HYX
      go_enter Try.func21, Try.ntmps21
      go_upto_region 1 with fail
      generalize (w.alloc (.cells cx 26)).alloc (.cells cy 26) = W at hW HBX HBY ⊢
      have x0 := fun n os => HBX.out.grown n os 0
      have xw0 := HBX.out.2 0
      have x1 := fun n os => HBX.out.grown n os 1
      have xw1 := HBX.out.2 1
      have x2 := fun n os => HBX.out.grown n os 2
      have xw2 := HBX.out.2 2
      have x3 := fun n os => HBX.out.grown n os 3
      have xw3 := HBX.out.2 3
      have x4 := fun n os => HBX.out.grown n os 4
      have xw4 := HBX.out.2 4
      have x5 := fun n os => HBX.out.grown n os 5
      have xw5 := HBX.out.2 5
      have y0 := fun n os => HBY.out.grown n os 0
      have yw0 := HBY.out.2 0
      have y1 := fun n os => HBY.out.grown n os 1
      have yw1 := HBY.out.2 1
      have y2 := fun n os => HBY.out.grown n os 2
      have yw2 := HBY.out.2 2
      have y3 := fun n os => HBY.out.grown n os 3
      have yw3 := HBY.out.2 3
      have y4 := fun n os => HBY.out.grown n os 4
      have yw4 := HBY.out.2 4
      have y5 := fun n os => HBY.out.grown n os 5
      have yw5 := HBY.out.2 5
      simp only [encE, List.getElem?_toArray, List.getElem?_cons_zero, List.getElem?_cons_succ] at x0 xw0 x1 xw1 x2 xw2 x3 xw3 x4 xw4 x5 xw5 y0 yw0 y1 yw1 y2 yw2 y3 yw3 y4 yw4 y5 yw5
      go_wp2_with (first | (go_at_call_of 7 (Value.agg #[.int .i64 x.kind, .int .i64 x.id, .string x.name, .bool x.lit, .bool x.clean, .int .i64 x.uses]); refine (HXY.out _).mono ?_; rintro ee w1 ⟨rfl, q, os, rfl⟩) | (go_at_call 7; refine (HYX.out _).mono ?_; rintro ee w1 ⟨rfl, q, os, rfl⟩))
      go_ret
      refine ⟨by rw [HP.out]; rfl, ?_⟩
      obtain ⟨q1, os1, hq⟩ := hW.out
      rw [hq, grow_drew_grow, grow_drew_grow]
      exact ⟨_, _, rfl⟩
    | false =>
      rw [hv2] at HP
      rw [hv2] at HYX
      go_enter Try.func21, Try.ntmps21
      go_upto_region 1 with fail
      generalize (w.alloc (.cells cx 26)).alloc (.cells cy 26) = W at hW HBX HBY ⊢
      have x0 := fun n os => HBX.out.grown n os 0
      have xw0 := HBX.out.2 0
      have x1 := fun n os => HBX.out.grown n os 1
      have xw1 := HBX.out.2 1
      have x2 := fun n os => HBX.out.grown n os 2
      have xw2 := HBX.out.2 2
      have x3 := fun n os => HBX.out.grown n os 3
      have xw3 := HBX.out.2 3
      have x4 := fun n os => HBX.out.grown n os 4
      have xw4 := HBX.out.2 4
      have x5 := fun n os => HBX.out.grown n os 5
      have xw5 := HBX.out.2 5
      have y0 := fun n os => HBY.out.grown n os 0
      have yw0 := HBY.out.2 0
      have y1 := fun n os => HBY.out.grown n os 1
      have yw1 := HBY.out.2 1
      have y2 := fun n os => HBY.out.grown n os 2
      have yw2 := HBY.out.2 2
      have y3 := fun n os => HBY.out.grown n os 3
      have yw3 := HBY.out.2 3
      have y4 := fun n os => HBY.out.grown n os 4
      have yw4 := HBY.out.2 4
      have y5 := fun n os => HBY.out.grown n os 5
      have yw5 := HBY.out.2 5
      simp only [encE, List.getElem?_toArray, List.getElem?_cons_zero, List.getElem?_cons_succ] at x0 xw0 x1 xw1 x2 xw2 x3 xw3 x4 xw4 x5 xw5 y0 yw0 y1 yw1 y2 yw2 y3 yw3 y4 yw4 y5 yw5
      go_wp2_with (first | (go_at_call_of 7 (Value.agg #[.int .i64 x.kind, .int .i64 x.id, .string x.name, .bool x.lit, .bool x.clean, .int .i64 x.uses]); refine (HXY.out _).mono ?_; rintro ee w1 ⟨rfl, q, os, rfl⟩) | (go_at_call 7; refine (HYX.out _).mono ?_; rintro ee w1 ⟨rfl, q, os, rfl⟩))
      go_ret
      refine ⟨by rw [HP.out]; rfl, ?_⟩
      obtain ⟨q1, os1, hq⟩ := hW.out
      rw [hq, grow_drew_grow, grow_drew_grow]
      exact ⟨_, _, rfl⟩
end Go.Proofs.Rk
