/-
  Maker.Open where it does what it is asked for. Condition: fewer than 2^20 nodes.
-/
import Derived.Test.YtkepcgknjfmgdaaLf
set_option linter.unusedVariables false
set_option linter.unusedSimpArgs false
namespace Go.Proofs.Ar
open Go.RowKit Go.Lib Go.Sort
variable {w w1 w2 : World} {base mb : Nat} {nv ov : Value} {ls : List (Nd × Value)} {op : List Nat} {tk : Nat}

set_option maxHeartbeats 8000000 in
set_option maxRecDepth 1000000 in
theorem open_some (h : Mk w base mb nv ov ls op tk) (hlo : ls.length = 0 ∨ 0 < op.length) (a : Int) (ha : 0 ≤ a) (hn : ls.length < 1048575) (hop : op.length < 1048576)
    (ls2 : List (Nd × Value) → Prop) (hl2 : ∀ l, ls2 l → l.length = ls.length + 1)
    (hadd : ∀ W nv ov, Mk W base mb nv ov ls op tk → Below base w W → Calls Try.prog 23 #[.pointer (some ⟨mb, 0, none⟩), aggN ⟨false, a, tk, 0, [], false⟩ (.slice none 0 0)] W fun e w' => e = .returned (.tuple #[]) ∧ ∃ l nv ov, ls2 l ∧ Mk w' base mb nv ov l op tk ∧ Below base W w') :
    Calls Try.prog 9 #[.pointer (some ⟨mb, 0, none⟩), .int .i64 a] w fun e w' => ret0 0 e ∧ ∃ l, ls2 l ∧ Leaves w base mb l (op ++ [ls.length]) tk w' := by
  obtain ⟨an, cn, rfl⟩ := h.nform
  obtain ⟨ao, co, rfl⟩ := h.oform
  have m0 := h.c0
  have m1 := h.c1
  have m2 := h.c2
  have m3 := h.c3
  obtain ⟨o, hoo⟩ : ∃ o, o = op.length := ⟨_, rfl⟩
  obtain ⟨N, hN⟩ : ∃ N, N = ls.length := ⟨_, rfl⟩
  rw [← hoo] at m2 hlo hop
  rw [← hN] at m1 hlo hn hl2
  have hc : Calls Try.prog 23 #[.pointer (some ⟨mb, 0, none⟩), .agg #[.bool false, .int .i64 a, .int .i64 (tk : Int), .int .i64 0, .slice none 0 0, .bool false]] w fun e w' => e = .returned (.tuple #[]) ∧ ∃ l nv ov, ls2 l ∧ Mk w' base mb nv ov l op tk ∧ Below base w w' := hadd w _ _ h (Below.refl _ w)
  have HC := Lib.hid hc
  have d3 : ¬ a < 0 := by omega
  have HOO := Lib.hid hoo
  have HN := Lib.hid hN
  have HL2 := Lib.hid hl2
  clear hc hadd h hoo hN hl2
  have key : ∀ (d1 : decide ((N : Int) > 0) = true → ((o : Int) == 0) = false), True := fun _ => trivial
  clear key
  have two : (N = 0) ∨ (decide ((N : Int) > 0) = true ∧ (0 : Int) < (N : Int) ∧ ((o : Int) == 0) = false ∧ (o : Int) ≠ 0) := by
    by_cases hz : N = 0
    · exact .inl hz
    · right
      refine ⟨by simp; omega, by omega, by simp; omega, by omega⟩
  clear hlo
  have fin : ∀ (W : World), True := fun _ => trivial
  clear fin
  rcases two with hz | ⟨z1, z2, z3, z4⟩
  · have HZ := Lib.hid hz
    have d1 : decide ((N : Int) > 0) = false := by simp; omega
    have d2 : ¬ (0 : Int) < (N : Int) := by omega
    clear hz
    go_enter Try.func9, Try.ntmps9
    go_upto_region 8 with (go_at_call 23; refine HC.out.mono ?_; rintro ee w3 ⟨rfl, l, nv, ov, r1, r2, r3⟩; have R1 := Lib.hid r1; have R2 := Lib.hid r2; have R3 := Lib.hid r3; clear r1 r2 r3)
    have hl := HL2.out l R1.out
    obtain ⟨an3, cn3, rfl⟩ := R2.out.nform
    obtain ⟨ao3, co3, rfl⟩ := R2.out.oform
    obtain ⟨N1, hN1⟩ : ∃ N1, N1 = l.length := ⟨_, rfl⟩
    have q1 : w3.cell? ⟨mb, 1, none⟩ = some (.slice an3 N1 cn3) := by rw [hN1]; exact R2.out.c1
    have q2 : w3.cell? ⟨mb, 2, none⟩ = some (.slice ao3 o co3) := by rw [HOO.out]; exact R2.out.c2
    have g2 := R2.out.fz 2
    have hml := R2.out.mlt
    have hlob := R2.out.lo.2
    have hwm : IntKind.i64.wrap ((N1 : Int) - 1) = (N : Int) := by rw [IntKind.wrap_i64]; omega
    have hmn : (N1 : Int) - 1 = (N : Int) := by omega
    have hwn : IntKind.i64.wrap (N : Int) = (N : Int) := by rw [IntKind.wrap_i64]; omega
    have hNz : (0 : Int) ≤ (N : Int) := by omega
    have HNN := Lib.hid hN1
    clear hN1 hl
    have hown : w3.ownsRow base 3 1 (.slice ao3 o co3) o (ints op) := by rw [HOO.out]; exact R2.out.opens
    have HOW := Lib.hid hown
    clear hown
    have hne : (Value.slice ao3 o co3).ownBlock ≠ some mb := by rw [HOO.out]; exact R2.out.a2
    have fa : ∀ ob, (w3.alloc ob).frozen? ⟨mb, 2, none⟩ = false := fun ob => by
      rw [((Below.refl w3.heap.size w3).alloc (Nat.le_refl _) ob).frozen (p := ⟨mb, 2, none⟩) hml]
      exact g2
    have ma : ∀ ob, (w3.alloc ob).cell? ⟨mb, 2, none⟩ = some (.slice ao3 o co3) := fun ob => by
      rw [((Below.refl w3.heap.size w3).alloc (Nat.le_refl _) ob).cell (p := ⟨mb, 2, none⟩) hml]
      exact q2
    have mc : ∀ ob, (w3.alloc ob).cell? ⟨mb, 1, none⟩ = some (.slice an3 N1 cn3) := fun ob => by
      rw [((Below.refl w3.heap.size w3).alloc (Nat.le_refl _) ob).cell (p := ⟨mb, 1, none⟩) hml]
      exact q1
    have hmax : o + 1 ≤ maxLen := by unfold maxLen; omega
    go_region_law ((refine step_append_lies _ (by rfl) _ _ _ (by rfl) base 3 i3 (.int .i64 0) 1 8 Try.underlying41 info3 zero3 size3 bytes3 (by rfl) (by omega) (.slice ao3 o co3) o (ints op) (by rfl) ((HOW.out.alloc _).drew) ⟨w3.heap.size, 0, none⟩ 1 1 [.int .i64 (N : Int)] (by rfl) (by rfl) (World.news_of_block (cs := #[.int .i64 (N : Int)]) (t := 3) (fr := (0, 0)) (heap_alloc_new w3 _)) (by simp [Value.oneCell']) (by omega) hmax (by omega) (by simp; omega) (w3.heap.size + 1) (by simp) ?_; intro gg cap w1 hown1 hgrow hat hlt; have m2' : w1.cell? ⟨mb, 2, none⟩ = some (.slice ao3 o co3) := (hgrow.cell_far _ (by simp; omega) (Ne.symm hne)).trans (by simp [ma]); have f2' : w1.frozen? ⟨mb, 2, none⟩ = false := (hgrow.frozen_far _ (by simp; omega) (Ne.symm hne)).trans (by simp [fa])))
    all_goals
      go_wp2
      go_ret
      refine ⟨rfl, l, R1.out, ?_⟩
      rw [← HN.out]
      refine ⟨_, _, Mk.openGrown (g := gg) (N := N) ((R2.out.alloc _).drew) (by rw [← HOO.out]; exact hgrow) (by rw [← HOO.out]; exact hown1) rfl (by rw [← HOO.out]; exact hat.imp id (fun e => by simp; omega)), ?_⟩
      exact (((R3.out.alloc hlob _).drew).grown hgrow (by simp; omega) (fun k hk => (HOW.out.lt k hk).1)).setCell (p := ⟨mb, 2, none⟩) R2.out.lo.1 _
  · go_enter Try.func9, Try.ntmps9
    go_upto_region 8 with (go_at_call 23; refine HC.out.mono ?_; rintro ee w3 ⟨rfl, l, nv, ov, r1, r2, r3⟩; have R1 := Lib.hid r1; have R2 := Lib.hid r2; have R3 := Lib.hid r3; clear r1 r2 r3)
    have hl := HL2.out l R1.out
    obtain ⟨an3, cn3, rfl⟩ := R2.out.nform
    obtain ⟨ao3, co3, rfl⟩ := R2.out.oform
    obtain ⟨N1, hN1⟩ : ∃ N1, N1 = l.length := ⟨_, rfl⟩
    have q1 : w3.cell? ⟨mb, 1, none⟩ = some (.slice an3 N1 cn3) := by rw [hN1]; exact R2.out.c1
    have q2 : w3.cell? ⟨mb, 2, none⟩ = some (.slice ao3 o co3) := by rw [HOO.out]; exact R2.out.c2
    have g2 := R2.out.fz 2
    have hml := R2.out.mlt
    have hlob := R2.out.lo.2
    have hwm : IntKind.i64.wrap ((N1 : Int) - 1) = (N : Int) := by rw [IntKind.wrap_i64]; omega
    have hmn : (N1 : Int) - 1 = (N : Int) := by omega
    have hwn : IntKind.i64.wrap (N : Int) = (N : Int) := by rw [IntKind.wrap_i64]; omega
    have hNz : (0 : Int) ≤ (N : Int) := by omega
    have HNN := Lib.hid hN1
    clear hN1 hl
    have hown : w3.ownsRow base 3 1 (.slice ao3 o co3) o (ints op) := by rw [HOO.out]; exact R2.out.opens
    have HOW := Lib.hid hown
    clear hown
    have hne : (Value.slice ao3 o co3).ownBlock ≠ some mb := by rw [HOO.out]; exact R2.out.a2
    have fa : ∀ ob, (w3.alloc ob).frozen? ⟨mb, 2, none⟩ = false := fun ob => by
      rw [((Below.refl w3.heap.size w3).alloc (Nat.le_refl _) ob).frozen (p := ⟨mb, 2, none⟩) hml]
      exact g2
    have ma : ∀ ob, (w3.alloc ob).cell? ⟨mb, 2, none⟩ = some (.slice ao3 o co3) := fun ob => by
      rw [((Below.refl w3.heap.size w3).alloc (Nat.le_refl _) ob).cell (p := ⟨mb, 2, none⟩) hml]
      exact q2
    have mc : ∀ ob, (w3.alloc ob).cell? ⟨mb, 1, none⟩ = some (.slice an3 N1 cn3) := fun ob => by
      rw [((Below.refl w3.heap.size w3).alloc (Nat.le_refl _) ob).cell (p := ⟨mb, 1, none⟩) hml]
      exact q1
    have hmax : o + 1 ≤ maxLen := by unfold maxLen; omega
    go_region_law ((refine step_append_lies _ (by rfl) _ _ _ (by rfl) base 3 i3 (.int .i64 0) 1 8 Try.underlying41 info3 zero3 size3 bytes3 (by rfl) (by omega) (.slice ao3 o co3) o (ints op) (by rfl) ((HOW.out.alloc _).drew) ⟨w3.heap.size, 0, none⟩ 1 1 [.int .i64 (N : Int)] (by rfl) (by rfl) (World.news_of_block (cs := #[.int .i64 (N : Int)]) (t := 3) (fr := (0, 0)) (heap_alloc_new w3 _)) (by simp [Value.oneCell']) (by omega) hmax (by omega) (by simp; omega) (w3.heap.size + 1) (by simp) ?_; intro gg cap w1 hown1 hgrow hat hlt; have m2' : w1.cell? ⟨mb, 2, none⟩ = some (.slice ao3 o co3) := (hgrow.cell_far _ (by simp; omega) (Ne.symm hne)).trans (by simp [ma]); have f2' : w1.frozen? ⟨mb, 2, none⟩ = false := (hgrow.frozen_far _ (by simp; omega) (Ne.symm hne)).trans (by simp [fa])))
    all_goals
      go_wp2
      go_ret
      refine ⟨rfl, l, R1.out, ?_⟩
      rw [← HN.out]
      refine ⟨_, _, Mk.openGrown (g := gg) (N := N) ((R2.out.alloc _).drew) (by rw [← HOO.out]; exact hgrow) (by rw [← HOO.out]; exact hown1) rfl (by rw [← HOO.out]; exact hat.imp id (fun e => by simp; omega)), ?_⟩
      exact (((R3.out.alloc hlob _).drew).grown hgrow (by simp; omega) (fun k hk => (HOW.out.lt k hk).1)).setCell (p := ⟨mb, 2, none⟩) R2.out.lo.1 _
end Go.Proofs.Ar
