/-
  Maker.add: what it leaves. Condition: fewer than 2^20 nodes.
-/
import Derived.Test.YtkepcgknjfmgdaaMg
import Derived.Deep.RegionHeld3
import Derived.StillTactics
import Derived.Deep.RegionLaw
import Derived.WalkSpells
import Derived.Tactics2
import Derived.Laws.Pointers
set_option linter.unusedVariables false
set_option linter.unusedSimpArgs false
namespace Go.Proofs.Ar
open Go.RowKit Go.Lib Go.Sort
variable {w w1 w2 : World} {base mb : Nat} {nv ov : Value} {ls : List (Nd × Value)} {op : List Nat} {tk : Nat}

theorem Mk.c0 (h : Mk w base mb nv ov ls op tk) : w.cell? ⟨mb, 0, none⟩ = some (.bool true) := by simp [World.cell?, h.blk]
theorem Mk.c1 (h : Mk w base mb nv ov ls op tk) : w.cell? ⟨mb, 1, none⟩ = some nv := by simp [World.cell?, h.blk]
theorem Mk.c2 (h : Mk w base mb nv ov ls op tk) : w.cell? ⟨mb, 2, none⟩ = some ov := by simp [World.cell?, h.blk]
theorem Mk.c3 (h : Mk w base mb nv ov ls op tk) : w.cell? ⟨mb, 3, none⟩ = some (.int .i64 (tk : Int)) := by simp [World.cell?, h.blk]
theorem Mk.fz (h : Mk w base mb nv ov ls op tk) (j : Nat) : w.frozen? ⟨mb, j, none⟩ = false := by simp [World.frozen?, h.blk]
theorem Mk.nform (h : Mk w base mb nv ov ls op tk) : ∃ a c, nv = .slice a ls.length c := by
  rcases h.nodes.2 with ⟨h1, h2⟩ | ⟨g, c, cur, h1, _⟩
  · exact ⟨none, 0, by rw [h1, h2]⟩
  · exact ⟨_, _, h1⟩
theorem Mk.oform (h : Mk w base mb nv ov ls op tk) : ∃ a c, ov = .slice a op.length c := by
  rcases h.opens.2 with ⟨h1, h2⟩ | ⟨g, c, cur, h1, _⟩
  · exact ⟨none, 0, by rw [h1, h2]⟩
  · exact ⟨_, _, h1⟩
noncomputable def i44 : TypeInfo := (Try.prog.info? 44).getD default
noncomputable def z44 : Value := i44.zero.getD undef
theorem info44 : Try.prog.info? 44 = some i44 := by kernel_rfl
theorem zero44 : i44.zero = some z44 := by kernel_rfl
theorem size44 : i44.size = 6 := by kernel_rfl
theorem zcells44 : z44.cells.size = 6 := by kernel_rfl
theorem bytes44 : i44.bytes = 64 := by kernel_rfl

/-- the maker stands there, turned. -/
def Leaves (w : World) (base mb : Nat) (ls : List (Nd × Value)) (op : List Nat) (tk : Nat) (w' : World) : Prop := ∃ nv ov, Mk w' base mb nv ov ls op tk ∧ Below base w w'

set_option maxHeartbeats 8000000 in
set_option maxRecDepth 1000000 in
theorem add_root (x : Nd) (hx : x.kids = []) (h : Mk w base mb nv ov ls [] tk) (hn : ls.length < 1048576) :
    Calls Try.prog 23 #[.pointer (some ⟨mb, 0, none⟩), aggN x (.slice none 0 0)] w fun e w' => e = .returned (.tuple #[]) ∧ Leaves w base mb (ls ++ [(x, .slice none 0 0)]) [] tk w' := by
  obtain ⟨an, cn, rfl⟩ := h.nform
  obtain ⟨ao, co, rfl⟩ := h.oform
  have m1 := h.c1
  have m2 := h.c2
  have f1 := h.fz 1
  have hml := h.mlt
  have n1 := World.new_ne w _ m1
  have n2 := World.new_ne w _ m2
  have HM := Lib.hid h
  clear h
  go_enter Try.func23, Try.ntmps23
  go_upto_region 4 with fail
  have H0 := Lib.hid (HM.out.alloc (.cells #[.bool x.tok, .int .i64 x.arg, .int .i64 x.frm, .int .i64 x.til, .slice none 0 0, .bool x.opn] 44))
  obtain ⟨W, hW⟩ : ∃ W, W = w.alloc (.cells #[.bool x.tok, .int .i64 x.arg, .int .i64 x.frm, .int .i64 x.til, .slice none 0 0, .bool x.opn] 44) := ⟨_, rfl⟩
  obtain ⟨xb, hxb⟩ : ∃ xb, xb = w.heap.size := ⟨_, rfl⟩
  have b0 : W.cell? ⟨xb, 0, none⟩ = some (.bool x.tok) := by rw [hW, hxb]; simp
  have b1 : W.cell? ⟨xb, 1, none⟩ = some (.int .i64 x.arg) := by rw [hW, hxb]; simp
  have b2 : W.cell? ⟨xb, 2, none⟩ = some (.int .i64 x.frm) := by rw [hW, hxb]; simp
  have b3 : W.cell? ⟨xb, 3, none⟩ = some (.int .i64 x.til) := by rw [hW, hxb]; simp
  have b4 : W.cell? ⟨xb, 4, none⟩ = some (.slice none 0 0) := by rw [hW, hxb]; simp
  have b5 : W.cell? ⟨xb, 5, none⟩ = some (.bool x.opn) := by rw [hW, hxb]; simp
  rw [← hW] at H0
  rw [← hW, ← hxb]
  have HBW : Hid (Below base w W) := by
    show Below _ _ _
    rw [hW]; exact (Below.refl _ w).alloc HM.out.lo.2 _
  have HXB := Lib.hid hxb
  clear m1 m2 f1 hml n1 n2 hW hxb
  have m1 := H0.out.c1
  have f1 := H0.out.fz 1
  have hml := H0.out.mlt
  have hlo := H0.out.lo.2
  have n1 := World.new_ne W _ m1
  have o0 := World.new_ne W _ b0
  have o1 := World.new_ne W _ b1
  have o2 := World.new_ne W _ b2
  have o3 := World.new_ne W _ b3
  have o4 := World.new_ne W _ b4
  have o5 := World.new_ne W _ b5
  have hne : (Value.slice an ls.length cn).ownBlock ≠ some mb := H0.out.a1
  have hxl : xb < W.heap.size := World.block_lt_of_cell? W _ b0
  have hne2 : (Value.slice an ls.length cn).ownBlock ≠ some xb := fun e => by
    have := (HM.out.nodes.lt xb e).2
    have := HXB.out
    omega
  have fa : ∀ o, (W.alloc o).frozen? ⟨mb, 1, none⟩ = false := fun o => by
    rw [((Below.refl W.heap.size W).alloc (Nat.le_refl _) o).frozen (p := ⟨mb, 1, none⟩) hml]
    exact f1
  have ma : ∀ o, (W.alloc o).cell? ⟨mb, 1, none⟩ = some (.slice an ls.length cn) := fun o => by
    rw [((Below.refl W.heap.size W).alloc (Nat.le_refl _) o).cell (p := ⟨mb, 1, none⟩) hml]
    exact m1
  go_region_law ((refine step_append_lies _ (by rfl) _ _ _ (by rfl) base 44 i44 z44 6 64 Try.underlying37 info44 zero44 size44 bytes44 zcells44 (by omega) (.slice an ls.length cn) ls.length (flatN ls) (by rfl) ((H0.out.nodes.alloc _).drew) ⟨W.heap.size, 0, none⟩ 1 1 (cellsN x (.slice none 0 0)) (by rfl) (by rfl) (World.news_of_block (cs := #[.bool x.tok, .int .i64 x.arg, .int .i64 x.frm, .int .i64 x.til, .slice none 0 0, .bool x.opn]) (t := 44) (fr := (0, 0)) (heap_alloc_new W _)) (by simp [cellsN, Value.oneCell']) (by omega) (by unfold maxLen; omega) (by omega) (by simp; omega) (W.heap.size + 1) (by simp) ?_; intro gg cap w1 hown1 hgrow hat hlt; have m1' : w1.cell? ⟨mb, 1, none⟩ = some (.slice an ls.length cn) := (hgrow.cell_far _ (by simp; omega) (Ne.symm hne)).trans (by simp [ma]); have f1' : w1.frozen? ⟨mb, 1, none⟩ = false := (hgrow.frozen_far _ (by simp; omega) (Ne.symm hne)).trans (by simp [fa])))
  all_goals
    go_end0
    refine ⟨rfl, _, _, Mk.nodeGrown (g := gg) ((H0.out.alloc _).drew) hx hgrow hown1 rfl (hat.imp id (fun e => by simp; omega)), ?_⟩
    exact (((HBW.out.alloc hlo _).drew).grown hgrow (by simp; omega) (fun k hk => (H0.out.nodes.lt k hk).1)).setCell (p := ⟨mb, 1, none⟩) H0.out.lo.1 _
end Go.Proofs.Ar
