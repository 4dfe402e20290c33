/-
  Maker.add within an open node: what it leaves. Condition: fewer than 2^20 nodes.
-/
import Derived.Test.YtkepcgknjfmgdaaMl
import Derived.Deep.QuietTactic
import Derived.BigQuiet
set_option linter.unusedVariables false
set_option linter.unusedSimpArgs false
namespace Go.Proofs.Ar
open Go.RowKit Go.Lib Go.Sort
variable {w w1 w2 : World} {base mb : Nat} {nv ov : Value} {ls : List (Nd × Value)} {op : List Nat} {tk : Nat}

theorem kid_done {V w1 : World} {w : World} {base mb gn cn t gg cap xb : Nat} {ov : Value} {ls : List (Nd × Value)} {op : List Nat} {tk : Nat} {p : Nd × Value} (h : Mk V base mb (.slice (some ⟨gn, 0, none⟩) ls.length cn) ov ls op tk) (hp : ls[t]? = some p) (o : Obj)
    (hgrow : ((V.alloc o).drew).grownBy w1 p.2.ownBlock) {N : Nat} (hown1 : w1.ownsRow base 3 1 (.slice (some ⟨gg, 0, none⟩) (p.1.kids.length + 1) cap) (p.1.kids.length + 1) (ints p.1.kids ++ [.int .i64 (N : Int)])) (hat : p.2.ownBlock = some gg ∨ gg = V.heap.size + 1)
    (hB : Below base w V) (hxb : xb < V.heap.size) (hgx : gn ≠ xb) (hkx : p.2.ownBlock ≠ some xb) :
    Mk (w1.setCell ⟨gn, t * 6 + 4, none⟩ (.slice (some ⟨gg, 0, none⟩) (p.1.kids.length + 1) cap)) base mb (.slice (some ⟨gn, 0, none⟩) ls.length cn) ov (ls.set t ({ p.1 with kids := p.1.kids ++ [N] }, .slice (some ⟨gg, 0, none⟩) (p.1.kids.length + 1) cap)) op tk ∧
    Below base w (w1.setCell ⟨gn, t * 6 + 4, none⟩ (.slice (some ⟨gg, 0, none⟩) (p.1.kids.length + 1) cap)) ∧
    xb < (w1.setCell ⟨gn, t * 6 + 4, none⟩ (.slice (some ⟨gg, 0, none⟩) (p.1.kids.length + 1) cap)).heap.size ∧
    ∀ j, (w1.setCell ⟨gn, t * 6 + 4, none⟩ (.slice (some ⟨gg, 0, none⟩) (p.1.kids.length + 1) cap)).cell? ⟨xb, j, none⟩ = V.cell? ⟨xb, j, none⟩ := by
  have hs : ((V.alloc o).drew).heap.size = V.heap.size + 1 := by simp
  have hsz := hgrow.size
  refine ⟨Mk.kidGrown (g := gg) ((h.alloc o).drew) hp hgrow hown1 rfl (hat.imp id (fun e => by omega)), ?_, by simp; omega, fun j => ?_⟩
  · exact (((hB.alloc h.lo.2 o).drew).grown hgrow (by rw [hs]; have := h.lo.2; omega) (fun k hk => ((h.kids t p hp).lt k hk).1)).setCell (p := ⟨gn, t * 6 + 4, none⟩) (h.nodes.lt gn rfl).1 _
  · rw [World.cell?_setCell_other _ _ _ _ (by intro e; cases e; exact hgx rfl), hgrow.cell_far ⟨xb, j, none⟩ (show xb < _ by omega) (Ne.symm hkx)]
    exact ((Below.refl V.heap.size V).alloc (Nat.le_refl _) o).cell (p := ⟨xb, j, none⟩) hxb

set_option maxHeartbeats 8000000 in
set_option maxRecDepth 1000000 in
theorem add_in (x : Nd) (hx : x.kids = []) (op' : List Nat) (t : Nat) (p : Nd × Value) (h : Mk w base mb nv ov ls (op' ++ [t]) tk) (hp : ls[t]? = some p) (hn : ls.length < 1048576) (hop : op'.length < 1048576) (hpk : p.1.kids.length < 1048576) :
    Calls Try.prog 23 #[.pointer (some ⟨mb, 0, none⟩), aggN x (.slice none 0 0)] w fun e w' => e = .returned (.tuple #[]) ∧ ∃ v', Leaves w base mb (ls.set t ({ p.1 with kids := p.1.kids ++ [ls.length] }, v') ++ [(x, .slice none 0 0)]) (op' ++ [t]) tk w' := by
  have htl : t < ls.length := (List.getElem?_eq_some_iff.1 hp).1
  obtain ⟨gn, cn, rfl⟩ := h.nform' (by omega)
  obtain ⟨go, co, rfl⟩ := h.oform' (by simp)
  obtain ⟨m, hm⟩ : ∃ m, m = (op' ++ [t]).length := ⟨_, rfl⟩
  have hm1 : m = op'.length + 1 := by rw [hm]; simp
  obtain ⟨n1, hn1⟩ : ∃ n1, n1 = op'.length := ⟨_, rfl⟩
  obtain ⟨N, hN⟩ : ∃ N, N = ls.length := ⟨_, rfl⟩
  obtain ⟨W, hW⟩ : ∃ W, W = w.alloc (.cells #[.bool x.tok, .int .i64 x.arg, .int .i64 x.frm, .int .i64 x.til, .slice none 0 0, .bool x.opn] 44) := ⟨_, rfl⟩
  have H0 := Lib.hid (h.alloc (.cells #[.bool x.tok, .int .i64 x.arg, .int .i64 x.frm, .int .i64 x.til, .slice none 0 0, .bool x.opn] 44))
  rw [← hW] at H0
  obtain ⟨xb, hxb⟩ : ∃ xb, xb = w.heap.size := ⟨_, rfl⟩
  have b0 : W.cell? ⟨xb, 0, none⟩ = some (.bool x.tok) := by rw [hW, hxb]; simp
  have b1 : W.cell? ⟨xb, 1, none⟩ = some (.int .i64 x.arg) := by rw [hW, hxb]; simp
  have b2 : W.cell? ⟨xb, 2, none⟩ = some (.int .i64 x.frm) := by rw [hW, hxb]; simp
  have b3 : W.cell? ⟨xb, 3, none⟩ = some (.int .i64 x.til) := by rw [hW, hxb]; simp
  have b4 : W.cell? ⟨xb, 4, none⟩ = some (.slice none 0 0) := by rw [hW, hxb]; simp
  have b5 : W.cell? ⟨xb, 5, none⟩ = some (.bool x.opn) := by rw [hW, hxb]; simp
  have HBW : Hid (Below base w W) := by
    show Below _ _ _
    rw [hW]; exact (Below.refl _ w).alloc h.lo.2 _
  have HW := Lib.hid hW
  have HXB := Lib.hid hxb
  have HGX := Lib.hid (show gn ≠ xb from fun e => by have := (h.nodes.lt gn rfl).2; omega)
  have HKX := Lib.hid (show p.2.ownBlock ≠ some xb from fun e => by have := ((h.kids t p hp).lt xb e).2; omega)
  have m2 : W.cell? ⟨mb, 2, none⟩ = some (.slice (some ⟨go, 0, none⟩) m co) := by rw [hm]; exact H0.out.c2
  have m1 : W.cell? ⟨mb, 1, none⟩ = some (.slice (some ⟨gn, 0, none⟩) N cn) := by rw [hN]; exact H0.out.c1
  have mo : W.cell? ⟨go, n1, none⟩ = some (.int .i64 (t : Int)) := by rw [hn1]; exact H0.out.cellO
  have hmz : (0 : Int) < (m : Int) := by omega
  have hmp : 0 < m := by omega
  have hwm : IntKind.i64.wrap ((m : Int) - 1) = (n1 : Int) := by rw [IntKind.wrap_i64]; omega
  have hmn : (m : Int) - 1 = (n1 : Int) := by omega
  have hwn : IntKind.i64.wrap (n1 : Int) = (n1 : Int) := by rw [IntKind.wrap_i64]; omega
  have hn1p : (0 : Int) ≤ (n1 : Int) := by omega
  have hnm : (n1 : Int) < (m : Int) := by omega
  have htN : (t : Int) < (N : Int) := by omega
  have HN := Lib.hid hN
  have HM := Lib.hid hm
  have HN1 := Lib.hid hn1
  have HP := Lib.hid hp
  rw [← hm] at h
  have h2 : w.cell? ⟨mb, 2, none⟩ = some (.slice (some ⟨go, 0, none⟩) m co) := by
    have := h.c2
    exact this
  have hml := h.mlt
  clear hm hm1 hn1 hN hxb hp hW
  go_enter Try.func23, Try.ntmps23
  go_upto_region 2 with fail
  rw [← HW.out, ← HXB.out]
  clear h2 hml h
  go_quiet (fail)
  have H2 := Lib.hid (H0.out.drewN nq)
  have q0 : (W.drewN nq).cell? ⟨xb, 0, none⟩ = some (.bool x.tok) := b0
  have q1 : (W.drewN nq).cell? ⟨xb, 1, none⟩ = some (.int .i64 x.arg) := b1
  have q2 : (W.drewN nq).cell? ⟨xb, 2, none⟩ = some (.int .i64 x.frm) := b2
  have q3 : (W.drewN nq).cell? ⟨xb, 3, none⟩ = some (.int .i64 x.til) := b3
  have q4 : (W.drewN nq).cell? ⟨xb, 4, none⟩ = some (.slice none 0 0) := b4
  have q5 : (W.drewN nq).cell? ⟨xb, 5, none⟩ = some (.bool x.opn) := b5
  have p1 : (W.drewN nq).cell? ⟨mb, 1, none⟩ = some (.slice (some ⟨gn, 0, none⟩) N cn) := m1
  have HB2 : Hid (Below base w (W.drewN nq)) := ⟨HBW.out.os, HBW.out.tape, HBW.out.output, HBW.out.size, HBW.out.block⟩
  have hxw : Hid (w.heap.size = xb ∧ xb < (W.drewN nq).heap.size) := ⟨HXB.out.symm, World.block_lt_of_cell? _ _ q0⟩
  generalize W.drewN nq = V at H2 q0 q1 q2 q3 q4 q5 p1 HB2 hxw ⊢
  clear b0 b1 b2 b3 b4 b5 m1 m2 mo H0 HBW nq
  obtain ⟨kv, hkv⟩ : ∃ kv, kv = p.2 := ⟨_, rfl⟩
  have hk4 := (H2.out.cellN HP.out 4 (by omega)).1
  have hf4 := (H2.out.cellN HP.out 4 (by omega)).2
  have k4 : V.cell? ⟨gn, t * 6 + 4, none⟩ = some kv := by rw [hkv]; exact hk4
  have hkf : ∃ a c, kv = .slice a p.1.kids.length c := by
    rcases (H2.out.kids t p HP.out).2 with ⟨h1, h2⟩ | ⟨g, c, cur, h1, _⟩
    · exact ⟨none, 0, by rw [hkv, h1, h2]⟩
    · exact ⟨_, _, hkv.trans h1⟩
  obtain ⟨ak, ck, rfl⟩ := hkf
  have HKV := Lib.hid hkv
  clear hk4 hkv
  have hgl : gn < V.heap.size := (H2.out.nodes.lt gn rfl).2
  have hmbl := H2.out.mlt
  go_upto_region 3 with fail
  go_cut [] from 23 to 44 (fun wx => Hid (∃ v', Mk wx base mb (.slice (some ⟨gn, 0, none⟩) N cn) (.slice (some ⟨go, 0, none⟩) m co) (ls.set t ({ p.1 with kids := p.1.kids ++ [N] }, v')) (op' ++ [t]) tk) ∧ Hid (Below base w wx) ∧ Hid (xb < wx.heap.size) ∧ wx.cell? ⟨xb, 0, none⟩ = some (.bool x.tok) ∧ wx.cell? ⟨xb, 1, none⟩ = some (.int .i64 x.arg) ∧ wx.cell? ⟨xb, 2, none⟩ = some (.int .i64 x.frm) ∧ wx.cell? ⟨xb, 3, none⟩ = some (.int .i64 x.til) ∧ wx.cell? ⟨xb, 4, none⟩ = some (.slice none 0 0) ∧ wx.cell? ⟨xb, 5, none⟩ = some (.bool x.opn))
  case first =>
    have hko : V.ownsRow base 3 1 (.slice ak p.1.kids.length ck) p.1.kids.length (ints p.1.kids) := by rw [HKV.out]; exact H2.out.kids t p HP.out
    have HKO := Lib.hid hko
    clear hko
    have hne : (Value.slice ak p.1.kids.length ck).ownBlock ≠ some mb := by rw [HKV.out]; exact H2.out.a3 t p HP.out
    have hne3 : (Value.slice ak p.1.kids.length ck).ownBlock ≠ some gn := by
      have := (H2.out.a5 t p HP.out).1
      rw [← HKV.out] at this
      rcases this with h1 | h1
      · rw [h1]; simp
      · exact h1
    have hgm : mb ≠ gn := fun e => H2.out.a1 (by rw [e]; rfl)
    have hgm2 : gn ≠ mb := Ne.symm hgm
    have hlo := H2.out.lo.2
    have hke : ∀ o, (V.alloc o).cell? ⟨gn, t * 6 + 4, none⟩ = some (.slice ak p.1.kids.length ck) := fun o => by
      rw [((Below.refl V.heap.size V).alloc (Nat.le_refl _) o).cell (p := ⟨gn, t * 6 + 4, none⟩) hgl]
      exact k4
    have hfe : ∀ o, (V.alloc o).frozen? ⟨gn, t * 6 + 4, none⟩ = false := fun o => by
      rw [((Below.refl V.heap.size V).alloc (Nat.le_refl _) o).frozen (p := ⟨gn, t * 6 + 4, none⟩) hgl]
      exact hf4
    have hml : p.1.kids.length + 1 ≤ maxLen := by unfold maxLen; omega
    have n1' := World.new_ne V _ p1
    have n4' := World.new_ne V _ k4
    have hme : ∀ o, (V.alloc o).cell? ⟨mb, 1, none⟩ = some (.slice (some ⟨gn, 0, none⟩) N cn) := fun o => by
      rw [((Below.refl V.heap.size V).alloc (Nat.le_refl _) o).cell (p := ⟨mb, 1, none⟩) hmbl]
      exact p1
    go_region_law
      ((refine step_append_lies _ (by rfl) _ _ _ (by rfl) base 3 i3 (.int .i64 0) 1 8 Try.underlying41 info3 zero3 size3 bytes3 (by rfl) (by omega) (.slice ak p.1.kids.length ck) p.1.kids.length (ints p.1.kids) (by rfl) ((HKO.out.alloc _).drew) ⟨V.heap.size, 0, none⟩ 1 1 [.int .i64 (N : Int)] (by rfl) (by rfl) (World.news_of_block (cs := #[.int .i64 (N : Int)]) (t := 3) (fr := (0, 0)) (heap_alloc_new V _)) (by simp [Value.oneCell']) (by omega) hml (by omega) (by simp; omega) (V.heap.size + 1) (by simp) ?_; intro gg cap w1 hown1 hgrow hat hlt; have m1' : w1.cell? ⟨mb, 1, none⟩ = some (.slice (some ⟨gn, 0, none⟩) N cn) := (hgrow.cell_far _ (by simp; omega) (Ne.symm hne)).trans (by simp [hme]); have k4' : w1.cell? ⟨gn, t * 6 + 4, none⟩ = some (.slice ak p.1.kids.length ck) := (hgrow.cell_far _ (by simp; omega) (Ne.symm hne3)).trans (by simp [hke]); have f4' : w1.frozen? ⟨gn, t * 6 + 4, none⟩ = false := (hgrow.frozen_far _ (by simp; omega) (Ne.symm hne3)).trans (by simp [hfe])))
    all_goals
      go_wp2_with fail
      go_meet
      case rel =>
        rw [HKV.out] at hgrow hat
        obtain ⟨r1, r2, r3, r4⟩ := kid_done H2.out HP.out _ hgrow hown1 hat HB2.out hxw.out.2 HGX.out HKX.out
        rw [← HN.out, ← HM.out] at r1
        exact ⟨⟨_, r1⟩, r2, r3, (r4 0).trans q0, (r4 1).trans q1, (r4 2).trans q2, (r4 3).trans q3, (r4 4).trans q4, (r4 5).trans q5⟩
  case rest =>
    obtain ⟨⟨v', hmk⟩, hbel, hxbl, b0, b1, b2, b3, b4, b5⟩ := hcut
    have HMK := Lib.hid hmk
    have HBEL := hbel
    obtain ⟨ls', hls'⟩ : ∃ l, l = ls.set t ({ p.1 with kids := p.1.kids ++ [N] }, v') := ⟨_, rfl⟩
    rw [← hls'] at HMK
    have hlen : ls'.length = N := by rw [hls', List.length_set, HN.out]
    have hN2 : N < 1048576 := by have := HN.out; omega
    have HLS := Lib.hid hls'
    have HLEN := Lib.hid hlen
    have HMM := HM
    have H0' : Hid (Mk wc base mb (.slice (some ⟨gn, 0, none⟩) ls'.length cn) (.slice (some ⟨go, 0, none⟩) m co) ls' (op' ++ [t]) tk) := by
      show Mk _ _ _ _ _ _ _ _
      rw [HLEN.out]; exact HMK.out
    have m1 := H0'.out.c1
    have f1 := H0'.out.fz 1
    have hml := H0'.out.mlt
    have hlo := H0'.out.lo.2
    rw [hlen] at m1
    have hne : (Value.slice (some ⟨gn, 0, none⟩) N cn).ownBlock ≠ some mb := H0'.out.a1
    have fa : ∀ o, (wc.alloc o).frozen? ⟨mb, 1, none⟩ = false := fun o => by
      rw [((Below.refl wc.heap.size wc).alloc (Nat.le_refl _) o).frozen (p := ⟨mb, 1, none⟩) hml]
      exact f1
    have ma : ∀ o, (wc.alloc o).cell? ⟨mb, 1, none⟩ = some (.slice (some ⟨gn, 0, none⟩) N cn) := fun o => by
      rw [((Below.refl wc.heap.size wc).alloc (Nat.le_refl _) o).cell (p := ⟨mb, 1, none⟩) hml]
      exact m1
    have hown : Hid (wc.ownsRow base 44 6 (.slice (some ⟨gn, 0, none⟩) N cn) N (flatN ls')) := by
      show World.ownsRow _ _ _ _ _ _ _
      have := H0'.out.nodes
      rwa [HLEN.out] at this
    have hmax : N + 1 ≤ maxLen := by unfold maxLen; omega
    have o0 := World.new_ne wc _ b0
    clear hmk hls' hlen k4 hf4 hgl hmbl HKV q0 q1 q2 q3 q4 q5 p1 hxw HB2 H2
    go_upto_region 4 with fail
    go_region_law ((refine step_append_lies _ (by rfl) _ _ _ (by rfl) base 44 i44 z44 6 64 Try.underlying37 info44 zero44 size44 bytes44 zcells44 (by omega) (.slice (some ⟨gn, 0, none⟩) N cn) N (flatN ls') (by rfl) ((hown.out.alloc _).drew) ⟨wc.heap.size, 0, none⟩ 1 1 (cellsN x (.slice none 0 0)) (by rfl) (by rfl) (World.news_of_block (cs := #[.bool x.tok, .int .i64 x.arg, .int .i64 x.frm, .int .i64 x.til, .slice none 0 0, .bool x.opn]) (t := 44) (fr := (0, 0)) (heap_alloc_new wc _)) (by simp [cellsN, Value.oneCell']) (by omega) hmax (by omega) (by simp; omega) (wc.heap.size + 1) (by simp) ?_; intro gg cap w1 hown1 hgrow hat hlt; have m1' : w1.cell? ⟨mb, 1, none⟩ = some (.slice (some ⟨gn, 0, none⟩) N cn) := (hgrow.cell_far _ (by simp; omega) (Ne.symm hne)).trans (by simp [ma]); have f1' : w1.frozen? ⟨mb, 1, none⟩ = false := (hgrow.frozen_far _ (by simp; omega) (Ne.symm hne)).trans (by simp [fa])))
    all_goals
      go_end0
      refine ⟨rfl, v', ?_⟩
      rw [← HN.out, ← HLS.out]
      refine ⟨_, _, Mk.nodeGrown (g := gg) ((H0'.out.alloc _).drew) hx (by rw [HLEN.out]; exact hgrow) (by rw [HLEN.out]; exact hown1) rfl (hat.imp id (fun e => by simp; omega)), ?_⟩
      exact (((HBEL.out.alloc hlo _).drew).grown hgrow (by simp; omega) (fun k hk => (hown.out.lt k hk).1)).setCell (p := ⟨mb, 1, none⟩) H0'.out.lo.1 _
end Go.Proofs.Ar
