/-
  Maker.Tree: what it leaves. Condition: fewer than 2^20 nodes.
-/
import Derived.Test.YtkepcgknjfmgdaaMl
import Derived.Test.YtkepcgknjfmgdaaCl
import Derived.Deep.QuietTactic
import Derived.BigQuiet
import Derived.Lib.LazyBuf
set_option linter.unusedVariables false
set_option linter.unusedSimpArgs false
namespace Go.Proofs.Ar
open Go.RowKit Go.Lib Go.Sort
variable {w w1 w2 : World} {base mb : Nat} {nv ov : Value} {ls : List (Nd × Value)} {op : List Nat} {tk : Nat}

theorem make37 (n : Nat) (hn : n < 1048576) (w : World) : (Instr.makeSlice 37 (.int .i64 (n : Int)) (.int .i64 (n : Int))).run Try.prog w = .ok (.slice (some ⟨w.heap.size, 0, none⟩) n n) (w.alloc (.cells (madeCells z44.cells (n * 6)) 44)) := by
  have := run_makeSlice (P := Try.prog) w 37 44 i44 z44 Try.underlying37 info44 zero44 .i64 .i64 n n (by omega) (Int.le_refl _) (by rw [size44]; simp; omega) (by rw [bytes44]; omega) (by omega)
  rw [size44] at this
  simp only [Int.toNat_natCast] at this
  exact this
theorem Mk.below {w' : World} (h : Mk w base mb nv ov ls op tk) (hb : Below w.heap.size w w') : Mk w' base mb nv ov ls op tk :=
  h.kept ⟨hb.os, hb.tape, hb.output, hb.size, fun k hk _ => hb.block k hk⟩
theorem Mk.sees (h : Mk w base mb nv ov ls op tk) {i : Nat} {p : Nd × Value} (hp : ls[i]? = some p) : Sees w w.heap.size p.2 p.1.kids := by
  have hk := h.kids i p hp
  by_cases hz : p.1.kids = []
  · rcases hk.2 with ⟨h1, h2⟩ | ⟨g, c, cur, h1, _⟩
    · exact .inl ⟨h1, hz⟩
    · refine .inr ⟨g, c, h1, (hk.lt g (by rw [h1]; rfl)).2, fun j k hj => by rw [hz] at hj; simp at hj⟩
  · obtain ⟨g, c, h1, _⟩ := hk.form (by cases hh : p.1.kids with | nil => exact absurd hh hz | cons a b => simp)
    refine .inr ⟨g, c, h1, (hk.lt g (by rw [h1]; rfl)).2, fun j k hj => ?_⟩
    rw [h1] at hk
    rw [hk.cellAt j (by have := (List.getElem?_eq_some_iff.1 hj).1; omega), ints_get, hj]
    rfl

theorem ret39 (fn : Func) (tmps : Array Value) (w : World) (g : Nat) (s : Value) (h : fn.results = #[.cell 2 39]) (hp : tmps.getD 2 undef = .pointer (some ⟨g, 0, none⟩)) (hg : w.heap[g]? = some (.cells #[s] 39 (0, 0))) :
    (results fn tmps).run Try.prog w = .ok (.agg #[s]) w :=
  results_cell_row h tmps w g 39 #[s] (0, 0) _ hp hg Try.underlying39 rfl (by kernel_rfl)

set_option maxHeartbeats 4000000 in
theorem tree_nil (w : World) : Calls Try.prog 12 #[.pointer none] w fun e w' => (∃ a c, e = .returned (.agg #[.slice a 0 c])) ∧ Below w.heap.size w w' := by
  go_enter Try.func12, Try.ntmps12
  go_wp2
  refine bodyPost_ret (ret39 _ _ _ w.heap.size (.slice none 0 0) rfl rfl ?_) rfl ⟨⟨_, _, rfl⟩, ?_⟩
  · exact heap_alloc_new w _
  · exact (Below.refl _ w).alloc (Nat.le_refl _) _

theorem Sees.mono {w : World} {B B' : Nat} {v : Value} {ks : List Nat} (h : Sees w B v ks) (hb : B ≤ B') : Sees w B' v ks := by
  rcases h with h | ⟨g, cap, h1, h2, h3⟩
  · exact .inl h
  · exact .inr ⟨g, cap, h1, Nat.lt_of_lt_of_le h2 hb, h3⟩
theorem Sees.form {w : World} {B : Nat} {v : Value} {ks : List Nat} (h : Sees w B v ks) : ∃ a m c, v = .slice a m c := by
  rcases h with ⟨h, _⟩ | ⟨g, cap, h1, _⟩
  · exact ⟨_, _, _, h⟩
  · exact ⟨_, _, _, h1⟩
/-- the state within Tree. -/
structure Tw (w0 : World) (n tb d : Nat) (f : Nat → Nd) (kvs : Nat → Value) (w : World) : Prop where
  lo : tb = w0.heap.size + 1 ∧ tb < w.heap.size
  cells : ∀ i, i < d → ∀ j, j < 6 → w.cell? ⟨tb, i * 6 + j, none⟩ = (cellsN (f i) (kvs i))[j]?
  any : ∀ o, o < n * 6 → (∃ u, w.cell? ⟨tb, o, none⟩ = some u) ∧ w.frozen? ⟨tb, o, none⟩ = false
  kids : ∀ i, i < d → Sees w w.heap.size (kvs i) (f i).kids ∧ ∀ g, (kvs i).ownBlock = some g → tb < g
  box : w.heap[w0.heap.size]? = some (.cells #[.slice none 0 0] 39 (0, 0))
  below : Below w0.heap.size w0 w

theorem Tw.put {w0 wr W w3 : World} {n tb d xb : Nat} {f : Nat → Nd} {kvs : Nat → Value} (h : Tw w0 n tb d f kvs wr) {v' : Value} {ks : List Nat} (hB : Below wr.heap.size wr W) (h4 : Below W.heap.size W w3) (h2 : Sees w3 w3.heap.size v' ks) (h3 : ∀ g, v'.ownBlock = some g → W.heap.size ≤ g) (hx : xb = wr.heap.size) (hxW : xb < W.heap.size) (hd : d < n) :
    (∀ o, o < n * 6 → (∃ u, (w3.setCell ⟨xb, 4, none⟩ v').cell? ⟨tb, o, none⟩ = some u) ∧ (w3.setCell ⟨xb, 4, none⟩ v').frozen? ⟨tb, o, none⟩ = false) ∧
    Tw w0 n tb d f kvs (w3.setCell ⟨xb, 4, none⟩ v') ∧ Sees (w3.setCell ⟨xb, 4, none⟩ v') (w3.setCell ⟨xb, 4, none⟩ v').heap.size v' ks ∧ ∀ g, v'.ownBlock = some g → tb < g := by
  have hb : Below wr.heap.size wr (w3.setCell ⟨xb, 4, none⟩ v') := (hB.trans (h4.mono hB.size)).setCell (p := ⟨xb, 4, none⟩) (by show _ ≤ xb; omega) _
  have hlt := h.lo.2
  have ht : Tw w0 n tb d f kvs (w3.setCell ⟨xb, 4, none⟩ v') := by
    refine ⟨⟨h.lo.1, by have := hb.size; omega⟩, fun i hi j hj => ?_, fun o ho => ?_, fun i hi => ⟨?_, (h.kids i hi).2⟩, ?_, h.below.trans (hb.mono h.below.size)⟩
    · rw [hb.cell (p := ⟨tb, _, none⟩) hlt]; exact h.cells i hi j hj
    · rw [hb.cell (p := ⟨tb, _, none⟩) hlt, hb.frozen (p := ⟨tb, _, none⟩) hlt]; exact h.any o ho
    · exact ((h.kids i hi).1.keep fun b o hbo => hb.cell (p := ⟨b, o, none⟩) hbo).mono hb.size
    · rw [hb.block _ (by have := h.lo; omega)]; exact h.box
  refine ⟨ht.any, ht, ?_, fun g hg => by have := h3 g hg; have := hB.size; omega⟩
  rcases h2 with h2 | ⟨g, cap, e1, e2, e3⟩
  · exact .inl h2
  · refine .inr ⟨g, cap, e1, by simpa using e2, fun j k hj => ?_⟩
    rw [World.cell?_setCell_other _ _ _ _ (by intro e; have := h3 g (by rw [e1]; rfl); cases e; omega)]
    exact e3 j k hj
theorem Tw.row {w0 U : World} {n tb d : Nat} {f : Nat → Nd} {kvs : Nat → Value} (h : Tw w0 n tb d f kvs U) {v' : Value} (hd : d < n) (hs : Sees U U.heap.size v' (f d).kids) (hg : ∀ g, v'.ownBlock = some g → tb < g) :
    Tw w0 n tb (d + 1) f (fun i => if i = d then v' else kvs i) (U.setCells tb (d * 6) (cellsN (f d) v')) := by
  have hlen : (cellsN (f d) v').length = 6 := rfl
  have hout : ∀ (b o : Nat), (b = tb → o < d * 6 ∨ d * 6 + 6 ≤ o) → (U.setCells tb (d * 6) (cellsN (f d) v')).cell? ⟨b, o, none⟩ = U.cell? ⟨b, o, none⟩ := fun b o hbo =>
    World.cell?_setCells_out tb _ (d * 6) U ⟨b, o, none⟩ (fun e _ => by rw [hlen]; exact hbo e)
  have hin : ∀ j (hj : j < 6), (U.setCells tb (d * 6) (cellsN (f d) v')).cell? ⟨tb, d * 6 + j, none⟩ = (cellsN (f d) v')[j]? := fun j hj => by
    rw [World.cell?_setCells_in tb (cellsN (f d) v') (d * 6) U (fun k hk => by obtain ⟨⟨u, hu⟩, _⟩ := h.any (d * 6 + k) (by rw [hlen] at hk; omega); rw [hu]; rfl) j hj]
    rw [List.getElem?_eq_getElem (by rw [hlen]; exact hj)]
    rfl
  have hb : Below tb U (U.setCells tb (d * 6) (cellsN (f d) v')) := below_setCells (Nat.le_refl _) _ _ _ (Below.refl _ U)
  have hsz : (U.setCells tb (d * 6) (cellsN (f d) v')).heap.size = U.heap.size := by simp [cellsN, World.setCells]
  have hkeep : ∀ v ks, Sees U U.heap.size v ks → (∀ g, v.ownBlock = some g → tb < g) → Sees (U.setCells tb (d * 6) (cellsN (f d) v')) (U.setCells tb (d * 6) (cellsN (f d) v')).heap.size v ks := by
    intro v ks hv hgv
    rcases hv with hv | ⟨g, cap, e1, e2, e3⟩
    · exact .inl hv
    · refine .inr ⟨g, cap, e1, by rw [hsz]; exact e2, fun j k hj => ?_⟩
      rw [hout g j (fun e => by have := hgv g (by rw [e1]; rfl); omega)]
      exact e3 j k hj
  refine ⟨⟨h.lo.1, by rw [hsz]; exact h.lo.2⟩, fun i hi j hj => ?_, fun o ho => ?_, fun i hi => ?_, ?_, h.below.trans (hb.mono (by have := h.lo; omega))⟩
  · by_cases hid : i = d
    · subst hid
      rw [if_pos rfl]
      exact hin j hj
    · rw [if_neg hid, hout tb _ (fun _ => by omega)]
      exact h.cells i (by omega) j hj
  · rw [World.frozen?_setCells]
    refine ⟨?_, (h.any o ho).2⟩
    by_cases hc : d * 6 ≤ o ∧ o < d * 6 + 6
    · have := hin (o - d * 6) (by omega)
      rw [show d * 6 + (o - d * 6) = o by omega] at this
      rw [this]
      exact ⟨_, List.getElem?_eq_getElem (by rw [hlen]; omega)⟩
    · rw [hout tb o (fun _ => by omega)]
      exact (h.any o ho).1
  · by_cases hid : i = d
    · subst hid
      rw [if_pos rfl]
      exact ⟨hkeep _ _ hs hg, hg⟩
    · rw [if_neg hid]
      exact ⟨hkeep _ _ (h.kids i (by omega)).1 (h.kids i (by omega)).2, (h.kids i (by omega)).2⟩
  · rw [hb.block _ (by have := h.lo; omega)]
    exact h.box
theorem Tw.mark {w0 U : World} {n tb t tk : Nat} {f : Nat → Nd} {kvs : Nat → Value} (h : Tw w0 n tb n f kvs U) (ht : t < n) :
    Tw w0 n tb n (fun k => if k = t then { f t with opn := true, til := tk } else f k) kvs ((U.setCell ⟨tb, t * 6 + 5, none⟩ (.bool true)).setCell ⟨tb, t * 6 + 3, none⟩ (.int .i64 (tk : Int))) := by
  have hb : Below tb U ((U.setCell ⟨tb, t * 6 + 5, none⟩ (.bool true)).setCell ⟨tb, t * 6 + 3, none⟩ (.int .i64 (tk : Int))) := ((Below.refl _ U).setCell (p := ⟨tb, t * 6 + 5, none⟩) (Nat.le_refl _) _).setCell (p := ⟨tb, t * 6 + 3, none⟩) (Nat.le_refl _) _
  have hout : ∀ (b o : Nat), (b = tb → o ≠ t * 6 + 5 ∧ o ≠ t * 6 + 3) → ((U.setCell ⟨tb, t * 6 + 5, none⟩ (.bool true)).setCell ⟨tb, t * 6 + 3, none⟩ (.int .i64 (tk : Int))).cell? ⟨b, o, none⟩ = U.cell? ⟨b, o, none⟩ := fun b o hbo => by
    rw [World.cell?_setCell_other _ _ _ _ (by intro e; cases e; exact (hbo rfl).2 rfl), World.cell?_setCell_other _ _ _ _ (by intro e; cases e; exact (hbo rfl).1 rfl)]
  obtain ⟨⟨u5, h5⟩, _⟩ := h.any (t * 6 + 5) (by omega)
  obtain ⟨⟨u3, h3⟩, _⟩ := h.any (t * 6 + 3) (by omega)
  have hin5 : ((U.setCell ⟨tb, t * 6 + 5, none⟩ (.bool true)).setCell ⟨tb, t * 6 + 3, none⟩ (.int .i64 (tk : Int))).cell? ⟨tb, t * 6 + 5, none⟩ = some (.bool true) := by
    rw [World.cell?_setCell_other _ _ _ _ (by intro e; simp at e), World.cell?_setCell_same _ _ _ h5]
  have hin3 : ((U.setCell ⟨tb, t * 6 + 5, none⟩ (.bool true)).setCell ⟨tb, t * 6 + 3, none⟩ (.int .i64 (tk : Int))).cell? ⟨tb, t * 6 + 3, none⟩ = some (.int .i64 (tk : Int)) := by
    rw [World.cell?_setCell_same _ _ _ (u := u3) (by rw [World.cell?_setCell_other _ _ _ _ (by intro e; simp at e)]; exact h3)]
  have hsz : ((U.setCell ⟨tb, t * 6 + 5, none⟩ (.bool true)).setCell ⟨tb, t * 6 + 3, none⟩ (.int .i64 (tk : Int))).heap.size = U.heap.size := by simp
  refine ⟨⟨h.lo.1, by rw [hsz]; exact h.lo.2⟩, fun i hi j hj => ?_, fun o ho => ?_, fun i hi => ?_, ?_, h.below.trans (hb.mono (by have := h.lo; omega))⟩
  · by_cases hit : i = t
    · subst hit
      simp only [if_pos]
      have hc := h.cells i hi
      by_cases j5 : j = 5
      · subst j5; exact hin5
      · by_cases j3 : j = 3
        · subst j3; exact hin3
        · rw [hout tb _ (fun _ => by omega), hc j hj]
          have : j = 0 ∨ j = 1 ∨ j = 2 ∨ j = 4 := by omega
          rcases this with rfl | rfl | rfl | rfl <;> rfl
    · simp only [if_neg hit]
      rw [hout tb _ (fun _ => by omega)]
      exact h.cells i hi j hj
  · refine ⟨?_, by simpa using (h.any o ho).2⟩
    by_cases c5 : o = t * 6 + 5
    · rw [c5]; exact ⟨_, hin5⟩
    · by_cases c3 : o = t * 6 + 3
      · rw [c3]; exact ⟨_, hin3⟩
      · rw [hout tb o (fun _ => ⟨c5, c3⟩)]; exact (h.any o ho).1
  · have hk := h.kids i hi
    have hks : (if i = t then { f t with opn := true, til := tk } else f i).kids = (f i).kids := by
      by_cases hit : i = t
      · subst hit; rw [if_pos rfl]
      · rw [if_neg hit]
    refine ⟨?_, hk.2⟩
    rw [hks]
    rcases hk.1 with hv | ⟨g, cap, e1, e2, e3⟩
    · exact .inl hv
    · refine .inr ⟨g, cap, e1, by rw [hsz]; exact e2, fun j k hj => ?_⟩
      rw [hout g j (fun e => by have := hk.2 g (by rw [e1]; rfl); omega)]
      exact e3 j k hj
  · rw [hb.block _ (by have := h.lo; omega)]
    exact h.box

/-- a node as Tree shows it. -/
def shn (op : List Nat) (tk k : Nat) (x : Nd) : Nd := if k ∈ op then { x with opn := true, til := tk } else x
def nodeAt (ls : List (Nd × Value)) (k : Nat) : Nd := (ls[k]?.getD default).1
def treeOf (ls : List (Nd × Value)) (op : List Nat) (tk : Nat) : Array Nd := ((List.range ls.length).map fun k => shn op tk k (nodeAt ls k)).toArray
theorem treeOf_size (ls : List (Nd × Value)) (op : List Nat) (tk : Nat) : (treeOf ls op tk).size = ls.length := by simp [treeOf]
theorem treeOf_get (ls : List (Nd × Value)) (op : List Nat) (tk : Nat) (i : Nat) (hi : i < ls.length) : (treeOf ls op tk)[i]! = shn op tk i (nodeAt ls i) := by simp [treeOf, hi]
theorem shn_take (op : List Nat) (tk c t : Nat) (hc : op[c]? = some t) (ls : List (Nd × Value)) :
    (fun k => if k = t then { shn (op.take c) tk t (nodeAt ls t) with opn := true, til := tk } else shn (op.take c) tk k (nodeAt ls k)) = fun k => shn (op.take (c + 1)) tk k (nodeAt ls k) := by
  funext k
  have hm : k ∈ op.take (c + 1) ↔ k ∈ op.take c ∨ k = t := by
    rw [List.take_add_one, hc]
    simp
  unfold shn
  by_cases hk : k = t
  · subst hk
    rw [if_pos rfl, if_pos (hm.2 (.inr rfl))]
    split <;> rfl
  · rw [if_neg hk]
    by_cases hx : k ∈ op.take c
    · rw [if_pos hx, if_pos (hm.2 (.inl hx))]
    · rw [if_neg hx, if_neg (fun e => (hm.1 e).elim hx hk)]

def TreeDone (w : World) (ls : List (Nd × Value)) (op : List Nat) (tk : Nat) (e : Ending) (w' : World) : Prop := ∃ tb kvs, e = .returned (treeV tb ls.length ls.length) ∧ TreeAt w' w'.heap.size tb kvs (treeOf ls op tk) ∧ Below w.heap.size w w'

set_option maxHeartbeats 8000000 in
set_option maxRecDepth 1000000 in
theorem tree_some (h : Mk w base mb nv ov ls op tk) (hn : ls.length < 1048576) (hop : op.length < 1048576) (hot : ∀ t ∈ op, t < ls.length) (hks : ∀ (i : Nat) (p : Nd × Value), ls[i]? = some p → p.1.kids.length < 1048576) :
    Calls Try.prog 12 #[.pointer (some ⟨mb, 0, none⟩)] w (TreeDone w ls op tk) := by
  obtain ⟨an, cn, rfl⟩ := h.nform
  obtain ⟨ao, co, rfl⟩ := h.oform
  obtain ⟨N, hN⟩ : ∃ N, N = ls.length := ⟨_, rfl⟩
  obtain ⟨o, ho⟩ : ∃ o, o = op.length := ⟨_, rfl⟩
  have m0 := h.c0
  have m1 : w.cell? ⟨mb, 1, none⟩ = some (.slice an N cn) := by rw [hN]; exact h.c1
  have H := Lib.hid h
  have hml := h.mlt
  have HN := Lib.hid hN
  have HO := Lib.hid ho
  have HKS := Lib.hid hks
  have HOT := Lib.hid hot
  have hnz : N < 1048576 := by omega
  obtain ⟨mc, hmc⟩ : ∃ mc, mc = madeCells z44.cells (N * 6) := ⟨_, rfl⟩
  have hmk := make37 N hnz
  rw [← hmc] at hmk
  have hs : mc.size = N * 6 := by rw [hmc]; simp [madeCells]
  have HS := Lib.hid hs
  clear h hN ho hks hot hs hmc
  go_enter Try.func12, Try.ntmps12
  go_upto_region 4 with fail
  go_wp2
  have hTw : Hid (Tw w N (w.heap.size + 1) 0 (fun _ => default) (fun _ => default) ((w.alloc (.cells #[.slice none 0 0] 39)).alloc (.cells mc 44))) := by
    refine ⟨⟨rfl, by simp⟩, fun i hi => by omega, ?_, fun i hi => by omega, ?_, ((Below.refl _ w).alloc (Nat.le_refl _) _).alloc (by simp) _⟩
    · intro q hq
      refine ⟨⟨mc[q]!, ?_⟩, by simp⟩
      simp [HS.out, hq]
    · exact heap_alloc2_old _ _ _
  obtain ⟨tb, htb⟩ : ∃ tb, tb = w.heap.size + 1 := ⟨_, rfl⟩
  obtain ⟨rb, hrb⟩ : ∃ rb, rb = w.heap.size := ⟨_, rfl⟩
  generalize (w.alloc (.cells #[.slice none 0 0] 39)).alloc (.cells mc 44) = W1 at hTw ⊢
  rw [← htb] at hTw
  rw [← htb, ← hrb]
  have HRB := Lib.hid hrb
  have HTB := Lib.hid htb
  clear htb hrb m0 m1 hml hmk
  go_loopg [29] N (fun kx s29 wr => ∃ (i : Nat), s29 = .int .i64 i ∧ i ≤ N ∧ N - i ≤ kx ∧ Hid (∃ kvs, Tw w N tb i (nodeAt ls) kvs wr))
  case atStart => exact ⟨0, rfl, Nat.zero_le _, Nat.le_refl _, ⟨fun _ => default, hTw.out.lo, fun i hi => by omega, hTw.out.any, fun i hi => by omega, hTw.out.box, hTw.out.below⟩⟩
  case round =>
    clear hTw
    obtain ⟨i, rfl, hin, hkx, kvs, hR⟩ := hrel
    have HR := Lib.hid hR
    clear hR
    by_cases hlt : i < N
    · have hltz : (i : Int) < (N : Int) := by omega
      obtain ⟨p, hp⟩ : ∃ p, ls[i]? = some p := ⟨_, List.getElem?_eq_getElem (by have := HN.out; omega)⟩
      have HM := Lib.hid (H.out.below HR.out.below)
      obtain ⟨gn, cn', hnv⟩ := HM.out.nform' (by have := HN.out; omega)
      obtain ⟨rfl, _, rfl⟩ : an = some ⟨gn, 0, none⟩ ∧ True ∧ cn = cn' := by cases hnv; exact ⟨rfl, trivial, rfl⟩
      clear hnv
      have hsees := HM.out.sees hp
      have e0 : wr.cell? ⟨gn, i * 6, none⟩ = some (.bool p.1.tok) := (HM.out.cellN hp 0 (by omega)).1
      have e1 : wr.cell? ⟨gn, i * 6 + 1, none⟩ = some (.int .i64 p.1.arg) := (HM.out.cellN hp 1 (by omega)).1
      have e2 : wr.cell? ⟨gn, i * 6 + 2, none⟩ = some (.int .i64 p.1.frm) := (HM.out.cellN hp 2 (by omega)).1
      have e3 : wr.cell? ⟨gn, i * 6 + 3, none⟩ = some (.int .i64 p.1.til) := (HM.out.cellN hp 3 (by omega)).1
      have e4 : wr.cell? ⟨gn, i * 6 + 4, none⟩ = some p.2 := (HM.out.cellN hp 4 (by omega)).1
      have e5 : wr.cell? ⟨gn, i * 6 + 5, none⟩ = some (.bool p.1.opn) := (HM.out.cellN hp 5 (by omega)).1
      have HP := Lib.hid hp
      have HSE := Lib.hid hsees
      clear hsees hp
      obtain ⟨kv, hkv⟩ : ∃ kv, kv = p.2 := ⟨_, rfl⟩
      have hf : ∃ a m c, kv = .slice a m c := by
        rw [hkv]
        rcases HSE.out with ⟨h1, _⟩ | ⟨g, c, h1, _⟩
        · exact ⟨_, _, _, h1⟩
        · exact ⟨_, _, _, h1⟩
      obtain ⟨ka, km, kc, rfl⟩ := hf
      rw [← hkv] at e4 HSE
      have HKV := Lib.hid hkv
      clear hkv
      have hcl : ∀ W, Below wr.heap.size wr W → Calls Try.prog 24 #[.slice ka km kc] W fun e w' => ∃ v', e = .returned v' ∧ (∀ b o, b < W.heap.size → w'.cell? ⟨b, o, none⟩ = W.cell? ⟨b, o, none⟩) ∧ Sees w' w'.heap.size v' p.1.kids ∧ (∀ g, v'.ownBlock = some g → W.heap.size ≤ g) ∧ Below W.heap.size W w' := fun W hb =>
        clone_ints p.1.kids _ W ((HSE.out.keep fun b o hbo => hb.cell (p := ⟨b, o, none⟩) hbo).mono hb.size) (HKS.out i p HP.out)
      have HCL := Lib.hid hcl
      clear hcl
      have hwl : Hid (Below wr.heap.size wr wr) := Below.refl _ _
      go_upto_region 7 with fail
      obtain ⟨W, hW⟩ : ∃ W, W = wr.alloc (.cells #[.bool p.1.tok, .int .i64 p.1.arg, .int .i64 p.1.frm, .int .i64 p.1.til, .slice ka km kc, .bool p.1.opn] 44) := ⟨_, rfl⟩
      obtain ⟨xb, hxb⟩ : ∃ xb, xb = wr.heap.size := ⟨_, rfl⟩
      have b0 : W.cell? ⟨xb, 0, none⟩ = some (.bool p.1.tok) := by rw [hW, hxb]; simp
      have b1 : W.cell? ⟨xb, 1, none⟩ = some (.int .i64 p.1.arg) := by rw [hW, hxb]; simp
      have b2 : W.cell? ⟨xb, 2, none⟩ = some (.int .i64 p.1.frm) := by rw [hW, hxb]; simp
      have b3 : W.cell? ⟨xb, 3, none⟩ = some (.int .i64 p.1.til) := by rw [hW, hxb]; simp
      have b4 : W.cell? ⟨xb, 4, none⟩ = some (.slice ka km kc) := by rw [hW, hxb]; simp
      have b5 : W.cell? ⟨xb, 5, none⟩ = some (.bool p.1.opn) := by rw [hW, hxb]; simp
      have f4 : W.frozen? ⟨xb, 4, none⟩ = false := by rw [hW, hxb]; simp
      have hBW : Below wr.heap.size wr W := by rw [hW]; exact hwl.out.alloc (Nat.le_refl _) _
      have HBW := Lib.hid hBW
      have hc := HCL.out W hBW
      have HC := Lib.hid hc
      have hxW : xb < W.heap.size := World.block_lt_of_cell? _ _ b0
      rw [← hW, ← hxb]
      have HXB := Lib.hid hxb
      clear hW hxb hBW hc e0 e1 e2 e3 e4 e5 hwl
      go_upto_region 8 with (go_at_call 24; refine HC.out.mono ?_; rintro ee w3 ⟨v', rfl, r1, r2, r3, r4⟩; obtain ⟨va, vm, vc, rfl⟩ := r2.form; have d0 := (r1 xb 0 hxW).trans b0; have d1 := (r1 xb 1 hxW).trans b1; have d2 := (r1 xb 2 hxW).trans b2; have d3 := (r1 xb 3 hxW).trans b3; have d4 := (r1 xb 4 hxW).trans b4; have d5 := (r1 xb 5 hxW).trans b5; have g4 := (r4.frozen (p := ⟨xb, 4, none⟩) hxW).trans f4; have R2 := Lib.hid r2; have R3 := Lib.hid r3; have R4 := Lib.hid r4; clear r1 r2 r3 r4)
      have hst := Tw.put HR.out HBW.out R4.out R2.out R3.out HXB.out hxW (show i < N from hlt)
      obtain ⟨U, hU⟩ : ∃ U, U = w3.setCell ⟨xb, 4, none⟩ (.slice va vm vc) := ⟨_, rfl⟩
      have e0 : U.cell? ⟨xb, 0, none⟩ = some (.bool p.1.tok) := by rw [hU]; simp [World.cell?_setCell_other, d0]
      have e1 : U.cell? ⟨xb, 1, none⟩ = some (.int .i64 p.1.arg) := by rw [hU]; simp [World.cell?_setCell_other, d1]
      have e2 : U.cell? ⟨xb, 2, none⟩ = some (.int .i64 p.1.frm) := by rw [hU]; simp [World.cell?_setCell_other, d2]
      have e3 : U.cell? ⟨xb, 3, none⟩ = some (.int .i64 p.1.til) := by rw [hU]; simp [World.cell?_setCell_other, d3]
      have e4 : U.cell? ⟨xb, 4, none⟩ = some (.slice va vm vc) := by rw [hU]; exact World.cell?_setCell_same _ _ _ d4
      have e5 : U.cell? ⟨xb, 5, none⟩ = some (.bool p.1.opn) := by rw [hU]; simp [World.cell?_setCell_other, d5]
      rw [← hU] at hst ⊢
      have HST := Lib.hid hst
      have ha := hst.1
      have ⟨⟨u0, a0⟩, z0⟩ := ha (i * 6) (by omega)
      have ⟨⟨u1, a1⟩, z1⟩ := ha (i * 6 + 1) (by omega)
      have ⟨⟨u2, a2⟩, z2⟩ := ha (i * 6 + 2) (by omega)
      have ⟨⟨u3, a3⟩, z3⟩ := ha (i * 6 + 3) (by omega)
      have ⟨⟨u4, a4⟩, z4⟩ := ha (i * 6 + 4) (by omega)
      have ⟨⟨u5, a5⟩, z5⟩ := ha (i * 6 + 5) (by omega)
      clear hU hst ha d0 d1 d2 d3 d4 d5 g4 b0 b1 b2 b3 b4 b5 f4 hxW
      go_upto_region 9 with fail
      have hfin := HST.out.2.1.row hlt (v' := .slice va vm vc) (by rw [show nodeAt ls i = p.1 by unfold nodeAt; rw [HP.out]; rfl]; exact HST.out.2.2.1) HST.out.2.2.2
      rw [show nodeAt ls i = p.1 by unfold nodeAt; rw [HP.out]; rfl] at hfin
      have HFIN := Lib.hid hfin
      clear hfin
      go_wp2
      go_roundg (N - (i + 1))
      case measure => omega
      case rel => exact ⟨i + 1, by go_num, by omega, Nat.le_refl _, _, HFIN.out⟩
    · have hltz : ¬ (i : Int) < (N : Int) := by omega
      have hiN : N = i := by omega
      subst hiN
      have HM := Lib.hid (H.out.below HR.out.below)
      have m2 : wr.cell? ⟨mb, 2, none⟩ = some (.slice ao o co) := by rw [HO.out]; exact HM.out.c2
      have hoz : o < 1048576 := by have := HO.out; omega
      go_upto_region 11 with fail
      clear m2 hkx hin hlt hltz
      go_loopg [48] o (fun kx s48 wr => ∃ (c : Nat), s48 = .int .i64 c ∧ c ≤ o ∧ o - c ≤ kx ∧ Hid (∃ kvs, Tw w N tb N (fun k => shn (op.take c) tk k (nodeAt ls k)) kvs wr))
      case atStart => exact ⟨0, rfl, Nat.zero_le _, Nat.le_refl _, _, HR.out⟩
      case round =>
        clear HR HM
        obtain ⟨c, rfl, hco, hkx, kvs, hR⟩ := hrel
        have HR := Lib.hid hR
        clear hR
        have HM := Lib.hid (H.out.below HR.out.below)
        by_cases hlt : c < o
        · have hltz : (c : Int) < (o : Int) := by omega
          obtain ⟨t, ht⟩ : ∃ t, op[c]? = some t := ⟨_, List.getElem?_eq_getElem (by have := HO.out; omega)⟩
          have htN : t < N := by have := HOT.out t (List.mem_of_getElem? ht); have := HN.out; omega
          have htz : (t : Int) < (N : Int) := by omega
          obtain ⟨go, co', hov⟩ := HM.out.oform' (by have := HO.out; omega)
          obtain ⟨rfl, _, rfl⟩ : ao = some ⟨go, 0, none⟩ ∧ True ∧ co = co' := by cases hov; exact ⟨rfl, trivial, rfl⟩
          clear hov
          have eo : wr.cell? ⟨go, c, none⟩ = some (.int .i64 (t : Int)) := by
            rw [HM.out.opens.cellAt c (by have := HO.out; omega), ints_get, ht]
            rfl
          obtain ⟨⟨u5, h5⟩, z5⟩ := HR.out.any (t * 6 + 5) (by omega)
          obtain ⟨⟨u3, h3⟩, z3⟩ := HR.out.any (t * 6 + 3) (by omega)
          have h3' : (wr.setCell ⟨tb, t * 6 + 5, none⟩ (.bool true)).cell? ⟨tb, t * 6 + 3, none⟩ = some u3 := by
            rw [World.cell?_setCell_other _ _ _ _ (by intro e; simp at e)]; exact h3
          have m3 : (wr.setCell ⟨tb, t * 6 + 5, none⟩ (.bool true)).cell? ⟨mb, 3, none⟩ = some (.int .i64 (tk : Int)) := by
            rw [World.cell?_setCell_other _ _ _ _ (by intro e; cases e)]; exact HM.out.c3
          have hfin := HR.out.mark (tk := tk) htN
          have he := shn_take op tk c t ht ls
          rw [he] at hfin
          have HFIN := Lib.hid hfin
          clear hfin he ht htN
          go_wp2
          go_roundg (o - (c + 1))
          case measure => omega
          case rel => exact ⟨c + 1, by go_num, by omega, Nat.le_refl _, _, HFIN.out⟩
        · have hltz : ¬ (c : Int) < (o : Int) := by omega
          have hcO : op.take c = op := List.take_of_length_le (by have := HO.out; omega)
          rw [hcO] at HR
          have hbox := HR.out.box
          rw [← HRB.out] at hbox
          have q0 : wr.cell? ⟨rb, 0, none⟩ = some (.slice none 0 0) := by simp [World.cell?, hbox]
          have q1 : wr.frozen? ⟨rb, 0, none⟩ = false := by simp [World.frozen?, hbox]
          have HQ := Lib.hid hbox
          clear hbox
          go_wp2
          refine bodyPost_ret (ret39 _ _ _ rb (.slice (some ⟨tb, 0, none⟩) N N) rfl rfl ?_) rfl ?_
          · rw [heap_setCell_same wr rb 0 _ 39 _ HQ.out]
            rfl
          · refine ⟨tb, kvs, by rw [← HN.out], ?_, ?_⟩
            · have hb : Below rb wr (wr.setCell ⟨rb, 0, none⟩ (.slice (some ⟨tb, 0, none⟩) N N)) := (Below.refl _ _).setCell (p := ⟨rb, 0, none⟩) (Nat.le_refl _) _
              have hne : ∀ b o, b ≠ rb → (wr.setCell ⟨rb, 0, none⟩ (.slice (some ⟨tb, 0, none⟩) N N)).cell? ⟨b, o, none⟩ = wr.cell? ⟨b, o, none⟩ := fun b o hbo => World.cell?_setCell_other _ _ _ _ (by intro e; cases e; exact hbo rfl)
              have hsz : (wr.setCell ⟨rb, 0, none⟩ (.slice (some ⟨tb, 0, none⟩) N N)).heap.size = wr.heap.size := by simp
              have htb : tb = rb + 1 := by rw [HTB.out, HRB.out]
              refine ⟨by rw [hsz]; exact HR.out.lo.2, Nat.le_refl _, fun i hi j hj => ?_, fun i hi => ?_⟩
              · rw [treeOf_size] at hi
                rw [treeOf_get _ _ _ _ hi, hne tb _ (by omega)]
                exact HR.out.cells i (by rw [HN.out]; exact hi) j hj
              · rw [treeOf_size] at hi
                rw [treeOf_get _ _ _ _ hi]
                obtain ⟨hk1, hk2⟩ := HR.out.kids i (by rw [HN.out]; exact hi)
                rcases hk1 with hv | ⟨g, cap, e1, e2, e3⟩
                · exact .inl hv
                · refine .inr ⟨g, cap, e1, by rw [hsz]; exact e2, fun j k hj => ?_⟩
                  rw [hne g j (by have := hk2 g (by rw [e1]; rfl); omega)]
                  exact e3 j k hj
            · exact HR.out.below.setCell (p := ⟨rb, 0, none⟩) (by show _ ≤ rb; rw [HRB.out]; exact Nat.le_refl _) _
end Go.Proofs.Ar
