/-
  What Leaves and Right tell of a tree: one that is right, and one of no nodes.
-/
import Derived.Test.YtkepcgknjfmgdaaRi
set_option linter.unusedVariables false
set_option linter.unusedSimpArgs false
namespace Go.Proofs.Ar
open Go.RowKit Go.Lib Go.Sort

/-- the state within Leaves. -/
structure Ls (w0 : World) (B tb ub bb cap T : Nat) (kvs : Nat → Value) (ns : Array Nd) (w : World) : Prop where
  tree : TreeAt w B tb kvs ns
  box : w.cell? ⟨bb, 0, none⟩ = some (.slice (some ⟨tb, 0, none⟩) ns.size cap)
  row : ∀ k, k < T → (∃ z : Int, w.cell? ⟨ub, k, none⟩ = some (.int .i64 z)) ∧ w.frozen? ⟨ub, k, none⟩ = false
  lo : B ≤ w0.heap.size
  hb : w0.heap.size ≤ bb ∧ bb < ub ∧ ub < w.heap.size
  below : Below w0.heap.size w0 w
variable {w0 : World} {B tb ub bb cap T : Nat} {kvs : Nat → Value} {ns : Array Nd} {w : World}
theorem Ls.of_below {w' : World} (h : Ls w0 B tb ub bb cap T kvs ns w) (hb : Below w.heap.size w w') : Ls w0 B tb ub bb cap T kvs ns w' := by
  obtain ⟨h1, h2, h3⟩ := h.hb
  refine ⟨h.tree.below (hb.mono h.tree.le), ?_, ?_, h.lo, ⟨h1, h2, Nat.lt_of_lt_of_le h3 hb.size⟩, h.below.trans (hb.mono h.below.size)⟩
  · rw [hb.cell (p := ⟨bb, 0, none⟩) (show bb < _ by omega)]; exact h.box
  · intro k hk
    rw [hb.cell (p := ⟨ub, k, none⟩) h3, hb.frozen (p := ⟨ub, k, none⟩) h3]
    exact h.row k hk
theorem Ls.put (h : Ls w0 B tb ub bb cap T kvs ns w) (k : Nat) (z : Int) (hk : k < T) : Ls w0 B tb ub bb cap T kvs ns (w.setCell ⟨ub, k, none⟩ (.int .i64 z)) := by
  obtain ⟨h1, h2, h3⟩ := h.hb
  have hlo := h.lo
  refine ⟨?_, ?_, ?_, h.lo, ⟨h1, h2, by simpa using h3⟩, h.below.setCell (p := ⟨ub, k, none⟩) (show w0.heap.size ≤ ub by omega) _⟩
  · refine h.tree.keep (fun b o hbo => World.cell?_setCell_other _ _ _ _ (by intro e; cases e; omega)) (by simpa using h.tree.le)
  · rw [World.cell?_setCell_other _ _ _ _ (by intro e; cases e; omega)]; exact h.box
  · intro j hj
    rw [World.frozen?_setCell]
    refine ⟨?_, (h.row j hj).2⟩
    by_cases c : j = k
    · subst c
      obtain ⟨z0, hz⟩ := (h.row j hj).1
      exact ⟨z, by rw [World.cell?_setCell_same' _ _ _ (by rw [hz]; rfl)]⟩
    · rw [World.cell?_setCell_other _ _ _ _ (by intro e; cases e; exact c rfl)]
      exact (h.row j hj).1
/-- a slice of so many numbers, or nil; nothing that was there is turned. -/
def SliceOf (n : Nat) (w : World) (e : Ending) (w' : World) : Prop := (∃ a c, e = .returned (.slice a n c)) ∧ Below w.heap.size w w'

set_option maxHeartbeats 4000000 in
theorem right_none (a : Option Addr) (c : Nat) (w : World) : Calls Try.prog 13 #[.agg #[.slice a 0 c]] w (BelowB false w) := by
  go_enter Try.func13, Try.ntmps13
  go_wp2
  go_ret
  exact ⟨rfl, (Below.refl _ w).alloc (Nat.le_refl _) _⟩
set_option maxHeartbeats 4000000 in
theorem leaves_none (a : Option Addr) (c : Nat) (w : World) : Calls Try.prog 14 #[.agg #[.slice a 0 c]] w (SliceOf 0 w) := by
  have h := right_none a c
  have H := Lib.hid h
  clear h
  go_enter Try.func14, Try.ntmps14
  go_wp2_with (go_at_call 13; refine (H.out _).mono ?_; rintro ee w1 ⟨rfl, hb⟩; have HB := Lib.hid hb; clear hb)
  go_ret
  exact ⟨⟨_, _, rfl⟩, ((Below.refl _ w).alloc (Nat.le_refl _) _).trans (HB.out.mono (by simp))⟩

set_option maxHeartbeats 8000000 in
set_option maxRecDepth 1000000 in
theorem leaves_true (B tb cap : Nat) (kvs : Nat → Value) (ns : Array Nd) (w : World) (hT : TreeAt w B tb kvs ns) (hG : Good ns) (hle : ∀ i, i < ns.size → ns[i]!.tok = true → ns[i]!.frm < ns[0]!.til) (htl : ns[0]!.til < 1048576) :
    Calls Try.prog 14 #[treeV tb ns.size cap] w (SliceOf ns[0]!.til w) := by
  have hr := fun (W : World) (h : TreeAt W B tb kvs ns) => right_true B tb cap kvs ns W h hG
  obtain ⟨n, hns⟩ : ∃ n, n = ns.size := ⟨_, rfl⟩
  obtain ⟨T, hTT⟩ : ∃ T, T = ns[0]!.til := ⟨_, rfl⟩
  have hbw : Below w.heap.size w (w.alloc (.cells #[.slice (some ⟨tb, 0, none⟩) n cap] 39)) := (Below.refl _ w).alloc (Nat.le_refl _) _
  have h1 := hr (w.alloc (.cells #[.slice (some ⟨tb, 0, none⟩) n cap] 39)) (hT.below (hbw.mono hT.le))
  rw [← hns] at h1 ⊢
  rw [← hTT] at hle htl ⊢
  have hn0 : 0 < n := by have := hG.pos; omega
  have HT := Lib.hid hT
  have HG := Lib.hid hG
  have HNS := Lib.hid hns
  have HTT := Lib.hid hTT
  have HLE := Lib.hid hle
  have H1 := Lib.hid h1
  have HBW := Lib.hid hbw
  have hnz : n < 1048576 := by have := hG.small.1; omega
  have hmk := make41 T htl
  have HMK := Lib.hid hmk
  clear hT hG hns hTT hle h1 hr hbw hmk
  go_enter Try.func14, Try.ntmps14
  go_upto_if 8 with (go_at_call 13; refine H1.out.mono ?_; rintro ee w1 ⟨rfl, hb⟩; have HB := Lib.hid hb; clear hb)
  have hT1 := Lib.hid (HT.out.below ((HBW.out.trans (HB.out.mono (by have := HBW.out.size; omega))).mono HT.out.le))
  have hbx : w1.cell? ⟨w.heap.size, 0, none⟩ = some (.slice (some ⟨tb, 0, none⟩) n cap) := by
    rw [HB.out.cell (p := ⟨w.heap.size, 0, none⟩) (by simp)]
    simp
  have hbx2 := Lib.hid hbx
  have c3 : w1.cell? ⟨tb, 3, none⟩ = some (.int .i64 (T : Int)) := by
    have := hT1.out.cells 0 (by have := HNS.out; omega) 3 (by omega)
    rw [show (cellsN ns[0]! (kvs 0))[3]? = some (.int .i64 ns[0]!.til) from rfl, ← HTT.out] at this
    exact this
  have hmk := HMK.out
  have hs1 : Hid (w.heap.size + 1 ≤ w1.heap.size) := by
    have h := HB.out.size
    have e : (w.alloc (.cells #[.slice (some ⟨tb, 0, none⟩) n cap] 39)).heap.size = w.heap.size + 1 := by simp
    rw [e] at h
    exact h
  have hbxa : (w1.alloc (.cells (Array.replicate T (.int .i64 0)) 3)).cell? ⟨w.heap.size, 0, none⟩ = some (.slice (some ⟨tb, 0, none⟩) n cap) := by
    rw [((Below.refl _ w1).alloc (Nat.le_refl _) (.cells (Array.replicate T (.int .i64 0)) 3)).cell (p := ⟨w.heap.size, 0, none⟩) (show w.heap.size < w1.heap.size by have := hs1.out; omega)]
    exact hbx
  go_wp2
  clear hmk hbxa
  have hL : Hid (Ls w B tb w1.heap.size w.heap.size cap T kvs ns (w1.alloc (.cells (Array.replicate T (.int .i64 0)) 3))) := by
    have hba : Below w1.heap.size w1 (w1.alloc (.cells (Array.replicate T (.int .i64 0)) 3)) := (Below.refl _ w1).alloc (Nat.le_refl _) _
    have hs := hs1.out
    refine ⟨hT1.out.below (hba.mono (by have := hT1.out.le; omega)), ?_, ?_, HT.out.le, ⟨Nat.le_refl _, by omega, by simp⟩, ?_⟩
    · rw [hba.cell (p := ⟨w.heap.size, 0, none⟩) (show w.heap.size < _ by omega), ← HNS.out]; exact hbx2.out
    · intro k hk
      constructor
      · exact ⟨0, by simp [hk]⟩
      · simp
    · exact (HBW.out.trans (HB.out.mono (by have := HBW.out.size; omega))).trans (hba.mono (by omega))
  obtain ⟨ub, hub⟩ : ∃ ub, ub = w1.heap.size := ⟨_, rfl⟩
  obtain ⟨bb, hbb⟩ : ∃ bb, bb = w.heap.size := ⟨_, rfl⟩
  generalize w1.alloc (.cells (Array.replicate T (.int .i64 0)) 3) = W2 at hL ⊢
  rw [← hub, ← hbb] at hL
  rw [← hub, ← hbb]
  clear hub hbb hbx c3 hs1
  go_loopg [18] n (fun kx s18 wr => ∃ (i : Nat), s18 = .int .i64 i ∧ i ≤ n ∧ n - i ≤ kx ∧ Hid (Ls w B tb ub bb cap T kvs ns wr))
  case atStart => exact ⟨0, rfl, Nat.zero_le _, Nat.le_refl _, hL⟩
  case round =>
    clear hL
    obtain ⟨i, rfl, hin, hkx, hR⟩ := hrel
    by_cases hlt : i < n
    · have hltz : (i : Int) < (n : Int) := by omega
      have his : i < ns.size := by have := HNS.out; omega
      have hcs := hR.out.tree.cells i his
      have hkk := hR.out.tree.kids i his
      obtain ⟨x, hx⟩ : ∃ x, x = ns[i]! := ⟨_, rfl⟩
      obtain ⟨V, hV⟩ : ∃ V, V = kvs i := ⟨_, rfl⟩
      rw [← hx, ← hV] at hcs hkk
      have HX := Lib.hid hx
      clear hx hV
      have hl : ∃ a m kcap, V = .slice a m kcap := by
        rcases hkk with ⟨h, h'⟩ | ⟨g, kc, h, hg, h'⟩
        · exact ⟨_, _, _, h⟩
        · exact ⟨_, _, _, h⟩
      obtain ⟨a, m, kcap, rfl⟩ := hl
      have e0 : wr.cell? ⟨tb, i * 6, none⟩ = some (.bool x.tok) := hcs 0 (by omega)
      have e1 : wr.cell? ⟨tb, i * 6 + 1, none⟩ = some (.int .i64 x.arg) := hcs 1 (by omega)
      have e2 : wr.cell? ⟨tb, i * 6 + 2, none⟩ = some (.int .i64 x.frm) := hcs 2 (by omega)
      have e3 : wr.cell? ⟨tb, i * 6 + 3, none⟩ = some (.int .i64 x.til) := hcs 3 (by omega)
      have e4 : wr.cell? ⟨tb, i * 6 + 4, none⟩ = some (.slice a m kcap) := hcs 4 (by omega)
      have e5 : wr.cell? ⟨tb, i * 6 + 5, none⟩ = some (.bool x.opn) := hcs 5 (by omega)
      have HIS := Lib.hid his
      obtain ⟨W3, hW3⟩ : ∃ W3, W3 = wr.alloc (.cells #[.bool x.tok, .int .i64 x.arg, .int .i64 x.frm, .int .i64 x.til, .slice a m kcap, .bool x.opn] 44) := ⟨_, rfl⟩
      have hR3 : Hid (Ls w B tb ub bb cap T kvs ns W3) := by
        show Ls _ _ _ _ _ _ _ _ _ _
        rw [hW3]
        exact hR.out.of_below ((Below.refl _ wr).alloc (Nat.le_refl _) _)
      clear hcs hkk his
      obtain ⟨tk, htk⟩ : ∃ tk, tk = x.tok := ⟨_, rfl⟩
      rw [← htk] at e0 hW3
      have HTK := Lib.hid htk
      clear htk
      cases tk with
      | false =>
        have HW3 := Lib.hid hW3
        clear hW3
        go_wp2
        go_roundg (n - (i + 1))
        case measure => omega
        case rel => exact ⟨i + 1, by go_num, by omega, Nat.le_refl _, by rw [← HW3.out]; exact hR3⟩
      | true =>
        have hft : x.frm < T := by
          have := HLE.out i HIS.out (by rw [← HX.out]; exact HTK.out.symm)
          rw [← HX.out] at this
          exact this
        have hftz : (x.frm : Int) < (T : Int) := by omega
        obtain ⟨⟨z0, hz0⟩, hzf⟩ := hR3.out.row x.frm hft
        have hR4 := Lib.hid (hR3.out.put x.frm x.arg hft)
        rw [hW3] at hz0 hzf hR4
        clear hW3 hft hR3
        go_wp2
        go_roundg (n - (i + 1))
        case measure => omega
        case rel => exact ⟨i + 1, by go_num, by omega, Nat.le_refl _, hR4⟩
    · have hltz : ¬ (i : Int) < (n : Int) := by omega
      go_wp2
      go_ret
      exact ⟨⟨_, _, rfl⟩, hR.out.below⟩
end Go.Proofs.Ar
