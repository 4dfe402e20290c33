/-
  What Right tells of a tree whose nodes go together. Condition: they do.
-/
import Derived.Test.YtkepcgknjfmgdaaOp
import Derived.Laws.MakeOwn
set_option linter.unusedVariables false
set_option linter.unusedSimpArgs false
namespace Go.Proofs.Ar
open Go.RowKit Go.Lib Go.Sort

/-- how often a node was met among the kids of the first i. -/
def cnt (ns : Array Nd) : Nat → Nat → Nat
  | 0, _ => 0
  | i + 1, k => cnt ns i k + ns[i]!.kids.count k
/-- the state within Right: the tree, its box, the row of counts. -/
structure Rs (w0 : World) (B tb ub bb cap : Nat) (kvs : Nat → Value) (ns : Array Nd) (u : Nat → Nat) (w : World) : Prop where
  tree : TreeAt w B tb kvs ns
  box : w.cell? ⟨bb, 0, none⟩ = some (.slice (some ⟨tb, 0, none⟩) ns.size cap)
  uses : ∀ k, k < ns.size → w.cell? ⟨ub, k, none⟩ = some (.int .i64 (u k : Int)) ∧ w.frozen? ⟨ub, k, none⟩ = false
  lo : B ≤ w0.heap.size
  hb : w0.heap.size ≤ bb ∧ bb < ub ∧ ub < w.heap.size
  below : Below w0.heap.size w0 w
variable {w0 : World} {B tb ub bb cap : Nat} {kvs : Nat → Value} {ns : Array Nd} {u : Nat → Nat} {w : World}
theorem below_grow (w : World) (os : Array Obj) : Below w.heap.size w (grow w os) := by
  refine ⟨rfl, rfl, rfl, by rw [size_grow]; exact Nat.le_add_right _ _, fun k hk => ?_⟩
  show (w.heap ++ os)[k]? = _
  rw [Array.getElem?_append_left hk]
theorem Rs.of_below {w' : World} (h : Rs w0 B tb ub bb cap kvs ns u w) (hb : Below w.heap.size w w') : Rs w0 B tb ub bb cap kvs ns u w' := by
  obtain ⟨h1, h2, h3⟩ := h.hb
  refine ⟨h.tree.below (hb.mono h.tree.le), ?_, ?_, h.lo, ⟨h1, h2, Nat.lt_of_lt_of_le h3 hb.size⟩, h.below.trans (hb.mono h.below.size)⟩
  · rw [hb.cell (p := ⟨bb, 0, none⟩) (show bb < _ by omega)]; exact h.box
  · intro k hk
    rw [hb.cell (p := ⟨ub, k, none⟩) h3, hb.frozen (p := ⟨ub, k, none⟩) h3]
    exact h.uses k hk
theorem Rs.grow (h : Rs w0 B tb ub bb cap kvs ns u w) (os : Array Obj) : Rs w0 B tb ub bb cap kvs ns u (grow w os) := h.of_below (below_grow w os)
theorem Rs.use (h : Rs w0 B tb ub bb cap kvs ns u w) (k v : Nat) (hk : k < ns.size) : Rs w0 B tb ub bb cap kvs ns (fun j => if j = k then v else u j) (w.setCell ⟨ub, k, none⟩ (.int .i64 (v : Int))) := by
  obtain ⟨h1, h2, h3⟩ := h.hb
  have hlo := h.lo
  refine ⟨?_, ?_, ?_, h.lo, ⟨h1, h2, by simpa using h3⟩, h.below.setCell (p := ⟨ub, k, none⟩) (show w0.heap.size ≤ ub by omega) _⟩
  · refine h.tree.keep (fun b o hbo => World.cell?_setCell_other _ _ _ _ (by intro e; cases e; omega)) (by simpa using h.tree.le)
  · rw [World.cell?_setCell_other _ _ _ _ (by intro e; cases e; omega)]; exact h.box
  · intro j hj
    rw [World.frozen?_setCell]
    refine ⟨?_, (h.uses j hj).2⟩
    by_cases c : j = k
    · subst c
      rw [if_pos rfl, World.cell?_setCell_same' _ _ _ (by rw [(h.uses j hj).1]; rfl)]
    · rw [if_neg c, World.cell?_setCell_other _ _ _ _ (by intro e; cases e; exact c rfl)]
      exact (h.uses j hj).1

/-- what a tree is that is right. -/
structure Good (ns : Array Nd) : Prop where
  pos : 0 < ns.size
  root : ns[0]!.tok = false ∧ ns[0]!.frm = 0
  up : ∀ i, i < ns.size → ∀ c k, ns[i]!.kids[c]? = some k → (if c = 0 then i else ns[i]!.kids.getD (c - 1) 0) < k ∧ k < ns.size
  spans : ∀ i, i < ns.size → spansP ns ns[i]!
  opens : ∀ i, i < ns.size → ∀ (c k : Nat), ns[i]!.kids[c]? = some k → ns[k]!.opn = true → ns[i]!.opn = true ∧ c + 1 = ns[i]!.kids.length
  once : ∀ k, 1 ≤ k → k < ns.size → cnt ns ns.size k = 1
  small : ns.size < 1048576 ∧ ∀ i, i < ns.size → ns[i]!.frm < 1048576 ∧ ns[i]!.kids.length < 1048576

theorem Sees.at {w : World} {B : Nat} {a : Option Addr} {m cap : Nat} {ks : List Nat} (h : Sees w B (.slice a m cap) ks) {j k : Nat} (hj : ks[j]? = some k) : ∃ g, a = some ⟨g, 0, none⟩ ∧ w.cell? ⟨g, j, none⟩ = some (.int .i64 (k : Int)) := by
  rcases h with ⟨_, h'⟩ | ⟨g, kc, h, hg, h'⟩
  · subst h'; simp at hj
  · cases h; exact ⟨g, rfl, h' j k hj⟩
theorem cnt_mono (ns : Array Nd) (k : Nat) : ∀ (i j : Nat), i ≤ j → cnt ns i k ≤ cnt ns j k := by
  intro i j
  induction j with
  | zero => intro h; have : i = 0 := by omega
            subst this; exact Nat.le_refl _
  | succ j ih =>
    intro h
    by_cases c : i = j + 1
    · subst c; exact Nat.le_refl _
    · have := ih (by omega)
      rw [cnt]; omega
theorem count_take {ks : List Nat} {c k : Nat} (h : ks[c]? = some k) (j : Nat) : (ks.take (c + 1)).count j = (ks.take c).count j + if j = k then 1 else 0 := by
  obtain ⟨h1, h2⟩ := List.getElem?_eq_some_iff.1 h
  rw [List.take_succ_eq_append_getElem h1, List.count_append, h2]
  by_cases e : j = k
  · subst e; simp
  · rw [if_neg e, List.count_cons_of_ne (by omega)]; simp
theorem spans_true (x : Nd) (kv : Value) (B tb cap : Nat) (kvs : Nat → Value) (ns : Array Nd) (w : World) (hT : TreeAt w B tb kvs ns) (hkv : Sees w B kv x.kids) (hn : ∀ k ∈ x.kids, k < ns.size) (hs : spansP ns x) (hsz : ns.size < 1048576) (hks : x.kids.length < 1048576) (hf : x.frm < 1048576) :
    Calls Try.prog 25 #[treeV tb ns.size cap, aggN x kv] w (GrownB true w) := by
  unfold spansP at hs
  cases ht : x.tok with
  | true =>
    rw [ht, if_pos rfl] at hs
    have hkv' : Sees w w.heap.size kv x.kids := by
      rcases hkv with h | ⟨g, c, h1, h2, h3⟩
      · exact .inl h
      · exact .inr ⟨g, c, h1, Nat.lt_of_lt_of_le h2 hT.le, h3⟩
    exact spans_tok x kv _ w ⟨_, rfl⟩ ht hs.1 hs.2.1 hs.2.2 hf hkv'
  | false =>
    rw [ht, if_neg (by simp)] at hs
    exact spans_rule x kv B tb cap kvs ns w hT ht hkv hn hs hsz hks
def BelowB (v : Bool) (w : World) (e : Ending) (w' : World) : Prop := e = .returned (.bool v) ∧ Below w.heap.size w w'

theorem zero_ints (n : Nat) : madeCells #[Value.int .i64 0] n = Array.replicate n (Value.int .i64 0) := by
  unfold madeCells
  apply Array.ext
  · simp
  · intro i h1 h2
    simp [Nat.mod_one]
noncomputable def i3 : TypeInfo := (Try.prog.info? 3).getD default
theorem info3 : Try.prog.info? 3 = some i3 := by kernel_rfl
theorem zero3 : i3.zero = some (.int .i64 0) := by kernel_rfl
theorem size3 : i3.size = 1 := by kernel_rfl
theorem bytes3 : i3.bytes = 8 := by kernel_rfl
/-- a row of noughts. -/
theorem make41 (n : Nat) (hn : n < 1048576) (w : World) : (Instr.makeSlice 41 (.int .i64 (n : Int)) (.int .i64 (n : Int))).run Try.prog w = .ok (.slice (some ⟨w.heap.size, 0, none⟩) n n) (w.alloc (.cells (Array.replicate n (.int .i64 0)) 3)) := by
  have := run_makeSlice (P := Try.prog) w 41 3 i3 (.int .i64 0) Try.underlying41 info3 zero3 .i64 .i64 n n (by omega) (Int.le_refl _) (by rw [size3]; simp; omega) (by rw [bytes3]; omega) (by omega)
  rw [size3, Nat.mul_one] at this
  simp only [Int.toNat_natCast] at this
  rw [this, show (Value.int IntKind.i64 0).cells = #[Value.int .i64 0] from rfl, zero_ints]

set_option maxHeartbeats 8000000 in
set_option maxRecDepth 1000000 in
theorem right_true (B tb cap : Nat) (kvs : Nat → Value) (ns : Array Nd) (w : World) (hT : TreeAt w B tb kvs ns) (hG : Good ns) :
    Calls Try.prog 13 #[treeV tb ns.size cap] w (BelowB true w) := by
  obtain ⟨n, hns⟩ : ∃ n, n = ns.size := ⟨_, rfl⟩
  have HT := Lib.hid hT
  have HG := Lib.hid hG
  have HNS := Lib.hid hns
  have hnz : n < 1048576 := by have := hG.small.1; omega
  have hn0 : 0 < n := by have := hG.pos; omega
  have c0 : w.cell? ⟨tb, 0, none⟩ = some (.bool false) := by
    have := hT.cells 0 hG.pos 0 (by omega)
    rw [show (cellsN ns[0]! (kvs 0))[0]? = some (.bool ns[0]!.tok) from rfl, hG.root.1] at this
    exact this
  have c2 : w.cell? ⟨tb, 2, none⟩ = some (.int .i64 0) := by
    have := hT.cells 0 hG.pos 2 (by omega)
    rw [show (cellsN ns[0]! (kvs 0))[2]? = some (.int .i64 ns[0]!.frm) from rfl, hG.root.2] at this
    exact this
  have d1 : ((n : Int) == 0) = false := by simp; omega
  have d2 : (n : Int) ≠ 0 := by omega
  have htl : tb < w.heap.size := by have := hT.lt; have := hT.le; omega
  rw [← hns]
  have hmk := make41 n hnz
  clear hT hG hns
  go_enter Try.func13, Try.ntmps13
  go_wp2
  have hRs : Hid (Rs w B tb (w.heap.size + 1) w.heap.size cap kvs ns (cnt ns 0) ((w.alloc (.cells #[.slice (some ⟨tb, 0, none⟩) n cap] 39)).alloc (.cells (Array.replicate n (.int .i64 0)) 3))) := by
    have hb : Below w.heap.size w ((w.alloc (.cells #[.slice (some ⟨tb, 0, none⟩) n cap] 39)).alloc (.cells (Array.replicate n (.int .i64 0)) 3)) := ((Below.refl _ w).alloc (Nat.le_refl _) _).alloc (by simp) _
    refine ⟨HT.out.below (hb.mono HT.out.le), by rw [← HNS.out]; simp, ?_, HT.out.le, ⟨Nat.le_refl _, Nat.lt_succ_self _, by simp⟩, hb⟩
    intro k hk
    rw [← HNS.out] at hk
    constructor
    · simp [cnt, hk]
    · simp
  obtain ⟨ub, hub⟩ : ∃ ub, ub = w.heap.size + 1 := ⟨_, rfl⟩
  obtain ⟨bb, hbb⟩ : ∃ bb, bb = w.heap.size := ⟨_, rfl⟩
  generalize (w.alloc (.cells #[.slice (some ⟨tb, 0, none⟩) n cap] 39)).alloc (.cells (Array.replicate n (.int .i64 0)) 3) = W1 at hRs ⊢
  rw [← hub, ← hbb] at hRs
  rw [← hub, ← hbb]
  clear hub hbb c0 c2 d1 d2 htl hmk
  go_loopg [37] n (fun kx s37 wr => ∃ (i : Nat), s37 = .int .i64 i ∧ i ≤ n ∧ n - i ≤ kx ∧ Hid (Rs w B tb ub bb cap kvs ns (cnt ns i) wr))
  case atStart => exact ⟨0, rfl, Nat.zero_le _, Nat.le_refl _, hRs⟩
  case round =>
    clear hRs
    obtain ⟨i, rfl, hin, hkx, hR⟩ := hrel
    by_cases hlt : i < n
    · have hltz : (i : Int) < (n : Int) := by omega
      have his : i < ns.size := by have := HNS.out; omega
      have hcs := hR.out.tree.cells i his
      have hkk := hR.out.tree.kids i his
      obtain ⟨x, hx⟩ : ∃ x, x = ns[i]! := ⟨_, rfl⟩
      obtain ⟨V, hV⟩ : ∃ V, V = kvs i := ⟨_, rfl⟩
      rw [← hx, ← hV] at hcs hkk
      have HX := Lib.hid hx
      have HV := Lib.hid hV
      clear hx hV
      have e0 : wr.cell? ⟨tb, i * 6, none⟩ = some (.bool x.tok) := hcs 0 (by omega)
      have e1 : wr.cell? ⟨tb, i * 6 + 1, none⟩ = some (.int .i64 x.arg) := hcs 1 (by omega)
      have e2 : wr.cell? ⟨tb, i * 6 + 2, none⟩ = some (.int .i64 x.frm) := hcs 2 (by omega)
      have e3 : wr.cell? ⟨tb, i * 6 + 3, none⟩ = some (.int .i64 x.til) := hcs 3 (by omega)
      have e4 : wr.cell? ⟨tb, i * 6 + 4, none⟩ = some V := hcs 4 (by omega)
      have e5 : wr.cell? ⟨tb, i * 6 + 5, none⟩ = some (.bool x.opn) := hcs 5 (by omega)
      have hl : ∃ a kcap, V = .slice a x.kids.length kcap ∧ ∀ (j : Nat) (k : Nat), x.kids[j]? = some k → ∃ g, a = some ⟨g, 0, none⟩ ∧ g < B ∧ wr.cell? ⟨g, j, none⟩ = some (.int .i64 (k : Int)) := by
        rcases hkk with ⟨h, h'⟩ | ⟨g, kc, h, hg, h'⟩
        · rw [h']; exact ⟨_, _, h, fun j k hj => by simp at hj⟩
        · exact ⟨_, _, h, fun j k hj => ⟨g, rfl, hg, h' j k hj⟩⟩
      obtain ⟨a, kcap, rfl, hkc⟩ := hl
      obtain ⟨m, hm⟩ : ∃ m, m = x.kids.length := ⟨_, rfl⟩
      have hmz : m < 1048576 := by have := (HG.out.small.2 i his).2; rw [← HX.out] at this; omega
      rw [← hm] at e4 hkk HV
      have HM := Lib.hid hm
      have HKC := Lib.hid hkc
      have HKK := Lib.hid hkk
      have HIS := Lib.hid his
      clear hcs hkk his hm hkc
      go_wp2
      obtain ⟨nb, hnb⟩ : ∃ nb, nb = wr.heap.size := ⟨_, rfl⟩
      have hR2 : Hid (Rs w B tb ub bb cap kvs ns (fun k => cnt ns i k + (x.kids.take 0).count k) (wr.alloc (.cells #[.bool x.tok, .int .i64 x.arg, .int .i64 x.frm, .int .i64 x.til, .slice a m kcap, .bool x.opn] 44))) := by
        have := hR.out.of_below ((Below.refl _ wr).alloc (Nat.le_refl _) (.cells #[.bool x.tok, .int .i64 x.arg, .int .i64 x.frm, .int .i64 x.til, .slice a m kcap, .bool x.opn] 44))
        have e : (fun k => cnt ns i k + (x.kids.take 0).count k) = cnt ns i := by funext k; simp
        show Rs _ _ _ _ _ _ _ _ _ _
        rw [e]
        exact this
      have hN2 : Hid (nb < (wr.alloc (.cells #[.bool x.tok, .int .i64 x.arg, .int .i64 x.frm, .int .i64 x.til, .slice a m kcap, .bool x.opn] 44)).heap.size ∧ ∀ j, j < 6 → (wr.alloc (.cells #[.bool x.tok, .int .i64 x.arg, .int .i64 x.frm, .int .i64 x.til, .slice a m kcap, .bool x.opn] 44)).cell? ⟨nb, j, none⟩ = (cellsN x (.slice a m kcap))[j]?) := by
        refine ⟨by rw [hnb]; simp, fun j hj => ?_⟩
        rw [hnb]
        have : j = 0 ∨ j = 1 ∨ j = 2 ∨ j = 3 ∨ j = 4 ∨ j = 5 := by omega
        rcases this with rfl | rfl | rfl | rfl | rfl | rfl <;> simp [cellsN]
      have hnu : Hid (ub < nb) := by show _ < _; rw [hnb]; exact hR.out.hb.2.2
      generalize wr.alloc (.cells #[.bool x.tok, .int .i64 x.arg, .int .i64 x.frm, .int .i64 x.til, .slice a m kcap, .bool x.opn] 44) = W2 at hR2 hN2 ⊢
      rw [← hnb]
      clear hnb e0 e1 e2 e3 e4 e5 hR
      go_loopg [6, 46] m (fun ky s6 s46 wq => ∃ (c last : Nat), s6 = .int .i64 last ∧ s46 = .int .i64 c ∧ c ≤ m ∧ m - c ≤ ky ∧ Hid (last = if c = 0 then i else x.kids.getD (c - 1) 0) ∧ Hid (Rs w B tb ub bb cap kvs ns (fun k => cnt ns i k + (x.kids.take c).count k) wq) ∧ Hid (nb < wq.heap.size ∧ ∀ j, j < 6 → wq.cell? ⟨nb, j, none⟩ = (cellsN x (.slice a m kcap))[j]?))
      case atStart => exact ⟨0, i, rfl, rfl, Nat.zero_le _, Nat.le_refl _, rfl, hR2, hN2⟩
      case round =>
        clear hR2 hN2
        obtain ⟨c, last, rfl, rfl, hcm, hky, hla, hRq, hNq⟩ := hrel
        by_cases hlt2 : c < m
        · have hltz2 : (c : Int) < (m : Int) := by omega
          obtain ⟨k, hk⟩ : ∃ k, x.kids[c]? = some k := ⟨_, List.getElem?_eq_getElem (by have := HM.out; omega)⟩
          have hse := hRq.out.tree.kids i HIS.out
          rw [← HV.out, ← HX.out] at hse
          obtain ⟨g, rfl, hgc⟩ := hse.at hk
          have hup := HG.out.up i HIS.out c k (by rw [← HX.out]; exact hk)
          rw [← HX.out, ← hla.out] at hup
          obtain ⟨hup1, hup2⟩ := hup
          have hkn : k < n := by have := HNS.out; omega
          have q1 : decide ((k : Int) ≤ (last : Int)) = false := by simp; omega
          have q2 : decide ((k : Int) ≥ (n : Int)) = false := by simp; omega
          have q3 : ¬ ((k : Int) ≤ (last : Int)) := by omega
          have q4 : (k : Int) < (n : Int) := by omega
          have hbx := hRq.out.box
          rw [← HNS.out] at hbx
          have hus := hRq.out.uses k hup2
          obtain ⟨uv, huv⟩ : ∃ uv, uv = cnt ns i k + (x.kids.take c).count k := ⟨_, rfl⟩
          have hu1 : wr.cell? ⟨ub, k, none⟩ = some (.int .i64 (uv : Int)) := by rw [huv]; exact hus.1
          have hu2 := hus.2
          have hlz : uv + 1 ≤ 1 := by
            have h1 := count_take hk k
            rw [if_pos rfl] at h1
            have h2 : (x.kids.take (c + 1)).count k ≤ x.kids.count k := (List.take_sublist _ _).count_le _
            have h3 := cnt_mono ns k (i + 1) ns.size HIS.out
            have hk1 : 1 ≤ k := by
              have := hla.out
              omega
            have h4 := HG.out.once k hk1 hup2
            rw [cnt, ← HX.out] at h3
            omega
          have hub1 : (uv : Int) < 100 := by omega
          have hub0 : (0 : Int) ≤ (uv : Int) := by omega
          have hRn : Hid (Rs w B tb ub bb cap kvs ns (fun k => cnt ns i k + (x.kids.take (c + 1)).count k) (wr.setCell ⟨ub, k, none⟩ (.int .i64 ((uv : Int) + 1)))) := by
            have h1 := hRq.out.use k (uv + 1) hup2
            have e : ((uv + 1 : Nat) : Int) = (uv : Int) + 1 := by omega
            rw [e] at h1
            have e2 : (fun j => if j = k then uv + 1 else cnt ns i j + (x.kids.take c).count j) = fun j => cnt ns i j + (x.kids.take (c + 1)).count j := by
              funext j
              rw [count_take hk j]
              by_cases ej : j = k
              · subst ej; rw [if_pos rfl, if_pos rfl, huv]; omega
              · rw [if_neg ej, if_neg ej]; omega
            rw [e2] at h1
            exact h1
          have hNn : Hid (nb < (wr.setCell ⟨ub, k, none⟩ (.int .i64 ((uv : Int) + 1))).heap.size ∧ ∀ j, j < 6 → (wr.setCell ⟨ub, k, none⟩ (.int .i64 ((uv : Int) + 1))).cell? ⟨nb, j, none⟩ = (cellsN x (.slice (some ⟨g, 0, none⟩) m kcap))[j]?) := by
            refine ⟨by simpa using hNq.out.1, fun j hj => ?_⟩
            rw [World.cell?_setCell_other _ _ _ _ (by intro e; cases e; have := hnu.out; omega)]
            exact hNq.out.2 j hj
          have hkk2 : Hid (x.kids[c]? = some k) := hk
          clear hk hse hup1 hup2 hus huv hlz hRq hNq
          go_wp2
          go_roundg (m - (c + 1))
          case measure => omega
          case rel =>
            refine ⟨c + 1, k, rfl, by go_num, by omega, Nat.le_refl _, ?_, hRn, hNn⟩
            show _ = _
            rw [if_neg (by omega), Nat.add_sub_cancel, List.getD_eq_getElem?_getD, hkk2.out]
            rfl
        · have hltz2 : ¬ (c : Int) < (m : Int) := by omega
          have hcm2 : c = m := by omega
          have hR3 : Hid (Rs w B tb ub bb cap kvs ns (cnt ns (i + 1)) wr) := by
            have h1 := hRq.out
            rw [List.take_of_length_le (by have := HM.out; omega)] at h1
            have e : (fun k => cnt ns i k + x.kids.count k) = cnt ns (i + 1) := by funext k; rw [cnt, ← HX.out]
            rw [e] at h1
            exact h1
          have hse := hR3.out.tree.kids i HIS.out
          rw [← HV.out, ← HX.out] at hse
          have hkn : ∀ k ∈ x.kids, k < ns.size := by
            intro k hk
            obtain ⟨j, hj⟩ := List.getElem?_of_mem hk
            exact (HG.out.up i HIS.out j k (by rw [← HX.out]; exact hj)).2
          have hsm := HG.out.small.2 i HIS.out
          rw [← HX.out] at hsm
          have hsp := spans_true x (.slice a m kcap) B tb cap kvs ns wr hR3.out.tree hse hkn (by have := HG.out.spans i HIS.out; rwa [← HX.out] at this) HG.out.small.1 hsm.2 hsm.1
          have hop : ∀ os, Calls Try.prog 26 #[treeV tb ns.size cap, aggN x (.slice a m kcap)] (grow wr os) (GrownB true (grow wr os)) := fun os =>
            opens_true x (.slice a m kcap) B tb cap kvs ns _ (hR3.out.grow os).tree (hse.keep (fun b o hb => cell?_grow _ _ _ (Nat.lt_of_lt_of_le hb hR3.out.tree.le))) hkn (by have := HG.out.opens i HIS.out; rwa [← HX.out] at this) HG.out.small.1 hsm.2
          rw [← HNS.out] at hsp hop
          have HSP := Lib.hid hsp
          have HOP := Lib.hid hop
          have hbx := hR3.out.box
          have hbxo := fun os => (hR3.out.grow os).box
          rw [← HNS.out] at hbx
          simp only [← HNS.out] at hbxo
          have n0 : wr.cell? ⟨nb, 0, none⟩ = some (.bool x.tok) := hNq.out.2 0 (by omega)
          have n1 : wr.cell? ⟨nb, 1, none⟩ = some (.int .i64 x.arg) := hNq.out.2 1 (by omega)
          have n2 : wr.cell? ⟨nb, 2, none⟩ = some (.int .i64 x.frm) := hNq.out.2 2 (by omega)
          have n3 : wr.cell? ⟨nb, 3, none⟩ = some (.int .i64 x.til) := hNq.out.2 3 (by omega)
          have n4 : wr.cell? ⟨nb, 4, none⟩ = some (.slice a m kcap) := hNq.out.2 4 (by omega)
          have n5 : wr.cell? ⟨nb, 5, none⟩ = some (.bool x.opn) := hNq.out.2 5 (by omega)
          have g0 : ∀ os, (grow wr os).cell? ⟨nb, 0, none⟩ = some (.bool x.tok) := fun os => (cell?_grow _ _ _ hNq.out.1).trans n0
          have g1 : ∀ os, (grow wr os).cell? ⟨nb, 1, none⟩ = some (.int .i64 x.arg) := fun os => (cell?_grow _ _ _ hNq.out.1).trans n1
          have g2 : ∀ os, (grow wr os).cell? ⟨nb, 2, none⟩ = some (.int .i64 x.frm) := fun os => (cell?_grow _ _ _ hNq.out.1).trans n2
          have g3 : ∀ os, (grow wr os).cell? ⟨nb, 3, none⟩ = some (.int .i64 x.til) := fun os => (cell?_grow _ _ _ hNq.out.1).trans n3
          have g4 : ∀ os, (grow wr os).cell? ⟨nb, 4, none⟩ = some (.slice a m kcap) := fun os => (cell?_grow _ _ _ hNq.out.1).trans n4
          have g5 : ∀ os, (grow wr os).cell? ⟨nb, 5, none⟩ = some (.bool x.opn) := fun os => (cell?_grow _ _ _ hNq.out.1).trans n5
          clear hse hkn hsm hsp hop hRq hNq hcm2
          go_wp2_with (first | (go_at_call 25; refine HSP.out.mono ?_; rintro ee w1 ⟨rfl, os, rfl⟩) | (go_at_call 26; refine (HOP.out _).mono ?_; rintro ee w1 ⟨rfl, os2, rfl⟩))
          go_roundg (n - (i + 1))
          case measure => omega
          case rel => exact ⟨i + 1, by go_num, by omega, Nat.le_refl _, (hR3.out.grow _).grow _⟩
    · have hltz : ¬ (i : Int) < (n : Int) := by omega
      have hin2 : i = n := by omega
      have hR2 : Hid (Rs w B tb ub bb cap kvs ns (cnt ns n) wr) := by rw [← hin2]; exact hR.out
      clear hin hkx hlt hR
      by_cases hn1 : n = 1
      · clear hn0 hnz
        have hi1 : i = 1 := by omega
        clear hltz hin2
        subst hn1
        subst hi1
        go_wp2
        go_loopg [82] 1 (fun kx s82 wx => s82 = .int .i64 0 ∧ wx = wr)
        case atStart => exact ⟨rfl, rfl⟩
        case round =>
          obtain ⟨rfl, rfl⟩ := hrel
          go_wp2
          go_ret
          exact ⟨rfl, hR2.out.below⟩
      · have hn2 : 1 < n := by omega
        have hn3 : (1 : Int) < (n : Int) := by omega
        have hn4 : (1 : Int) ≤ (n : Int) := by omega
        have hn5 : ((n : Int) == 1) = false := by simp; omega
        clear hin2
        go_wp2
        obtain ⟨n1, hn1'⟩ : ∃ n1, n1 = n - 1 := ⟨_, rfl⟩
        rw [← hn1']
        have HN1 := Lib.hid hn1'
        have hn1b : n1 < 1048576 := by omega
        clear hn1' hn1 hn2 hn3 hn4 hn5
        go_loopg [82] n1 (fun kx s82 wx => ∃ (c : Nat), s82 = .int .i64 c ∧ c ≤ n1 ∧ n1 - c ≤ kx ∧ wx = wr)
        case atStart => exact ⟨0, rfl, Nat.zero_le _, Nat.le_refl _, rfl⟩
        case round =>
          obtain ⟨c, rfl, hcn, hkx, rfl⟩ := hrel
          by_cases hlt : c < n1
          · have hltz : (c : Int) < (n1 : Int) := by omega
            have hus := (hR2.out.uses (1 + c) (by have := HN1.out; have := HNS.out; omega)).1
            have hon := HG.out.once (1 + c) (by omega) (by have := HN1.out; have := HNS.out; omega)
            rw [← HNS.out] at hon
            rw [hon] at hus
            have hus' : wr.cell? ⟨ub, 1 + c, none⟩ = some (.int .i64 1) := hus
            clear hus hon
            go_wp2
            go_roundg (n1 - (c + 1))
            case measure => omega
            case rel => exact ⟨c + 1, by go_num, by omega, Nat.le_refl _, rfl⟩
          · have hltz : ¬ (c : Int) < (n1 : Int) := by omega
            go_wp2
            go_ret
            exact ⟨rfl, hR2.out.below⟩
end Go.Proofs.Ar
