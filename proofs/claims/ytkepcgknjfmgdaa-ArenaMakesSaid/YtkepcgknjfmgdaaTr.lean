/-
  A tree as it lies in memory; what spans and opens tell of a node that is as it must be. Condition: it is so.
-/
import Derived.Test.YtkepcgknjfmgdaaProg
import Derived.Test.YtkepcgknjfmgdaaChecked
import Derived.WalkKit
import Derived.Sort.Grow
import Derived.Sort.Row
import Derived.Deep.LoopGhost
import Derived.Deep.CutRange
import Derived.Lib.Walk
import Derived.Lib.Hide
import Derived.RowKit
import Derived.Below
set_option linter.unusedVariables false
set_option linter.unusedSimpArgs false
namespace Go.Proofs.Ar
open Go.RowKit Go.Lib Go.Sort

/-- a node of a tree. -/
structure Nd where
  tok : Bool
  arg : Int
  frm : Nat
  til : Nat
  kids : List Nat
  opn : Bool
instance : Inhabited Nd := ⟨⟨false, 0, 0, 0, [], false⟩⟩

/-- a slice of numbers that reads so, below a bound. -/
def Sees (w : World) (B : Nat) (v : Value) (ks : List Nat) : Prop :=
  (v = .slice none 0 0 ∧ ks = []) ∨ ∃ g cap, v = .slice (some ⟨g, 0, none⟩) ks.length cap ∧ g < B ∧ ∀ (j : Nat) (k : Nat), ks[j]? = some k → w.cell? ⟨g, j, none⟩ = some (.int .i64 (k : Int))
/-- a node's cells. -/
def cellsN (x : Nd) (kv : Value) : List Value := [.bool x.tok, .int .i64 x.arg, .int .i64 x.frm, .int .i64 x.til, kv, .bool x.opn]
/-- a tree that lies there. -/
structure TreeAt (w : World) (B tb : Nat) (kv : Nat → Value) (ns : Array Nd) : Prop where
  lt : tb < B
  le : B ≤ w.heap.size
  cells : ∀ i, i < ns.size → ∀ j, j < 6 → w.cell? ⟨tb, i * 6 + j, none⟩ = (cellsN ns[i]! (kv i))[j]?
  kids : ∀ i, i < ns.size → Sees w B (kv i) ns[i]!.kids
theorem Sees.keep {w w' : World} {B : Nat} {v : Value} {ks : List Nat} (h : Sees w B v ks) (hk : ∀ b o, b < B → w'.cell? ⟨b, o, none⟩ = w.cell? ⟨b, o, none⟩) : Sees w' B v ks := by
  rcases h with h | ⟨g, cap, h1, h2, h3⟩
  · exact .inl h
  · exact .inr ⟨g, cap, h1, h2, fun j k hj => by rw [hk g j h2]; exact h3 j k hj⟩
theorem TreeAt.keep {w w' : World} {B tb : Nat} {kv : Nat → Value} {ns : Array Nd} (h : TreeAt w B tb kv ns) (hk : ∀ b o, b < B → w'.cell? ⟨b, o, none⟩ = w.cell? ⟨b, o, none⟩) (hs : B ≤ w'.heap.size) : TreeAt w' B tb kv ns :=
  ⟨h.lt, hs, fun i hi j hj => by rw [hk tb _ h.lt]; exact h.cells i hi j hj, fun i hi => (h.kids i hi).keep hk⟩
theorem TreeAt.below {w w' : World} {B tb : Nat} {kv : Nat → Value} {ns : Array Nd} (h : TreeAt w B tb kv ns) (hb : Below B w w') : TreeAt w' B tb kv ns :=
  h.keep (fun b o hbo => hb.cell (p := ⟨b, o, none⟩) hbo) (Nat.le_trans h.le hb.size)
/-- from where a node is, from kid to kid, to where it ends. -/
def chain (ns : Array Nd) : Nat → List Nat → Nat → Prop
  | at', [], fin => fin = at'
  | at', k :: ks, fin => ns[k]!.frm = at' ∧ chain ns ns[k]!.til ks fin
def spansP (ns : Array Nd) (x : Nd) : Prop :=
  if x.tok then x.kids = [] ∧ x.opn = false ∧ x.til = x.frm + 1 else chain ns x.frm x.kids x.til

abbrev aggN (x : Nd) (kv : Value) : Value := .agg #[.bool x.tok, .int .i64 x.arg, .int .i64 x.frm, .int .i64 x.til, kv, .bool x.opn]
abbrev treeV (tb n cap : Nat) : Value := .agg #[.slice (some ⟨tb, 0, none⟩) n cap]
def GrownB (v : Bool) (w : World) (e : Ending) (w' : World) : Prop := e = .returned (.bool v) ∧ ∃ os, w' = grow w os

set_option maxHeartbeats 4000000 in
set_option maxRecDepth 100000 in
theorem spans_tok (x : Nd) (kv : Value) (tv : Value) (w : World) (htv : ∃ s, tv = .agg #[s]) (ht : x.tok = true) (hk : x.kids = []) (ho : x.opn = false) (hto : x.til = x.frm + 1) (hf : x.frm < 1048576) (hkv : Sees w w.heap.size kv x.kids) :
    Calls Try.prog 25 #[tv, aggN x kv] w (GrownB true w) := by
  obtain ⟨s, rfl⟩ := htv
  obtain ⟨tok, arg, frm, til, kids, opn⟩ := x
  simp only at ht hk ho hto hf hkv
  subst ht hk ho hto
  have hl : ∃ a cap, kv = .slice a 0 cap := by
    rcases hkv with ⟨h, _⟩ | ⟨g, cap, h, _⟩
    · exact ⟨_, _, h⟩
    · exact ⟨_, _, h⟩
  obtain ⟨a, cap, rfl⟩ := hl
  have e1 : decide (((frm + 1 : Nat) : Int) > (frm : Int)) = true := by simp; omega
  go_enter Try.func25, Try.ntmps25
  go_wp2
  go_ret
  refine ⟨?_, ?_⟩
  · simp
  · exact ⟨_, by rw [alloc_eq_grow, alloc_eq_grow, grow_grow]⟩

theorem chain_nil {ns : Array Nd} {a f : Nat} (h : chain ns a [] f) : f = a := h
theorem chain_cons {ns : Array Nd} {a f k : Nat} {ks : List Nat} (h : chain ns a (k :: ks) f) : ns[k]!.frm = a ∧ chain ns ns[k]!.til ks f := h

set_option maxHeartbeats 4000000 in
set_option maxRecDepth 100000 in
theorem spans_rule (x : Nd) (kv : Value) (B tb cap : Nat) (kvs : Nat → Value) (ns : Array Nd) (w : World) (hT : TreeAt w B tb kvs ns) (ht : x.tok = false) (hkv : Sees w B kv x.kids) (hn : ∀ k ∈ x.kids, k < ns.size) (hc : chain ns x.frm x.kids x.til) (hsz : ns.size < 1048576) (hks : x.kids.length < 1048576) :
    Calls Try.prog 25 #[treeV tb ns.size cap, aggN x kv] w (GrownB true w) := by
  obtain ⟨tok, arg, frm, til, kids, opn⟩ := x
  simp only at ht hkv hn hc hks
  subst ht
  have hl : ∃ a kcap, kv = .slice a kids.length kcap ∧ ∀ (j : Nat) (k : Nat), kids[j]? = some k → ∃ g, a = some ⟨g, 0, none⟩ ∧ g < B ∧ w.cell? ⟨g, j, none⟩ = some (.int .i64 (k : Int)) := by
    rcases hkv with ⟨h, h'⟩ | ⟨g, kc, h, hg, h'⟩
    · subst h'; exact ⟨_, _, h, fun j k hj => by simp at hj⟩
    · exact ⟨_, _, h, fun j k hj => ⟨g, rfl, hg, h' j k hj⟩⟩
  obtain ⟨a, kcap, rfl, hkc⟩ := hl
  obtain ⟨m, hm⟩ : ∃ m, m = kids.length := ⟨_, rfl⟩
  rw [← hm] at hks ⊢
  obtain ⟨n, hns⟩ : ∃ n, n = ns.size := ⟨_, rfl⟩
  rw [← hns]
  have HT := Lib.hid hT
  have HM := Lib.hid hm
  have HNS := Lib.hid hns
  have HC := Lib.hid hc
  have HN := Lib.hid hn
  have HK := Lib.hid hkc
  have hnz : n < 1048576 := by omega
  clear hT hm hns hc hn hkc hkv hsz
  go_enter Try.func25, Try.ntmps25
  go_wp2
  obtain ⟨W, hW⟩ : ∃ W, W = (w.alloc (.cells #[.slice (some ⟨tb, 0, none⟩) n cap] 39)).alloc (.cells #[.bool false, .int .i64 arg, .int .i64 frm, .int .i64 til, .slice a m kcap, .bool opn] 44) := ⟨_, rfl⟩
  have HW := Lib.hid hW
  have HTW := Lib.hid (HT.out.keep (w' := W) (fun b o hb => by rw [hW, alloc_eq_grow, alloc_eq_grow, grow_grow]; exact cell?_grow _ _ _ (by have := HT.out.le; exact Nat.lt_of_lt_of_le hb this)) (by rw [hW]; simp; have := HT.out.le; omega))
  have HKW : Hid (∀ (j : Nat) (k : Nat), kids[j]? = some k → ∃ g, a = some ⟨g, 0, none⟩ ∧ W.cell? ⟨g, j, none⟩ = some (.int .i64 (k : Int))) := fun j k hj => by
    obtain ⟨g, h1, h2, h3⟩ := HK.out j k hj
    refine ⟨g, h1, ?_⟩
    rw [hW, alloc_eq_grow, alloc_eq_grow, grow_grow, cell?_grow _ _ _ (by have := HT.out.le; exact Nat.lt_of_lt_of_le h2 this)]
    exact h3
  have b0 : W.cell? ⟨w.heap.size, 0, none⟩ = some (.slice (some ⟨tb, 0, none⟩) n cap) := by rw [hW]; simp
  have b3 : W.cell? ⟨w.heap.size + 1, 3, none⟩ = some (.int .i64 til) := by rw [hW]; simp
  rw [← hW]
  clear hW
  go_loopg [5, 39] m (fun kx s5 s39 wr => ∃ (c at' : Nat), s5 = .int .i64 at' ∧ s39 = .int .i64 c ∧ c ≤ m ∧ m - c ≤ kx ∧ wr = W ∧ Hid (chain ns at' (kids.drop c) til))
  case atStart => exact ⟨0, frm, rfl, rfl, Nat.zero_le _, Nat.le_refl _, rfl, HC.out⟩
  case round =>
    obtain ⟨c, at', rfl, rfl, hcm, hkx, rfl, hch⟩ := hrel
    by_cases hlt : c < m
    · have hltz : (c : Int) < (m : Int) := by omega
      obtain ⟨k, hk⟩ : ∃ k, kids[c]? = some k := ⟨_, List.getElem?_eq_getElem (by have := HM.out; omega)⟩
      obtain ⟨g, rfl, hgc⟩ := HKW.out c k hk
      have hkn : k < n := by have := HN.out k (List.mem_of_getElem? hk); have := HNS.out; omega
      have hknz : (k : Int) < (n : Int) := by omega
      have hdrop : kids.drop c = k :: kids.drop (c + 1) := by
        obtain ⟨h1, h2⟩ := List.getElem?_eq_some_iff.1 hk
        rw [List.drop_eq_getElem_cons h1, h2]
      have hch2 := hch.out
      rw [hdrop] at hch2
      obtain ⟨hf, hrest⟩ := chain_cons hch2
      have c2 : wr.cell? ⟨tb, k * 6 + 2, none⟩ = some (.int .i64 (at' : Int)) := by
        rw [HTW.out.cells k (by have := HNS.out; omega) 2 (by omega), ← hf]; rfl
      have c3 : wr.cell? ⟨tb, k * 6 + 3, none⟩ = some (.int .i64 (ns[k]!.til : Int)) := by
        rw [HTW.out.cells k (by have := HNS.out; omega) 3 (by omega)]; rfl
      obtain ⟨t', ht'⟩ : ∃ t', ns[k]!.til = t' := ⟨_, rfl⟩
      rw [ht'] at c3 hrest
      have HR := Lib.hid hrest
      clear hk hdrop hch2 hf hrest ht'
      go_wp2
      go_roundg (m - (c + 1))
      case measure => omega
      case rel => exact ⟨c + 1, t', rfl, by go_num, by omega, Nat.le_refl _, rfl, HR.out⟩
    · have hltz : ¬ (c : Int) < (m : Int) := by omega
      have hend : til = at' := by
        have := hch.out
        rw [List.drop_eq_nil_of_le (by have := HM.out; omega)] at this
        exact chain_nil this
      subst hend
      go_wp2
      go_ret
      refine ⟨by simp, ?_⟩
      rw [HW.out]
      exact ⟨_, by rw [alloc_eq_grow, alloc_eq_grow, grow_grow]⟩
end Go.Proofs.Ar
