/-
  What opens tells of a node whose open kids are as they must be. Condition: they are.
-/
import Derived.Test.YtkepcgknjfmgdaaTr
set_option linter.unusedVariables false
set_option linter.unusedSimpArgs false
namespace Go.Proofs.Ar
open Go.RowKit Go.Lib Go.Sort

set_option maxHeartbeats 4000000 in
set_option maxRecDepth 100000 in
theorem opens_true (x : Nd) (kv : Value) (B tb cap : Nat) (kvs : Nat → Value) (ns : Array Nd) (w : World) (hT : TreeAt w B tb kvs ns) (hkv : Sees w B kv x.kids) (hn : ∀ k ∈ x.kids, k < ns.size) (ho : ∀ (c k : Nat), x.kids[c]? = some k → ns[k]!.opn = true → x.opn = true ∧ c + 1 = x.kids.length) (hsz : ns.size < 1048576) (hks : x.kids.length < 1048576) :
    Calls Try.prog 26 #[treeV tb ns.size cap, aggN x kv] w (GrownB true w) := by
  obtain ⟨tok, arg, frm, til, kids, opn⟩ := x
  simp only at hkv hn ho hks
  have hl : ∃ a kcap, kv = .slice a kids.length kcap ∧ ∀ (j : Nat) (k : Nat), kids[j]? = some k → ∃ g, a = some ⟨g, 0, none⟩ ∧ g < B ∧ w.cell? ⟨g, j, none⟩ = some (.int .i64 (k : Int)) := by
    rcases hkv with ⟨h, h'⟩ | ⟨g, kc, h, hg, h'⟩
    · subst h'; exact ⟨_, _, h, fun j k hj => by simp at hj⟩
    · exact ⟨_, _, h, fun j k hj => ⟨g, rfl, hg, h' j k hj⟩⟩
  obtain ⟨a, kcap, rfl, hkc⟩ := hl
  obtain ⟨m, hm⟩ : ∃ m, m = kids.length := ⟨_, rfl⟩
  rw [← hm] at hks ho ⊢
  obtain ⟨n, hns⟩ : ∃ n, n = ns.size := ⟨_, rfl⟩
  rw [← hns]
  have HT := Lib.hid hT
  have HM := Lib.hid hm
  have HNS := Lib.hid hns
  have HO := Lib.hid ho
  have HN := Lib.hid hn
  have HK := Lib.hid hkc
  have hnz : n < 1048576 := by omega
  clear hT hm hns ho hn hkc hkv hsz
  go_enter Try.func26, Try.ntmps26
  go_wp2
  obtain ⟨W, hW⟩ : ∃ W, W = (w.alloc (.cells #[.slice (some ⟨tb, 0, none⟩) n cap] 39)).alloc (.cells #[.bool tok, .int .i64 arg, .int .i64 frm, .int .i64 til, .slice a m kcap, .bool opn] 44) := ⟨_, rfl⟩
  have HW := Lib.hid hW
  have HTW := Lib.hid (HT.out.keep (w' := W) (fun b o hb => by rw [hW, alloc_eq_grow, alloc_eq_grow, grow_grow]; exact cell?_grow _ _ _ (by have := HT.out.le; exact Nat.lt_of_lt_of_le hb this)) (by rw [hW]; simp; have := HT.out.le; omega))
  have HKW : Hid (∀ (j : Nat) (k : Nat), kids[j]? = some k → ∃ g, a = some ⟨g, 0, none⟩ ∧ W.cell? ⟨g, j, none⟩ = some (.int .i64 (k : Int))) := fun j k hj => by
    obtain ⟨g, h1, h2, h3⟩ := HK.out j k hj
    refine ⟨g, h1, ?_⟩
    rw [hW, alloc_eq_grow, alloc_eq_grow, grow_grow, cell?_grow _ _ _ (by have := HT.out.le; exact Nat.lt_of_lt_of_le h2 this)]
    exact h3
  have b0 : W.cell? ⟨w.heap.size, 0, none⟩ = some (.slice (some ⟨tb, 0, none⟩) n cap) := by rw [hW]; simp
  have b4 : W.cell? ⟨w.heap.size + 1, 4, none⟩ = some (.slice a m kcap) := by rw [hW]; simp
  have b5 : W.cell? ⟨w.heap.size + 1, 5, none⟩ = some (.bool opn) := by rw [hW]; simp
  rw [← hW]
  clear hW
  go_loopg [10] m (fun kx s10 wr => ∃ (c : Nat), s10 = .int .i64 c ∧ c ≤ m ∧ m - c ≤ kx ∧ wr = W)
  case atStart => exact ⟨0, rfl, Nat.zero_le _, Nat.le_refl _, rfl⟩
  case round =>
    obtain ⟨c, rfl, hcm, hkx, rfl⟩ := hrel
    by_cases hlt : c < m
    · have hltz : (c : Int) < (m : Int) := by omega
      obtain ⟨k, hk⟩ : ∃ k, kids[c]? = some k := ⟨_, List.getElem?_eq_getElem (by have := HM.out; omega)⟩
      obtain ⟨g, rfl, hgc⟩ := HKW.out c k hk
      have hkn : k < n := by have := HN.out k (List.mem_of_getElem? hk); have := HNS.out; omega
      have hknz : (k : Int) < (n : Int) := by omega
      have c5 : wr.cell? ⟨tb, k * 6 + 5, none⟩ = some (.bool ns[k]!.opn) := by
        rw [HTW.out.cells k (by have := HNS.out; omega) 5 (by omega)]; rfl
      have hop := HO.out c k hk
      obtain ⟨o, hoo⟩ : ∃ o, ns[k]!.opn = o := ⟨_, rfl⟩
      rw [hoo] at c5 hop
      clear hk hoo
      cases o with
      | false =>
        clear hop
        go_wp2
        go_roundg (m - (c + 1))
        case measure => omega
        case rel => exact ⟨c + 1, by go_num, by omega, Nat.le_refl _, rfl⟩
      | true =>
        obtain ⟨h1, h2⟩ := hop rfl
        subst h1
        have hd : decide ((c : Int) < (m : Int) - 1) = false := by simp; omega
        have hd2 : ¬ (c : Int) < (m : Int) - 1 := by omega
        clear h2
        go_wp2
        go_roundg (m - (c + 1))
        case measure => omega
        case rel => exact ⟨c + 1, by go_num, by omega, Nat.le_refl _, rfl⟩
    · have hltz : ¬ (c : Int) < (m : Int) := by omega
      go_wp2
      go_ret
      refine ⟨by simp, ?_⟩
      rw [HW.out]
      exact ⟨_, by rw [alloc_eq_grow, alloc_eq_grow, grow_grow]⟩
end Go.Proofs.Ar
