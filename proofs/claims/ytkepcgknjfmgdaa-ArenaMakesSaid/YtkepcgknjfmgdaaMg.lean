/-
  A maker whose rows grow. No condition.
-/
import Derived.Test.YtkepcgknjfmgdaaMk
set_option linter.unusedVariables false
set_option linter.unusedSimpArgs false
namespace Go.Proofs.Ar
open Go.RowKit Go.Lib Go.Sort
variable {w w1 w2 : World} {base mb : Nat} {nv ov : Value} {ls : List (Nd × Value)} {op : List Nat} {tk : Nat}

/-- what is apart from a row is apart from what it grew to. -/
theorem ap_new {v v' b : Value} {g H : Nat} (hv : v'.ownBlock = some g) (hat : v.ownBlock = some g ∨ H ≤ g) (hb : ∀ k, b.ownBlock = some k → k < H) (h : Ap v b) : Ap v' b := by
  right
  rw [hv]
  intro e
  rcases hat with h1 | h1
  · rcases h with h2 | h2
    · rw [h1] at h2; cases h2
    · exact h2 (by rw [h1, e])
  · have := hb g e.symm
    omega
theorem ap_kept {v b : Value} (h : Ap v b) : v.ownBlock = none ∨ v.ownBlock ≠ b.ownBlock := h

theorem Mk.kidGrown {i N g gn cap : Nat} {p : Nd × Value} {v' : Value} (h : Mk w1 base mb (.slice (some ⟨gn, 0, none⟩) ls.length cap) ov ls op tk) (hp : ls[i]? = some p) (hg : w1.grownBy w2 p.2.ownBlock)
    (ho : w2.ownsRow base 3 1 v' (p.1.kids.length + 1) (ints p.1.kids ++ [.int .i64 (N : Int)])) (hv : v'.ownBlock = some g) (hat : p.2.ownBlock = some g ∨ w1.heap.size ≤ g) :
    Mk (w2.setCell ⟨gn, i * 6 + 4, none⟩ v') base mb (.slice (some ⟨gn, 0, none⟩) ls.length cap) ov (ls.set i ({ p.1 with kids := p.1.kids ++ [N] }, v')) op tk := by
  have na : ∀ b : Value, (∀ k, b.ownBlock = some k → k < w1.heap.size) → Ap p.2 b → Ap v' b := fun b hb hab => ap_new hv hat hb hab
  have lts : ∀ (v : Value) (e s n : Nat) (xs : List Value), w1.ownsRow base e s v n xs → ∀ k, v.ownBlock = some k → k < w1.heap.size := fun v e s n xs ho k hk => (ho.lt k hk).2
  have hpn := (h.a5 i p hp).1
  have hpo := (h.a5 i p hp).2
  have hnodes := h.nodes.kept hg (ap_kept hpn.symm)
  obtain ⟨hs, hg2⟩ := hnodes.stored (i * 6 + 4) v'
  rw [flatN_set ls i p ({ p.1 with kids := p.1.kids ++ [N] }, v') 4 v' hp (by omega) rfl] at hs
  have hmb : w2.heap[mb]? = w1.heap[mb]? := hg.block mb h.mlt (by intro e; exact h.a3 i p hp e.symm)
  have vn : Ap v' (.slice (some ⟨gn, 0, none⟩) ls.length cap) := na _ (lts _ _ _ _ _ h.nodes) hpn
  have hset : ∀ (k : Nat) (q : Nd × Value), (ls.set i ({ p.1 with kids := p.1.kids ++ [N] }, v'))[k]? = some q → (k = i ∧ q = ({ p.1 with kids := p.1.kids ++ [N] }, v')) ∨ (k ≠ i ∧ ls[k]? = some q) := by
    intro k q hq
    rw [List.getElem?_set] at hq
    by_cases c : i = k
    · subst c
      rw [if_pos rfl] at hq
      split at hq
      · cases hq; exact .inl ⟨rfl, rfl⟩
      · cases hq
    · rw [if_neg c] at hq
      exact .inr ⟨Ne.symm c, hq⟩
  have hsz : base ≤ (w2.setCell ⟨gn, i * 6 + 4, none⟩ v').heap.size := by
    have := hg.size
    have := h.lo.2
    simp
    omega
  refine ⟨?_, ⟨h.lo.1, hsz⟩, by rw [List.length_set]; exact hs, (h.opens.kept hg (ap_kept hpo.symm)).kept hg2 (ap_kept h.a4.symm), ?_, h.a1, h.a2, ?_, h.a4, ?_, ?_⟩
  · exact (hg2.block mb (Nat.lt_of_lt_of_le h.mlt hg.size) (by intro e; exact h.a1 (by rw [e]; rfl))).trans (hmb.trans h.blk)
  · intro k q hq
    rcases hset k q hq with ⟨rfl, rfl⟩ | ⟨hk, hq⟩
    · have e : ints (p.1.kids ++ [N]) = ints p.1.kids ++ [.int .i64 (N : Int)] := by unfold ints; simp
      show World.ownsRow _ base 3 1 v' (p.1.kids ++ [N]).length (ints (p.1.kids ++ [N]))
      rw [e, List.length_append]
      exact ho.kept hg2 (ap_kept vn)
    · exact ((h.kids k q hq).kept hg (ap_kept (h.a6 k i q p hq hp hk))).kept hg2 (ap_kept (h.a5 k q hq).1)
  · intro k q hq
    rcases hset k q hq with ⟨rfl, rfl⟩ | ⟨hk, hq⟩
    · show v'.ownBlock ≠ some mb
      rw [hv]
      intro e
      cases e
      rcases hat with h1 | h1
      · exact h.a3 _ _ hp h1
      · have := h.mlt; omega
    · exact h.a3 k q hq
  · intro k q hq
    rcases hset k q hq with ⟨rfl, rfl⟩ | ⟨hk, hq⟩
    · exact ⟨vn, na _ (lts _ _ _ _ _ h.opens) hpo⟩
    · exact h.a5 k q hq
  · intro k l q r hq hr hkl
    rcases hset k q hq with ⟨rfl, rfl⟩ | ⟨hk, hq⟩
    · rcases hset l r hr with ⟨rfl, rfl⟩ | ⟨hl, hr⟩
      · exact absurd rfl hkl
      · exact na _ (lts _ _ _ _ _ (h.kids l r hr)) (h.a6 _ l p r hp hr hkl)
    · have hq' : Hid (ls[k]? = some q) := hq
      rcases hset l r hr with ⟨rfl, rfl⟩ | ⟨hl, hr⟩
      · exact (na _ (lts _ _ _ _ _ (h.kids k q hq'.out)) (h.a6 _ k p q hp hq'.out (Ne.symm hkl))).symm
      · exact h.a6 k l q r hq'.out hr hkl

theorem Mk.nodeGrown {g : Nat} {x : Nd} {nv' : Value} (h : Mk w1 base mb nv ov ls op tk) (hx : x.kids = []) (hg : w1.grownBy w2 nv.ownBlock)
    (ho : w2.ownsRow base 44 6 nv' (ls.length + 1) (flatN ls ++ cellsN x (.slice none 0 0))) (hv : nv'.ownBlock = some g) (hat : nv.ownBlock = some g ∨ w1.heap.size ≤ g) :
    Mk (w2.setCell ⟨mb, 1, none⟩ nv') base mb nv' ov (ls ++ [(x, .slice none 0 0)]) op tk := by
  have na : ∀ b : Value, (∀ k, b.ownBlock = some k → k < w1.heap.size) → Ap nv b → Ap nv' b := fun b hb hab => ap_new hv hat hb hab
  have lts : ∀ (v : Value) (e s n : Nat) (xs : List Value), w1.ownsRow base e s v n xs → ∀ k, v.ownBlock = some k → k < w1.heap.size := fun v e s n xs ho k hk => (ho.lt k hk).2
  have hmb : w2.heap[mb]? = w1.heap[mb]? := hg.block mb h.mlt (by intro e; exact h.a1 e.symm)
  have hg2 := grownBy_setCell w2 mb 1 nv'
  have h1 : nv'.ownBlock ≠ some mb := by
    rw [hv]
    intro e
    cases e
    rcases hat with h1 | h1
    · exact h.a1 h1
    · have := h.mlt; omega
  have happ : ∀ (k : Nat) (q : Nd × Value), (ls ++ [(x, Value.slice none 0 0)])[k]? = some q → ls[k]? = some q ∨ (k = ls.length ∧ q = (x, .slice none 0 0)) := by
    intro k q hq
    rw [List.getElem?_append] at hq
    split at hq
    · exact .inl hq
    · right
      by_cases c : k - ls.length = 0
      · rw [c] at hq
        simp at hq
        exact ⟨by omega, hq.symm⟩
      · rw [List.getElem?_eq_none (by simp; omega)] at hq; cases hq
  have hsz : base ≤ (w2.setCell ⟨mb, 1, none⟩ nv').heap.size := by
    have := hg.size
    have := h.lo.2
    simp
    omega
  refine ⟨?_, ⟨h.lo.1, hsz⟩, ?_, (h.opens.kept hg (ap_kept h.a4.symm)).kept hg2 (.inr h.a2), ?_, h1, h.a2, ?_, na _ (lts _ _ _ _ _ h.opens) h.a4, ?_, ?_⟩
  · rw [heap_setCell_same w2 mb 1 _ 46 nv' (hmb.trans h.blk)]; rfl
  · rw [List.length_append, flatN_append]
    exact ho.kept hg2 (.inr h1)
  · intro k q hq
    rcases happ k q hq with hq | ⟨_, rfl⟩
    · exact ((h.kids k q hq).kept hg (ap_kept (h.a5 k q hq).1)).kept hg2 (.inr (h.a3 k q hq))
    · show World.ownsRow _ base 3 1 (.slice none 0 0) x.kids.length (ints x.kids)
      rw [hx]
      exact World.ownsRow_nil _ _ _ _
  · intro k q hq
    rcases happ k q hq with hq | ⟨_, rfl⟩
    · exact h.a3 k q hq
    · show (Value.slice none 0 0).ownBlock ≠ _; simp [Value.ownBlock]
  · intro k q hq
    rcases happ k q hq with hq | ⟨_, rfl⟩
    · exact ⟨(na _ (lts _ _ _ _ _ (h.kids k q hq)) (h.a5 k q hq).1.symm).symm, (h.a5 k q hq).2⟩
    · exact ⟨.inl rfl, .inl rfl⟩
  · intro k l q r hq hr hkl
    rcases happ k q hq with hq | ⟨e1, rfl⟩
    · rcases happ l r hr with hr | ⟨e2, rfl⟩
      · exact h.a6 k l q r hq hr hkl
      · exact (show Ap (Value.slice none 0 0) q.2 from .inl rfl).symm
    · exact .inl rfl

theorem Mk.openGrown {g N : Nat} {ov' : Value} (h : Mk w1 base mb nv ov ls op tk) (hg : w1.grownBy w2 ov.ownBlock)
    (ho : w2.ownsRow base 3 1 ov' (op.length + 1) (ints op ++ [.int .i64 (N : Int)])) (hv : ov'.ownBlock = some g) (hat : ov.ownBlock = some g ∨ w1.heap.size ≤ g) :
    Mk (w2.setCell ⟨mb, 2, none⟩ ov') base mb nv ov' ls (op ++ [N]) tk := by
  have na : ∀ b : Value, (∀ k, b.ownBlock = some k → k < w1.heap.size) → Ap ov b → Ap ov' b := fun b hb hab => ap_new hv hat hb hab
  have lts : ∀ (v : Value) (e s n : Nat) (xs : List Value), w1.ownsRow base e s v n xs → ∀ k, v.ownBlock = some k → k < w1.heap.size := fun v e s n xs ho k hk => (ho.lt k hk).2
  have hmb : w2.heap[mb]? = w1.heap[mb]? := hg.block mb h.mlt (by intro e; exact h.a2 e.symm)
  have hg2 := grownBy_setCell w2 mb 2 ov'
  have h1 : ov'.ownBlock ≠ some mb := by
    rw [hv]
    intro e
    cases e
    rcases hat with h1 | h1
    · exact h.a2 h1
    · have := h.mlt; omega
  have hsz : base ≤ (w2.setCell ⟨mb, 2, none⟩ ov').heap.size := by
    have := hg.size
    have := h.lo.2
    simp
    omega
  have e : ints (op ++ [N]) = ints op ++ [.int .i64 (N : Int)] := by unfold ints; simp
  refine ⟨?_, ⟨h.lo.1, hsz⟩, (h.nodes.kept hg (ap_kept h.a4)).kept hg2 (.inr h.a1), ?_, ?_, h.a1, h1, h.a3, (na _ (lts _ _ _ _ _ h.nodes) h.a4.symm).symm, ?_, h.a6⟩
  · rw [heap_setCell_same w2 mb 2 _ 46 ov' (hmb.trans h.blk)]; rfl
  · rw [e, List.length_append]
    exact ho.kept hg2 (.inr h1)
  · intro k q hq
    exact ((h.kids k q hq).kept hg (ap_kept (h.a5 k q hq).2)).kept hg2 (.inr (h.a3 k q hq))
  · intro k q hq
    exact ⟨(h.a5 k q hq).1, (na _ (lts _ _ _ _ _ (h.kids k q hq)) (h.a5 k q hq).2.symm).symm⟩

theorem Mk.openCut {g N cap : Nat} {op' : List Nat} (h : Mk w base mb nv (.slice (some ⟨g, 0, none⟩) (op' ++ [N]).length cap) ls (op' ++ [N]) tk) :
    Mk (w.setCell ⟨mb, 2, none⟩ (.slice (some ⟨g, 0, none⟩) op'.length cap)) base mb nv (.slice (some ⟨g, 0, none⟩) op'.length cap) ls op' tk := by
  refine h.turn (by rfl) rfl ?_ h.a2 h.a4 (fun i p hp => (h.a5 i p hp).2)
  rcases h.opens.2 with ⟨h1, _⟩ | ⟨g', cap', cur, h1, h2, h3, h4, h5, h6, h7⟩
  · simp at h1
  · simp only [Value.slice.injEq, Option.some.injEq, Addr.mk.injEq, and_true, true_and] at h1
    obtain ⟨rfl, rfl⟩ := h1
    refine ⟨by unfold ints; simp, .inr ⟨g, cap, cur, rfl, h2, h3, by simp at h4; omega, h5, h6, ?_⟩⟩
    have e : ints (op' ++ [N]) = ints op' ++ [.int .i64 (N : Int)] := by unfold ints; simp
    rw [e] at h7
    have hli : (ints op').length = op'.length * 1 := by unfold ints; simp
    have h8 : cur.toList.take (op'.length * 1) = (cur.toList.take ((op' ++ [N]).length * 1)).take (op'.length * 1) := by
      rw [List.take_take]
      congr 1
      rw [List.length_append]
      simp
    rw [h8, h7, List.take_append_of_le_length (by omega), List.take_of_length_le (by omega)]
end Go.Proofs.Ar
