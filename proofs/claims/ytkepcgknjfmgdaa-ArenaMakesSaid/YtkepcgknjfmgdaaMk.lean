/-
  A maker as it lies in memory, and what becomes of it where its parts are turned. No condition.
-/
import Derived.Test.YtkepcgknjfmgdaaLe
import Derived.Laws.OwnMore
import Derived.OwnWalk
import Derived.Deep.AppendLies
set_option linter.unusedVariables false
set_option linter.unusedSimpArgs false
namespace Go.Proofs.Ar
open Go.RowKit Go.Lib Go.Sort

/-- apart in memory. -/
def Ap (a b : Value) : Prop := a.ownBlock = none ∨ a.ownBlock ≠ b.ownBlock
theorem Ap.symm {a b : Value} (h : Ap a b) : Ap b a := by
  unfold Ap at *
  rcases h with h | h
  · cases hb : b.ownBlock with
    | none => exact .inl rfl
    | some g => right; rw [h]; simp
  · exact .inr (Ne.symm h)
def ints (ks : List Nat) : List Value := ks.map fun (k : Nat) => Value.int .i64 (k : Int)
theorem ints_get (ks : List Nat) (j : Nat) : (ints ks)[j]? = (ks[j]?).map fun (k : Nat) => Value.int .i64 (k : Int) := by unfold ints; simp
def flatN (ls : List (Nd × Value)) : List Value := ls.flatMap fun p => cellsN p.1 p.2
theorem flatN_length (ls : List (Nd × Value)) : (flatN ls).length = ls.length * 6 := by
  induction ls with
  | nil => rfl
  | cons p ls ih =>
    show (cellsN p.1 p.2 ++ flatN ls).length = _
    rw [List.length_append, ih, List.length_cons]
    show 6 + _ = _
    omega
theorem flatN_get : ∀ (ls : List (Nd × Value)) (i : Nat) (p : Nd × Value), ls[i]? = some p → ∀ j, j < 6 → (flatN ls)[i * 6 + j]? = (cellsN p.1 p.2)[j]? := by
  intro ls
  induction ls with
  | nil => intro i p h; simp at h
  | cons q ls ih =>
    intro i p h j hj
    show (cellsN q.1 q.2 ++ flatN ls)[i * 6 + j]? = _
    cases i with
    | zero =>
      simp at h
      subst h
      rw [Nat.zero_mul, Nat.zero_add, List.getElem?_append_left (by exact hj)]
    | succ i =>
      rw [List.getElem?_append_right (by show 6 ≤ _; omega), show (i + 1) * 6 + j - (cellsN q.1 q.2).length = i * 6 + j from by show (i + 1) * 6 + j - 6 = _; omega]
      exact ih i p (by simpa using h) j hj
theorem flatN_set : ∀ (ls : List (Nd × Value)) (i : Nat) (p p' : Nd × Value) (j : Nat) (u : Value), ls[i]? = some p → j < 6 → (cellsN p.1 p.2).set j u = cellsN p'.1 p'.2 → (flatN ls).set (i * 6 + j) u = flatN (ls.set i p') := by
  intro ls
  induction ls with
  | nil => intro i p p' j u h; simp at h
  | cons q ls ih =>
    intro i p p' j u h hj he
    show (cellsN q.1 q.2 ++ flatN ls).set (i * 6 + j) u = _
    cases i with
    | zero =>
      simp at h
      subst h
      rw [Nat.zero_mul, Nat.zero_add, List.set_append_left _ _ (by exact hj), he]
      rfl
    | succ i =>
      rw [List.set_append_right _ _ (by show 6 ≤ _; omega), show (i + 1) * 6 + j - (cellsN q.1 q.2).length = i * 6 + j from by show (i + 1) * 6 + j - 6 = _; omega, ih i p p' j u (by simpa using h) hj he]
      rfl
theorem flatN_append (ls : List (Nd × Value)) (x : Nd) (v : Value) : flatN (ls ++ [(x, v)]) = flatN ls ++ cellsN x v := by
  unfold flatN
  rw [List.flatMap_append]
  simp

structure Mk (w : World) (base mb : Nat) (nv ov : Value) (ls : List (Nd × Value)) (op : List Nat) (tk : Nat) : Prop where
  blk : w.heap[mb]? = some (.cells #[.bool true, nv, ov, .int .i64 (tk : Int)] 46 (0, 0))
  lo : base ≤ mb ∧ base ≤ w.heap.size
  nodes : w.ownsRow base 44 6 nv ls.length (flatN ls)
  opens : w.ownsRow base 3 1 ov op.length (ints op)
  kids : ∀ (i : Nat) (p : Nd × Value), ls[i]? = some p → w.ownsRow base 3 1 p.2 p.1.kids.length (ints p.1.kids)
  a1 : nv.ownBlock ≠ some mb
  a2 : ov.ownBlock ≠ some mb
  a3 : ∀ (i : Nat) (p : Nd × Value), ls[i]? = some p → p.2.ownBlock ≠ some mb
  a4 : Ap nv ov
  a5 : ∀ (i : Nat) (p : Nd × Value), ls[i]? = some p → Ap p.2 nv ∧ Ap p.2 ov
  a6 : ∀ (i j : Nat) (p q : Nd × Value), ls[i]? = some p → ls[j]? = some q → i ≠ j → Ap p.2 q.2

variable {w : World} {base mb : Nat} {nv ov : Value} {ls : List (Nd × Value)} {op : List Nat} {tk : Nat}
theorem grownBy_setCell (w : World) (g j : Nat) (u : Value) : w.grownBy (w.setCell ⟨g, j, none⟩ u) (some g) :=
  ⟨rfl, rfl, rfl, by simp, fun k _ hk => heap_setCell_other w ⟨g, j, none⟩ k u (fun e => hk (by simp [e]))⟩
theorem Mk.mlt (h : Mk w base mb nv ov ls op tk) : mb < w.heap.size := (Array.getElem?_eq_some_iff.1 h.blk).1
/-- nothing of it is turned. -/
theorem Mk.kept {w' : World} (h : Mk w base mb nv ov ls op tk) (hg : w.grownBy w' none) : Mk w' base mb nv ov ls op tk := by
  have hn : ∀ v : Value, v.ownBlock = none ∨ v.ownBlock ≠ none := fun v => by cases v.ownBlock <;> simp
  exact ⟨(hg.block mb h.mlt (by simp)).trans h.blk, ⟨h.lo.1, Nat.le_trans h.lo.2 hg.size⟩, h.nodes.kept hg (hn _), h.opens.kept hg (hn _), fun i p hp => (h.kids i p hp).kept hg (hn _), h.a1, h.a2, h.a3, h.a4, h.a5, h.a6⟩
theorem Mk.alloc (h : Mk w base mb nv ov ls op tk) (o : Obj) : Mk (w.alloc o) base mb nv ov ls op tk := h.kept (World.grownBy_alloc w o none)
theorem Mk.drew (h : Mk w base mb nv ov ls op tk) : Mk w.drew base mb nv ov ls op tk := h.kept ⟨rfl, rfl, rfl, Nat.le_refl _, fun _ _ _ => rfl⟩

/-- the maker's own cells are turned. -/
theorem Mk.turn {u : Value} {j : Nat} {nv' ov' : Value} {op' : List Nat} {tk' : Nat} (h : Mk w base mb nv ov ls op tk)
    (hc : (#[.bool true, nv, ov, .int .i64 (tk : Int)] : Array Value).setIfInBounds j u = #[.bool true, nv', ov', .int .i64 (tk' : Int)])
    (hnv : nv' = nv) (hop : w.ownsRow base 3 1 ov' op'.length (ints op')) (h2 : ov'.ownBlock ≠ some mb) (h4 : Ap nv ov') (h5 : ∀ (i : Nat) (p : Nd × Value), ls[i]? = some p → Ap p.2 ov') :
    Mk (w.setCell ⟨mb, j, none⟩ u) base mb nv' ov' ls op' tk' := by
  subst hnv
  have hg := grownBy_setCell w mb j u
  refine ⟨?_, ⟨h.lo.1, by simpa using h.lo.2⟩, h.nodes.kept hg (.inr h.a1), hop.kept hg (.inr h2), fun i p hp => (h.kids i p hp).kept hg (.inr (h.a3 i p hp)), h.a1, h2, h.a3, h4, fun i p hp => ⟨(h.a5 i p hp).1, h5 i p hp⟩, h.a6⟩
  rw [heap_setCell_same w mb j _ 46 u h.blk, hc]
theorem Mk.tokens (h : Mk w base mb nv ov ls op tk) (tk' : Nat) : Mk (w.setCell ⟨mb, 3, none⟩ (.int .i64 (tk' : Int))) base mb nv ov ls op tk' :=
  h.turn (by rfl) rfl h.opens h.a2 h.a4 fun i p hp => (h.a5 i p hp).2
/-- a field of a node is turned. -/
theorem Mk.field {i j : Nat} {p p' : Nd × Value} {u : Value} {gn cap : Nat} (h : Mk w base mb (.slice (some ⟨gn, 0, none⟩) ls.length cap) ov ls op tk) (hp : ls[i]? = some p) (hj : j < 6) (he : (cellsN p.1 p.2).set j u = cellsN p'.1 p'.2)
    (hk : p'.1.kids = p.1.kids) (hv : p'.2 = p.2) : Mk (w.setCell ⟨gn, i * 6 + j, none⟩ u) base mb (.slice (some ⟨gn, 0, none⟩) ls.length cap) ov (ls.set i p') op tk := by
  obtain ⟨hs, hg⟩ := h.nodes.stored (i * 6 + j) u
  rw [flatN_set ls i p p' j u hp hj he] at hs
  have hap : ∀ v : Value, Ap v (.slice (some ⟨gn, 0, none⟩) ls.length cap) → v.ownBlock = none ∨ v.ownBlock ≠ some gn := fun v hv => hv
  have hget : ∀ (k : Nat) (q : Nd × Value), (ls.set i p')[k]? = some q → ∃ q0, ls[k]? = some q0 ∧ q.1.kids = q0.1.kids ∧ q.2 = q0.2 := by
    intro k q hq
    rw [List.getElem?_set] at hq
    by_cases c : i = k
    · subst c
      rw [if_pos rfl] at hq
      split at hq
      · cases hq; exact ⟨p, hp, hk, hv⟩
      · cases hq
    · rw [if_neg c] at hq
      exact ⟨q, hq, rfl, rfl⟩
  refine ⟨(hg.block mb h.mlt (by intro e; exact h.a1 (by rw [e]; rfl))).trans h.blk, ⟨h.lo.1, by simpa using h.lo.2⟩, by rw [List.length_set]; exact hs, h.opens.kept hg (hap _ h.a4.symm), ?_, h.a1, h.a2, ?_, h.a4, ?_, ?_⟩
  · intro k q hq
    obtain ⟨q0, e1, e2, e3⟩ := hget k q hq
    rw [e2, e3]
    exact (h.kids k q0 e1).kept hg (hap _ (h.a5 k q0 e1).1)
  · intro k q hq
    obtain ⟨q0, e1, e2, e3⟩ := hget k q hq
    rw [e3]; exact h.a3 k q0 e1
  · intro k q hq
    obtain ⟨q0, e1, e2, e3⟩ := hget k q hq
    rw [e3]; exact h.a5 k q0 e1
  · intro k l q r hq hr hkl
    obtain ⟨q0, e1, e2, e3⟩ := hget k q hq
    obtain ⟨r0, f1, f2, f3⟩ := hget l r hr
    rw [e3, f3]; exact h.a6 k l q0 r0 e1 f1 hkl
end Go.Proofs.Ar
