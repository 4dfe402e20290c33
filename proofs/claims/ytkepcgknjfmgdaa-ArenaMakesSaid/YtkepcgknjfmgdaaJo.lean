/-
  Maker.Open, Leaf, Shut: what they leave, and that it is as a tree must be. Condition: at most forty nodes.
-/
import Derived.Test.YtkepcgknjfmgdaaOo
import Derived.Test.YtkepcgknjfmgdaaAi
import Derived.Test.YtkepcgknjfmgdaaPl
set_option linter.unusedVariables false
set_option linter.unusedSimpArgs false
namespace Go.Proofs.Ar
open Go.RowKit Go.Lib Go.Sort
variable {w : World} {base mb : Nat} {nv ov : Value} {ls : List (Nd × Value)} {op : List Nat} {tk : Nat}

theorem nodeAt_end (ls : List (Nd × Value)) (q : Nd × Value) (t : Nat) (x : Nd) (v : Value) : nodeAt (ls.set t q ++ [(x, v)]) ls.length = x := by
  unfold nodeAt
  rw [List.getElem?_append_right (by simp)]
  simp
theorem nodeAt_top (ls : List (Nd × Value)) (q : Nd × Value) (t : Nat) (ht : t < ls.length) (x : Nd) (v : Value) : nodeAt (ls.set t q ++ [(x, v)]) t = q.1 := by
  unfold nodeAt
  rw [List.getElem?_append_left (by simpa using ht), List.getElem?_set]
  simp [ht]
theorem nodeAt_old (ls : List (Nd × Value)) (q : Nd × Value) (t i : Nat) (hi : i < ls.length) (hit : i ≠ t) (x : Nd) (v : Value) : nodeAt (ls.set t q ++ [(x, v)]) i = nodeAt ls i := by
  unfold nodeAt
  rw [List.getElem?_append_left (by simpa using hi), List.getElem?_set, if_neg (fun e => hit e.symm)]
theorem nodeAt_some {ls : List (Nd × Value)} {i : Nat} {p : Nd × Value} (h : ls[i]? = some p) : nodeAt ls i = p.1 := by unfold nodeAt; rw [h]; rfl

theorem add_any (h : Mk w base mb nv ov ls op tk) (hI : Inv (nodeAt ls) ls.length op tk) (hz : ls.length = 0 ∨ 0 < op.length) (hn : ls.length < 1048575) (ht : tk < 1048575) (hop : op.length < 1048575) (x : Nd) (hxk : x.kids = []) (hxo : x.opn = false) (hxf : x.frm = tk)
    (op2 : List Nat) (tk2 : Nat) (ho2 : op2 = op ∧ 0 < op.length ∧ x.tok = true ∧ x.til = tk + 1 ∧ tk2 = tk + 1 ∨ op2 = op ++ [ls.length] ∧ x.tok = false ∧ tk2 = tk) :
    Calls Try.prog 23 #[.pointer (some ⟨mb, 0, none⟩), aggN x (.slice none 0 0)] w fun e w' => e = .returned (.tuple #[]) ∧ ∃ l, (l.length = ls.length + 1 ∧ Inv (nodeAt l) l.length op2 tk2) ∧ Leaves w base mb l op tk w' := by
  by_cases hop0 : op = []
  · subst hop0
    have hl : ls.length = 0 := by simpa using hz
    obtain rfl := List.length_eq_zero_iff.1 hl
    refine (add_root x hxk h (by omega)).mono ?_
    rintro e w' ⟨rfl, h1⟩
    refine ⟨rfl, _, ⟨rfl, ?_⟩, h1⟩
    rcases ho2 with ⟨_, e, _⟩ | ⟨rfl, e1, rfl⟩
    · simp at e
    · have htk := (hI.none rfl).2
      subst htk
      exact Inv.first e1 hxf hxk hxo
  · obtain ⟨op', t, rfl⟩ : ∃ op' t, op = op' ++ [t] := ⟨op.dropLast, op.getLast hop0, (List.dropLast_concat_getLast hop0).symm⟩
    have htn := (hI.oplt t (by simp)).1
    obtain ⟨p, hp⟩ : ∃ p, ls[t]? = some p := ⟨_, List.getElem?_eq_getElem htn⟩
    refine (add_in x hxk op' t p h hp (by omega) (by rw [List.length_append, List.length_singleton] at hop; omega) (by have := (hI.small t htn).2; rw [nodeAt_some hp] at this; omega)).mono ?_
    rintro e w' ⟨rfl, v', h1⟩
    refine ⟨rfl, _, ⟨by simp, ?_⟩, h1⟩
    have hlen : (ls.set t ({ p.1 with kids := p.1.kids ++ [ls.length] }, v') ++ [(x, Value.slice none 0 0)]).length = ls.length + 1 := by simp
    rw [hlen]
    refine hI.add (by rw [nodeAt_top _ _ _ htn, nodeAt_some hp]) (fun i hi hit => nodeAt_old _ _ _ _ hi hit _ _) (by rw [nodeAt_end]; exact hxk) (by rw [nodeAt_end]; exact hxo) (by rw [nodeAt_end]; exact hxf) ?_
    rw [nodeAt_end]
    rcases ho2 with ⟨e1, _, e2, e3, e4⟩ | ⟨e1, e2, e3⟩
    · exact .inl ⟨e1, e2, e3, e4⟩
    · exact .inr ⟨e1, e2, e3⟩

/-- the maker, turned. -/
def Turned (w : World) (base mb n : Nat) (op : List Nat) (tk : Nat) (e : Ending) (w' : World) : Prop := ret0 0 e ∧ ∃ l, l.length = n ∧ Inv (nodeAt l) l.length op tk ∧ Leaves w base mb l op tk w'
theorem open_does (h : Mk w base mb nv ov ls op tk) (hI : Inv (nodeAt ls) ls.length op tk) (hz : ls.length = 0 ∨ 0 < op.length) (hn : ls.length < 1048575) (ht : tk < 1048575) (hop : op.length < 1048575) (a : Int) (ha : 0 ≤ a) :
    Calls Try.prog 9 #[.pointer (some ⟨mb, 0, none⟩), .int .i64 a] w (Turned w base mb (ls.length + 1) (op ++ [ls.length]) tk) := by
  refine (open_some h hz a ha hn (by omega) (fun l => l.length = ls.length + 1 ∧ Inv (nodeAt l) l.length (op ++ [ls.length]) tk) (fun l hl => hl.1) ?_).mono ?_
  · intro W nv' ov' hW hB
    refine (add_any hW hI hz hn ht hop ⟨false, a, tk, 0, [], false⟩ rfl rfl rfl (op ++ [ls.length]) tk (.inr ⟨rfl, rfl, rfl⟩)).mono ?_
    rintro e w' ⟨rfl, l, hl, nv2, ov2, h1, h2⟩
    exact ⟨rfl, l, nv2, ov2, hl, h1, h2⟩
  · rintro e w' ⟨h1, l, hl, h2⟩
    exact ⟨h1, l, hl.1, hl.2, h2⟩
theorem leaf_does (h : Mk w base mb nv ov ls op tk) (hI : Inv (nodeAt ls) ls.length op tk) (hz : 0 < op.length) (hn : ls.length < 1048575) (ht : tk < 1048575) (hop : op.length < 1048575) (a : Int) (ha : 0 ≤ a) :
    Calls Try.prog 10 #[.pointer (some ⟨mb, 0, none⟩), .int .i64 a] w (Turned w base mb (ls.length + 1) op (tk + 1)) := by
  refine (leaf_some h hz a ha (by omega) (fun w' => ∃ l, (l.length = ls.length + 1 ∧ Inv (nodeAt l) l.length op (tk + 1)) ∧ Leaves w base mb l op tk w') ?_).mono ?_
  · intro W nv' ov' hW hB
    refine (add_any hW hI (.inr hz) hn ht hop ⟨true, a, tk, tk + 1, [], false⟩ rfl rfl rfl op (tk + 1) (.inl ⟨rfl, hz, rfl, rfl, rfl⟩)).mono ?_
    rintro e w' ⟨rfl, l, hl, nv2, ov2, h1, h2⟩
    exact ⟨rfl, ⟨l, hl, nv2, ov2, h1, hB.trans h2⟩, h1.c3, h1.fz 3⟩
  · rintro e w' ⟨h1, w0, ⟨l, hl, nv2, ov2, h2, h3⟩, rfl⟩
    exact ⟨h1, l, hl.1, hl.2, nv2, ov2, h2.tokens (tk + 1), h3.setCell (p := ⟨mb, 3, none⟩) h2.lo.1 _⟩
theorem shut_does (op' : List Nat) (t : Nat) (h : Mk w base mb nv ov ls (op' ++ [t]) tk) (hI : Inv (nodeAt ls) ls.length (op' ++ [t]) tk) (hn : ls.length < 1048575) (hop : op'.length < 1048575) :
    Calls Try.prog 11 #[.pointer (some ⟨mb, 0, none⟩)] w (Turned w base mb ls.length op' tk) := by
  have htn := (hI.oplt t (by simp)).1
  obtain ⟨p, hp⟩ : ∃ p, ls[t]? = some p := ⟨_, List.getElem?_eq_getElem htn⟩
  refine (shut_some op' t p h hp (by omega) (by omega)).mono ?_
  rintro e w' ⟨h1, h2⟩
  refine ⟨h1, _, by simp, ?_, h2⟩
  rw [List.length_set]
  refine hI.shut (t := t) ?_ ?_
  · rw [nodeAt_some hp]; unfold nodeAt; rw [List.getElem?_set]; simp [htn]
  · intro i hi hit
    unfold nodeAt
    rw [List.getElem?_set, if_neg (fun e => hit e.symm)]
end Go.Proofs.Ar
