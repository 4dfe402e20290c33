/-
  Cells of a maker, read off. No condition.
-/
import Derived.Test.YtkepcgknjfmgdaaAd
import Derived.Deep.Draws
set_option linter.unusedVariables false
set_option linter.unusedSimpArgs false
namespace Go.Proofs.Ar
open Go.RowKit Go.Lib Go.Sort
variable {w w1 w2 : World} {base mb : Nat} {nv ov : Value} {ls : List (Nd × Value)} {op : List Nat} {tk : Nat}

theorem Mk.drewN (h : Mk w base mb nv ov ls op tk) (n : Nat) : Mk (w.drewN n) base mb nv ov ls op tk := h.kept ⟨rfl, rfl, rfl, Nat.le_refl _, fun _ _ _ => rfl⟩
/-- the cell of a node's field. -/
theorem Mk.cellN {gn cn : Nat} (h : Mk w base mb (.slice (some ⟨gn, 0, none⟩) ls.length cn) ov ls op tk) {i : Nat} {p : Nd × Value} (hp : ls[i]? = some p) (j : Nat) (hj : j < 6) :
    w.cell? ⟨gn, i * 6 + j, none⟩ = (cellsN p.1 p.2)[j]? ∧ w.frozen? ⟨gn, i * 6 + j, none⟩ = false := by
  have hi : i < ls.length := (List.getElem?_eq_some_iff.1 hp).1
  refine ⟨?_, h.nodes.frozenAt _⟩
  rw [h.nodes.cellAt (i * 6 + j) (by omega)]
  exact flatN_get ls i p hp j hj
theorem Mk.cellO {g c : Nat} {op' : List Nat} {t : Nat} (h : Mk w base mb nv (.slice (some ⟨g, 0, none⟩) (op' ++ [t]).length c) ls (op' ++ [t]) tk) : w.cell? ⟨g, op'.length, none⟩ = some (.int .i64 (t : Int)) := by
  rw [h.opens.cellAt op'.length (by simp), ints_get]
  simp
theorem Mk.nform' (h : Mk w base mb nv ov ls op tk) (hl : 0 < ls.length) : ∃ g c, nv = .slice (some ⟨g, 0, none⟩) ls.length c := by
  obtain ⟨g, c, h1, _⟩ := h.nodes.form hl
  exact ⟨g, c, h1⟩
theorem Mk.oform' (h : Mk w base mb nv ov ls op tk) (hl : 0 < op.length) : ∃ g c, ov = .slice (some ⟨g, 0, none⟩) op.length c := by
  obtain ⟨g, c, h1, _⟩ := h.opens.form hl
  exact ⟨g, c, h1⟩

end Go.Proofs.Ar
