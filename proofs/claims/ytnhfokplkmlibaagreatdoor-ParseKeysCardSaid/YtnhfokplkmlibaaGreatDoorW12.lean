/-
  The tables of utf8, and what is told of calls that read them alone. No condition.
-/
import Derived.Test.YtnhfokplkmlibaaGreatDoorW11
set_option linter.unusedVariables false
set_option linter.unusedSimpArgs false
namespace Go.Ae
/-- how many bytes signs have that begin with a byte, and which second bytes they may have. -/
def tabF : List Nat := List.replicate 128 240 ++ (List.replicate 66 241 ++ (List.replicate 30 2 ++ (19 :: (List.replicate 12 3 ++ ([35, 3, 3, 52, 4, 4, 4, 68] ++ List.replicate 11 241)))))
def tabA : List Nat := [128, 191, 160, 191, 128, 159, 144, 191, 128, 143, 0, 0, 0, 0, 0, 0, 0, 0, 0, 0, 0, 0, 0, 0, 0, 0, 0, 0, 0, 0, 0, 0]
/-- the tables lie there. -/
def TabsAt (H : AHeap) : Prop := 3 ≤ H.next ∧ ∃ t1 t2, H.obj 1 = tabRow t1 .u8 tabF ∧ H.obj 2 = tabRow t2 .u8 tabA
theorem TabsAt.ex {H H' : AHeap} (h : TabsAt H) (hx : Ext H H') : TabsAt H' := by
  obtain ⟨h0, t1, t2, h1, h2⟩ := h
  exact ⟨Nat.le_trans h0 hx.next, t1, t2, (hx.obj 1 (by omega) (by simp)).trans h1, (hx.obj 2 (by omega) (by simp)).trans h2⟩
open Classical in
/-- a call that reads the tables alone, and comes to true. -/
noncomputable def orT (args : List Value) (H : AHeap) : Option (Value × AHeap) := if args = [] ∧ TabsAt H then some (.bool true, H) else none
theorem orT_at {H : AHeap} (h : TabsAt H) : orT [] H = some (.bool true, H) := by unfold orT; rw [if_pos ⟨rfl, h⟩]
theorem orT_eq {args : List Value} {v : Value} {H H' : AHeap} (h : orT args H = some (v, H')) : args = [] ∧ TabsAt H ∧ v = .bool true ∧ H' = H := by
  unfold orT at h
  split at h
  · next hc => cases h; exact ⟨hc.1, hc.2, rfl, rfl⟩
  · cases h
theorem tab_cell {ty : TypeId} {k : IntKind} {l : List Nat} {H : AHeap} {r i z : Nat} (h : H.obj r = tabRow ty k l) (hz : l[i]? = some z) : H.cell r i = some (.int k (z : Int)) := by
  have hi : i < l.length := (List.getElem?_eq_some_iff.1 hz).1
  unfold AHeap.cell
  rw [h]
  show gd (Nat.ble (Nat.succ i) (len l)) (some ((Tr.ofL top (mp (fun n => Value.int k (Int.ofNat n)) l) 0 .nil).get top i)) = _
  rw [len_eq, Nat.ble_eq_true_of_le hi, gd_true, Tr.get_ofL, mp_eq, if_pos (by simp; omega), List.getD_eq_getElem?_getD, Nat.sub_zero, List.getElem?_map, hz]; rfl
theorem tab_read2 {ty : TypeId} {k : IntKind} {l : List Nat} {H : AHeap} {r i x y : Nat} (h : H.obj r = tabRow ty k l) (hx : l[i]? = some x) (hy : l[i + 1]? = some y) : H.read r i 2 = some [.int k (x : Int), .int k (y : Int)] := by
  have hi : i + 1 < l.length := (List.getElem?_eq_some_iff.1 hy).1
  show (obind (oRow (H.obj r)) fun w => gd (Nat.ble (Nat.add i 2) w.n) (some (Tr.toL top w.cells i 2))) = _
  rw [h]
  show gd (Nat.ble (i + 2) (len l)) (some (Tr.toL top (Tr.ofL top (mp (fun n => Value.int k (Int.ofNat n)) l) 0 .nil) i 2)) = _
  rw [len_eq, Nat.ble_eq_true_of_le hi, gd_true, Tr.toL_succ, Tr.toL_succ, Tr.toL_zero, Tr.get_ofL, Tr.get_ofL, mp_eq, if_pos (by simp; omega), if_pos (by simp; omega), List.getD_eq_getElem?_getD, List.getD_eq_getElem?_getD, Nat.sub_zero, Nat.sub_zero, List.getElem?_map, List.getElem?_map, hx, hy]; rfl
end Go.Ae
