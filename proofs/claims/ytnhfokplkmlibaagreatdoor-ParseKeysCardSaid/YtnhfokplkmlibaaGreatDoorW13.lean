/-
  Slices that are read, cut, and laid anew. No condition.
-/
import Derived.Test.YtnhfokplkmlibaaGreatDoorW12
set_option linter.unusedVariables false
set_option linter.unusedSimpArgs false
namespace Go.Ae
variable {S : List Nat}
theorem toL_cells (t : Tr Value) : ∀ (n k : Nat) (cs : List Value), cs.length = n → (∀ i (h : i < cs.length), t.get top (k + i) = cs[i]) → Tr.toL top t k n = cs := by
  intro n
  induction n with
  | zero => intro k cs h _; rw [Tr.toL_zero]; exact (List.length_eq_zero_iff.1 h).symm
  | succ n ih =>
    intro k cs h hc
    cases cs with
    | nil => cases h
    | cons x cs =>
      rw [Tr.toL_succ, ih (k + 1) cs (by simpa using h) (fun i hi => by
        have := hc (i + 1) (by simpa using hi)
        rw [show k + 1 + i = k + (i + 1) by omega, this]; rfl)]
      have := hc 0 (by simp)
      rw [Nat.add_zero] at this
      rw [this]; rfl
theorem read_of_cells {H : AHeap} {r o : Nat} {cs : List Value} (h : ∀ i x, cs[i]? = some x → H.cell r (o + i) = some x) : H.read r o cs.length = some cs := by
  cases cs with
  | nil => rfl
  | cons x cs =>
    have hrow : ∃ R, H.obj r = .row R := by
      have := h 0 x rfl
      unfold AHeap.cell at this
      obtain ⟨R, h1, _⟩ := obind_eq this
      exact ⟨R, oRow_eq h1⟩
    obtain ⟨R, hR⟩ := hrow
    have hcell : ∀ i (hi : i < (x :: cs).length), o + i < R.n ∧ R.cells.get top (o + i) = (x :: cs)[i] := by
      intro i hi
      have h1 := h i _ (List.getElem?_eq_getElem hi)
      unfold AHeap.cell at h1
      rw [hR] at h1
      replace h1 : gd (Nat.ble (Nat.succ (o + i)) R.n) (some (R.cells.get top (o + i))) = some _ := h1
      obtain ⟨h2, h3⟩ := gd_eq h1
      exact ⟨Nat.le_of_ble_eq_true h2, Option.some.inj h3⟩
    show (obind (oRow (H.obj r)) fun w => gd (Nat.ble (Nat.add o (cs.length + 1)) w.n) (some (Tr.toL top w.cells o (cs.length + 1)))) = _
    rw [hR]
    show gd (Nat.ble (o + (cs.length + 1)) R.n) (some (Tr.toL top R.cells o (cs.length + 1))) = _
    have hl := (hcell cs.length (by simp)).1
    rw [Nat.ble_eq_true_of_le (by omega), gd_true, toL_cells R.cells (cs.length + 1) o (x :: cs) rfl fun i hi => (hcell i hi).2]
theorem Fl.read {H : AHeap} {a : Option Addr} {n es k : Nat} {cs : List Value} (h : Fl H a n es cs) (he : 0 < es) (hk : k < n) (c : Nat) :
    ∃ r o, idA es (.slice a n c) (vn k) = some (.pointer (some ⟨r, o, none⟩)) ∧ r < H.next ∧ H.read r o es = some (El cs es k) ∧ (El cs es k).length = es ∧ ∃ o0, a = some ⟨r, o0, none⟩ ∧ o = o0 + k * es := by
  obtain ⟨r, o, h1, h2, h3, h4⟩ := h.idx (c := c) he hk
  have hl : (El cs es k).length = es := by
    unfold El
    have : (k + 1) * es ≤ n * es := Nat.mul_le_mul_right es hk
    rw [Nat.add_mul] at this
    have := h.1
    simp; omega
  refine ⟨r, o, h1, h2, ?_, hl, h4⟩
  have := read_of_cells (H := H) (r := r) (o := o) (cs := El cs es k) fun i x hx => by
    rw [El_get] at hx
    split at hx
    · next hi => exact h3 i x hi hx
    · cases hx
  rwa [hl] at this
theorem appended_fl {H : AHeap} {a : Option Addr} {n es c : Nat} {cs : List Value} (h : Fl H a n es cs) (he : 0 < es) : appended H es (.slice a n c) = some (n, cs) := by
  rcases Nat.eq_zero_or_pos n with rfl | hn
  · have hc : cs = [] := List.length_eq_zero_iff.1 (by have := h.1; omega)
    subst hc
    cases a with
    | none => rfl
    | some a =>
      show (obind (H.read a.block a.off (Nat.mul 0 es)) fun l => some (0, l)) = _
      rw [show Nat.mul 0 es = 0 from Nat.zero_mul es]; rfl
  · have hl : 0 < cs.length := by rw [h.1]; exact Nat.mul_pos hn he
    obtain ⟨r, o, rfl, _, _⟩ := h.2 0 _ (List.getElem?_eq_getElem hl)
    show (obind (H.read r o (Nat.mul n es)) fun l => some (n, l)) = _
    have h1 := read_of_cells (H := H) (r := r) (o := o) (cs := cs) fun i x hx => by
      obtain ⟨r', o', e, _, h5⟩ := h.2 i x hx
      cases e; exact h5
    rw [h.1] at h1
    rw [show Nat.mul n es = n * es from rfl, h1]; rfl
/-- to nothing. -/
theorem apA_none {H : AHeap} {e : TypeId} {es n : Nat} {v x : Value} {xs : List Value} (hv : v = .slice none 0 0 ∨ ∃ a, v = .slice (some a) 0 0) (ha : appended H es x = some (n, xs)) (hn : n ≤ 16777216) :
    apA e es v x H = if n = 0 then some (v, H) else some (.slice (some ⟨H.next, 0, none⟩) n (capU es), H.new (rowOf e xs)) := by
  cases n with
  | zero =>
    rw [if_pos rfl]
    rcases hv with rfl | ⟨a, rfl⟩
    · unfold apA
      rw [ha]
      show gd (Nat.ble 0 16777216) (some (Value.slice none 0 0, H)) = _
      rw [Nat.ble_eq_true_of_le (by omega)]; rfl
    · unfold apA
      rw [ha]
      show gd (Nat.ble 0 16777216) (some (Value.slice (some a) 0 0, H)) = _
      rw [Nat.ble_eq_true_of_le (by omega)]; rfl
  | succ k =>
    rw [if_neg (by omega)]
    rcases hv with rfl | ⟨a, rfl⟩
    · exact apA_nil ha hn
    · unfold apA
      rw [ha]
      show gd (Nat.ble (k + 1) 16777216) (gd (Nat.ble 0 16777216) (bif' (knownCap 0) (appKnown (e, es) a 0 0 (k + 1) xs H) (gd (Nat.beq 0 (capU es)) (appUnknown (e, es) a 0 0 (k + 1) xs H)))) = _
      rw [Nat.ble_eq_true_of_le hn, Nat.ble_eq_true_of_le (by omega), show knownCap 0 = true from rfl]
      show appKnown (e, es) a 0 0 (k + 1) xs H = _
      unfold appKnown
      have e1 : Nat.ble (Nat.add 0 (k + 1)) 0 = false := by
        rw [← Bool.not_eq_true]; intro h; have := Nat.le_of_ble_eq_true h; have e : Nat.add 0 (k + 1) = k + 1 := Nat.zero_add _; omega
      have e2 : Nat.add 0 (k + 1) = k + 1 := Nat.zero_add _
      have e3 : Nat.mul 0 es = 0 := Nat.zero_mul es
      rw [e1, bif_false]
      show (obind (H.read a.block a.off (Nat.mul 0 es)) fun old => some (growTo e es (Nat.add 0 (k + 1)) (app old xs) H)) = _
      rw [e3, e2]
      rfl
section steps
variable {H0 H : AHeap} {L : List Blk} {K : Value → AHeap → Prop} {ty : TypeId} {es n : Nat} {v x : Value} {cs xs : List Value} {gb : List Blk}
/-- a slice laid anew. -/
theorem SH.apNew (hS : SH S H0 H L) (he : 0 < es) (hv : v = .slice none 0 0 ∨ ∃ a, v = .slice (some a) 0 0) {a : Option Addr} {c : Nat} (hx : Fl H a n es xs) (hn : n ≤ 16777216)
    (k : ∀ a' c' H1 L', Fl H1 a' n es xs → SH S H0 H1 (L' ++ L) → Ext H H1 → (∀ r o, a' = some ⟨r, o, none⟩ → 0 < n → H.next ≤ r) → K (.slice a' n c') H1) : ME (apA ty es v (.slice a n c) H) K := by
  rw [apA_none hv (appended_fl hx he) hn]
  split
  · next h0 =>
    subst h0
    have hc : xs = [] := List.length_eq_zero_iff.1 (by have := hx.1; omega)
    subst hc
    rcases hv with rfl | ⟨a, rfl⟩
    · exact k none 0 H [] (Fl.nil _ _ _) hS (Ext.refl _) fun _ _ h => nomatch h
    · exact k (some a) 0 H [] (Fl.nil _ _ _) hS (Ext.refl _) fun _ _ _ h => absurd h (by omega)
  · next h0 =>
    have hb := Bk.new H ty xs
    refine k _ _ _ [(H.next, ty, xs)] (hb.fl (Nat.lt_succ_self _) hx.1) (hS.grow ty xs) (Ext.new _ _) fun r o e _ => ?_
    cases e; exact Nat.le_refl _
end steps
/-! ### slices that are cut -/
theorem slA_to {r o n es w : Nat} (h : w ≤ n) : slA es (.slice (some ⟨r, o, none⟩) n (capU es)) none (some (vn w)) none = some (.slice (some ⟨r, o, none⟩) w (capU es)) := by
  show bif' (knownCap (capU es)) _ (gd (Nat.beq (capU es) (capU es)) (gd (Nat.ble 0 w && Nat.ble w n) (some (Value.slice (some ⟨r, Nat.add o (Nat.mul 0 es), none⟩) (Nat.sub w 0) (capU es))))) = _
  rw [wcapU_not, bif_false, Nat.beq_refl, Nat.ble_eq_true_of_le (Nat.zero_le _), Nat.ble_eq_true_of_le h, show Nat.mul 0 es = 0 from Nat.zero_mul es]; rfl
theorem slA_from {r o n es w : Nat} (h : w ≤ n) : slA es (.slice (some ⟨r, o, none⟩) n (capU es)) (some (vn w)) none none = some (.slice (some ⟨r, o + w * es, none⟩) (n - w) (capU es)) := by
  show bif' (knownCap (capU es)) _ (gd (Nat.beq (capU es) (capU es)) (gd (Nat.ble w n && Nat.ble n n) (some (Value.slice (some ⟨r, Nat.add o (Nat.mul w es), none⟩) (Nat.sub n w) (capU es))))) = _
  rw [wcapU_not, bif_false, Nat.beq_refl, Nat.ble_eq_true_of_le (Nat.le_refl _), Nat.ble_eq_true_of_le h]; rfl
theorem slA_nil {es : Nat} : slA es (.slice none 0 0) none (some (vn 0)) none = some (.slice none 0 0) := rfl
/-- a grown slice that is cut. -/
theorem GB.cut {H0 H : AHeap} {L : List Blk} {ty : TypeId} {es w : Nat} {v : Value} {cs : List Value} {gb : List Blk} (hg : GB ty es v cs gb) (he : 0 < es) (hw : w * es ≤ cs.length) {K : Value → Prop} (k : ∀ v', GB ty es v' (cs.take (w * es)) gb → K v') : PU (slA es v none (some (vn w)) none) K := by
  rcases hg with ⟨rfl, rfl, rfl⟩ | ⟨r, n, junk, rfl, hn, rfl⟩
  · have : w = 0 := by
      rcases Nat.eq_zero_or_pos w with h | h
      · exact h
      · have := Nat.mul_pos h he
        have h2 : w * es ≤ 0 := hw
        omega
    subst this
    rw [slA_nil]
    exact k _ (.inl ⟨rfl, by simp, rfl⟩)
  · have hwn : w ≤ n := by rw [hn] at hw; exact Nat.le_of_mul_le_mul_right hw he
    rw [slA_to hwn]
    refine k _ (.inr ⟨r, w, cs.drop (w * es) ++ junk, rfl, ?_, ?_⟩)
    · simp; omega
    · rw [← List.append_assoc, List.take_append_drop]
/-! ### nothing -/
section bin
variable {P : Program} {t : TypeId} {ox : Operand}
theorem abin_slNilC {a : Option Addr} {n c : Nat} (ht : tNil P t = 2) : abin P .eql t ox (.const (.slice none 0 0)) (.slice a n c) (.slice none 0 0) = some (.bool (oIsNone a)) := by
  show eqBin .eql (nilOf (tNil P t) (.slice none 0 0) (.slice a n c)) = _
  rw [ht]; rfl
end bin
theorem bS_0 {e : TypeId} {z : List Value} {es : Nat} {H : AHeap} (he : es ≤ 16777216) : bS e z es 0 [] H = some (.slice (some ⟨H.next, 0, none⟩) 0 0, H.new (rowOf e [])) := by
  unfold bS
  rw [show Nat.mul 0 es = 0 from Nat.zero_mul es, Nat.ble_eq_true_of_le (Nat.zero_le _)]; rfl
end Go.Ae
