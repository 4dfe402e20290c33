/-
  What lies in the model's memory, as the second machine reads it: rows of numbers, texts and flags; calls over that. No condition.
-/
import Derived.Test.YtnhfokplkmlibaaGreatDoorW13
set_option linter.unusedVariables false
set_option linter.unusedSimpArgs false
namespace Go.Ae
/-- an object that is not known, or a row that lies there, to be read alone. -/
def RdAt (w : World) (o : AObj) (r : Nat) : Prop := o = .dead ∨ ∃ (R : Row) (cs : Array Value) (fr : Nat × Nat), o = .row R ∧ w.heap[r]? = some (.cells cs R.ty fr) ∧ R.sealed' = true ∧ R.n ≤ cs.size ∧ ∀ i, i < R.n → ∃ v, cs[i]? = some v ∧ (R.cells.get top i = top ∨ (scal v = true ∧ R.cells.get top i = v))
theorem rd_rh {w : World} {H : AHeap} (h : H.next ≤ w.heap.size) (ht : ∀ r, r < H.next → RdAt w (H.obj r) r) : RH (tmap w H) H w := by
  refine ⟨?_, ?_, ?_⟩
  · intro r l hr
    unfold tmap at hr
    split at hr
    · next h1 => exact h1
    · cases hr
  · intro r l hr
    unfold tmap at hr
    split at hr
    · next h1 =>
      cases hr
      refine ⟨w.heap[r]'(by omega), Array.getElem?_eq_getElem (i := r) (by omega), ?_⟩
      rcases ht r h1 with h2 | ⟨R, cs, fr, h2, h3, hse, hle, h4⟩
      · rw [h2]; trivial
      · have hcn : cellsN w r = cs.size := by unfold cellsN; rw [h3]
        have hget : w.heap[r]'(by omega) = .cells cs R.ty fr := by
          have := Array.getElem?_eq_getElem (xs := w.heap) (i := r) (by omega)
          rw [h3] at this; injection this with this; exact this.symm
        rw [hget, h2]
        refine ⟨⟨rfl, rfl⟩, rfl, hcn.symm, Nat.zero_le _, ?_, ?_, ?_⟩
        · show 0 + (R.n - 0) ≤ cellsN w r
          rw [hcn]; omega
        · rw [hse]; intro h; cases h
        · intro i _ hi
          obtain ⟨v, h5, h6⟩ := h4 i hi
          refine ⟨v, by simpa using h5, ?_⟩
          rcases h6 with h6 | ⟨h6, h7⟩
          · rw [h6]; exact .top _
          · rw [h7]; exact .sc _ h6
    · cases hr
  · intro r r' l l' hr hr' _ _ hc
    unfold tmap at hr hr'
    split at hr
    · split at hr'
      · cases hr; cases hr'; exact hc
      · cases hr'
    · cases hr
section mem
variable {P : Program}
/-- a call that turns nothing that was there. -/
theorem read_call {X : Xt} {H : AHeap} {n : Nat} (hn : n ≤ H.next) (hmo : P.follows .mixedOrders = true) (hP : FnsOk P n) (hX : XOk P X) (hO : OrOk P X n) {g : FuncId} {fn : Func} (hg : P.funcs[g]? = some fn) (hb : fn.body.isSome = true)
    {args : List Value} {b : Bool} (h : CallP P X g args H fun v H' => v = .bool b ∧ H.next ≤ H'.low) {w : World} (hw : H.next ≤ w.heap.size)
    (ht : ∀ r, r < H.next → RdAt w (H.obj r) r) {args' : List Value} (ha : VRs (tmap w H) args args') :
    Calls P g ⟨args'⟩ w fun e w' => e = .returned (.bool b) ∧ Go.RowKit.Below w.heap.size w w' := by
  obtain ⟨v, H', ⟨k, h⟩, rfl, hlow⟩ := h
  refine (levels hmo hP hX hO k g args _ _ H' fn h hg hb (tmap w H) w args' (rd_rh hw ht) (fun g hg => tmap_gl w H g (by omega)) ha).mono ?_
  rintro e w' ⟨m', v', rfl, h1, h2, h3⟩
  rw [h1.of_bool]
  refine ⟨rfl, ⟨h3.os, h3.tape, h3.output, h3.size, fun c hc => h3.keep c hc ?_⟩⟩
  intro r l hr _
  unfold tmap at hr
  split at hr
  · next h4 => exact Nat.lt_of_lt_of_le h4 hlow
  · cases hr
/-- the world's rows, as far as they are numbers, texts and flags; some are told otherwise. -/
noncomputable def absV (v : Value) : Value := if scal v = true then v else top
noncomputable def absO : Obj → AObj
  | .cells cs ty _ => .row ⟨ty, Tr.ofL top (cs.toList.map absV) 0 .nil, cs.size, true, 0⟩
  | _ => .dead
noncomputable def absR (w : World) (T : Nat → Option AObj) (r : Nat) : AObj := (T r).getD (match w.heap[r]? with | some o => absO o | none => .dead)
noncomputable def absH (w : World) (T : Nat → Option AObj) : AHeap := ⟨Tr.ofL .dead ((List.range w.heap.size).map (absR w T)) 0 .nil, w.heap.size, w.heap.size⟩
theorem absH_obj (w : World) (T : Nat → Option AObj) {r : Nat} (h : r < w.heap.size) : (absH w T).obj r = absR w T r := by
  show (Tr.ofL .dead ((List.range w.heap.size).map (absR w T)) 0 .nil).get .dead r = _
  rw [Tr.get_ofL, if_pos (by simp; omega), List.getD_eq_getElem?_getD]
  simp [h]
theorem tab_rd {w : World} {o : AObj} {r : Nat} (h : TabAt w o r) : RdAt w o r := by
  rcases h with h | ⟨ty, k, l, cs, fr, h1, h2, h3⟩
  · exact .inl h
  · refine .inr ⟨_, cs, fr, h1, h2, rfl, ?_, ?_⟩
    · show len l ≤ cs.size
      rw [len_eq]
      rcases Nat.lt_or_ge cs.size l.length with h5 | h5
      · have := (Array.getElem?_eq_some_iff.1 (h3 cs.size _ (List.getElem?_eq_getElem h5))).1; omega
      · exact h5
    · intro i hi
      replace hi : i < len l := hi
      rw [len_eq] at hi
      refine ⟨_, h3 i _ (List.getElem?_eq_getElem hi), .inr ⟨rfl, ?_⟩⟩
      show (Tr.ofL top (mp (fun n => Value.int k (Int.ofNat n)) l) 0 .nil).get top i = _
      rw [Tr.get_ofL, mp_eq, if_pos (by simp; omega), List.getD_eq_getElem?_getD]
      simp [hi]
theorem absH_rd {w : World} {T : Nat → Option AObj} (hT : ∀ r o, T r = some o → RdAt w o r) : ∀ r, r < (absH w T).next → RdAt w ((absH w T).obj r) r := by
  intro r hr
  replace hr : r < w.heap.size := hr
  rw [absH_obj w T hr]
  unfold absR
  cases hc : T r with
  | some o => exact hT r o hc
  | none =>
    rw [Array.getElem?_eq_getElem hr]
    show RdAt w (absO _) r
    cases ho : w.heap[r] with
    | cells cs ty fr =>
      refine .inr ⟨_, cs, fr, rfl, by rw [Array.getElem?_eq_getElem hr, ho], rfl, Nat.le_refl _, fun i hi => ?_⟩
      replace hi : i < cs.size := hi
      refine ⟨cs[i], Array.getElem?_eq_getElem hi, ?_⟩
      show (Tr.ofL top (cs.toList.map absV) 0 .nil).get top i = top ∨ _
      have e : (Tr.ofL top (cs.toList.map absV) 0 .nil).get top i = absV cs[i] := by
        rw [Tr.get_ofL, if_pos (by simp; omega), List.getD_eq_getElem?_getD]
        simp [hi]
      show (Tr.ofL top (cs.toList.map absV) 0 .nil).get top i = top ∨ (scal cs[i] = true ∧ (Tr.ofL top (cs.toList.map absV) 0 .nil).get top i = cs[i])
      rw [e]
      unfold absV
      split
      · next h => exact .inr ⟨h, rfl⟩
      · exact .inl rfl
    | _ => exact .inl rfl
/-- a cell of the model is that of the second machine. -/
theorem absH_cell {w : World} {T : Nat → Option AObj} {r o : Nat} {v : Value} (hT : T r = none) (h : w.cell? ⟨r, o, none⟩ = some v) (hs : scal v = true) : r < w.heap.size ∧ (absH w T).cell r o = some v := by
  unfold World.cell? at h
  cases hr : w.heap[r]? with
  | none => simp [hr] at h
  | some ob =>
    have hlt : r < w.heap.size := (Array.getElem?_eq_some_iff.1 hr).1
    refine ⟨hlt, ?_⟩
    cases ob with
    | cells cs ty fr =>
      simp [hr] at h
      have hi : o < cs.size := (Array.getElem?_eq_some_iff.1 h).1
      unfold AHeap.cell
      rw [absH_obj w T hlt]
      unfold absR
      rw [hT, hr]
      show gd (Nat.ble (Nat.succ o) cs.size) (some ((Tr.ofL top (cs.toList.map absV) 0 .nil).get top o)) = _
      rw [Nat.ble_eq_true_of_le hi, gd_true, Tr.get_ofL, if_pos (by simp; omega), List.getD_eq_getElem?_getD]
      have h2 : cs[o] = v := (Array.getElem?_eq_some_iff.1 h).2
      simp [hi, h2, absV, hs]
    | _ => simp [hr] at h
/-- a slice that is handed. -/
theorem absH_sl {w : World} {T : Nat → Option AObj} {r o n c : Nat} (hr : r < w.heap.size) (hc : c ≤ 9223372036854775807) (hn : n ≤ c) : VR (tmap w (absH w T)) (.slice (some ⟨r, o, none⟩) n c) (.slice (some ⟨r, o, none⟩) n c) := by
  have := VR.slice (m := tmap w (absH w T)) r o n c ⟨r, 0, 0, cellsN w r, objN ((absH w T).obj r)⟩ (by unfold tmap; rw [if_pos (show r < (absH w T).next from hr)]) (Nat.zero_le _) (Nat.ble_eq_true_of_le hc) hn
  simpa using this
end mem
end Go.Ae
