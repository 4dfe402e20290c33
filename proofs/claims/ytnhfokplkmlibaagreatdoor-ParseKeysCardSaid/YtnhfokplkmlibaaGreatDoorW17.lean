/-
  What is told elsewhere of closed plays that read the tables of utf8 alone. No condition.
-/
import Derived.Test.YtnhfokplkmlibaaGreatDoorW16
set_option linter.unusedVariables false
set_option linter.unusedSimpArgs false
namespace Go.Ae
/-- the two tables, and nothing else. -/
noncomputable def hpT (n : Nat) (t1 t2 : TypeId) : AHeap := ⟨Tr.set .dead (Tr.set .dead .nil 1 (tabRow t1 .u8 tabF)) 2 (tabRow t2 .u8 tabA), n, n⟩
theorem hpT_obj (n : Nat) (t1 t2 : TypeId) (r : Nat) : (hpT n t1 t2).obj r = if r = 2 then tabRow t2 .u8 tabA else if r = 1 then tabRow t1 .u8 tabF else .dead := by
  show (Tr.set .dead (Tr.set .dead .nil 1 (tabRow t1 .u8 tabF)) 2 (tabRow t2 .u8 tabA)).get .dead r = _
  rw [Tr.get_set, Tr.get_set, Tr.get_nil]
theorem tabAt_of {m : Mp} {H : AHeap} {w : World} (rh : RH m H w) {n r : Nat} (gl : Gl n m) (hr : r < n) {ty : TypeId} {k : IntKind} {l : List Nat} (h : H.obj r = tabRow ty k l) : TabAt w (tabRow ty k l) r := by
  obtain ⟨lc, h1, h2, h3, h4⟩ := gl r hr
  obtain ⟨o, h5, h6⟩ := rh.ok r lc h1
  rw [h2] at h5
  rw [h] at h6
  cases o with
  | cells cs ty' fr =>
    obtain ⟨⟨e1, _⟩, e2, e3, e4, e5, e6, e7⟩ := h6
    have e1 : ty' = ty := e1
    subst e1
    refine .inr ⟨ty', k, l, cs, fr, rfl, h5, fun i z hz => ?_⟩
    have hi : i < l.length := (List.getElem?_eq_some_iff.1 hz).1
    have hi' : i < (len l) := by rw [len_eq]; exact hi
    obtain ⟨v, g1, g2⟩ := e7 i (by omega) hi'
    rw [h4, h3, Nat.zero_add, Nat.sub_zero] at g1
    have : VR m ((Tr.ofL top (mp (fun n => Value.int k (Int.ofNat n)) l) 0 .nil).get top i) v := g2
    rw [Tr.get_ofL, mp_eq, if_pos (by simp; omega), List.getD_eq_getElem?_getD, Nat.sub_zero, List.getElem?_map, hz] at this
    rw [g1, this.of_int]; rfl
  | _ => exact absurd h6 id
theorem size_of {m : Mp} {H : AHeap} {w : World} (rh : RH m H w) {n : Nat} (gl : Gl n m) : n ≤ w.heap.size := by
  cases n with
  | zero => exact Nat.zero_le _
  | succ n =>
    obtain ⟨lc, h1, h2, _⟩ := gl n (Nat.lt_succ_self n)
    obtain ⟨o, h5, _⟩ := rh.ok n lc h1
    have := lt_of_get h5
    omega
/-- the world was not turned below. -/
theorem RH.below {m : Mp} {H : AHeap} {w w' : World} (rh : RH m H w) (hb : Go.RowKit.Below w.heap.size w w') : RH m H w' ∧ Ex m m H H w w' := by
  refine ⟨⟨rh.dom, fun r l hr => ?_, rh.sep⟩, ?_⟩
  · obtain ⟨o, h1, h2⟩ := rh.ok r l hr
    exact ⟨o, by rw [hb.block _ (lt_of_get h1)]; exact h1, h2⟩
  · exact ⟨fun _ _ h => h, fun r l h h' => (by rw [h] at h'; cases h'), fun r l h h' => (by rw [h] at h'; cases h'), hb.os, hb.tape, hb.output, hb.size, fun c hc _ => hb.block c hc, Nat.le_refl _, Nat.le_refl _, fun _ _ _ => rfl, fun _ _ _ => rfl⟩
section mem
variable {P : Program}
/-- a closed play that comes to true over the tables does so wherever they lie. -/
theorem or_tabs {X : Xt} {n k : Nat} (hn : 3 ≤ n) (hmo : P.follows .mixedOrders = true) (hP : FnsOk P n) (hX : XOk P X) (hO : OrOk P X n) {g : FuncId} {fn : Func} (hg : P.funcs[g]? = some fn) (hb : fn.body.isSome = true)
    (h : ∀ t1 t2, okRun n true (acall P X k g [] (hpT n t1 t2)) = true) {args : List Value} {v : Value} {H H' : AHeap} (ho : orT args H = some (v, H')) :
    (∃ fn, P.funcs[g]? = some fn ∧ fn.body.isSome = true) ∧ ∀ m w args', RH m H w → Gl n m → VRs m args args' →
      Calls P g ⟨args'⟩ w fun e w' => ∃ m' v', e = .returned v' ∧ VR m' v v' ∧ RH m' H' w' ∧ Ex m m' H H' w w' := by
  obtain ⟨rfl, hT, rfl, rfl⟩ := orT_eq ho
  refine ⟨⟨fn, hg, hb⟩, fun m w args' rh gl ha => ?_⟩
  cases ha
  obtain ⟨h0, t1, t2, e1, e2⟩ := hT
  obtain ⟨H1, h1, h2⟩ := okRun_eq (h t1 t2)
  refine (table_call (H := hpT n t1 t2) hmo hP hX hO hg hb h1 h2 rfl rfl (size_of rh gl) ?_).mono ?_
  · intro r hr
    rw [hpT_obj]
    by_cases r2 : r = 2
    · subst r2; rw [if_pos rfl]; exact tabAt_of rh gl (by omega) e2
    · rw [if_neg r2]
      by_cases r1 : r = 1
      · subst r1; rw [if_pos rfl]; exact tabAt_of rh gl (by omega) e1
      · rw [if_neg r1]; exact .inl rfl
  · rintro e w' ⟨rfl, hbw⟩
    obtain ⟨g1, g2⟩ := rh.below hbw
    exact ⟨m, .bool true, rfl, .sc _ rfl, g1, g2⟩
end mem
end Go.Ae
