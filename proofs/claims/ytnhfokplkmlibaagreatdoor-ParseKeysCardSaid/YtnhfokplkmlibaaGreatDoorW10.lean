/-
  Rows of elements that are moved about. No condition.
-/
import Derived.Test.YtnhfokplkmlibaaGreatDoorW9
set_option linter.unusedVariables false
set_option linter.unusedSimpArgs false
namespace Go.Ae
theorem idA_slI {es r o n c : Nat} {z : Int} (h0 : 0 ≤ z) (h : z < n) : idA es (.slice (some ⟨r, o, none⟩) n c) (vi z) = some (.pointer (some ⟨r, o + z.toNat * es, none⟩)) := by
  obtain ⟨k, rfl⟩ : ∃ k : Nat, z = k := ⟨z.toNat, by omega⟩
  exact idA_sl (by omega)
section bin
variable {P : Program} {t : TypeId} {ox oy : Operand} {a b : Int}
theorem abin_quo (ha : 0 ≤ a) (hb : 0 < b) (h : a ≤ 9223372036854775807) : abin P .quo t ox oy (vi a) (vi b) = some (vi (a / b)) := abin_cmp rfl (by
  show pureSem (Op.intDiv .quo .i64 a b) = _
  unfold Op.intDiv
  rw [if_neg (by omega)]
  show some (Value.int .i64 (IntKind.i64.wrap (a.tdiv b))) = _
  have h1 : a.tdiv b = a / b := Int.tdiv_eq_ediv_of_nonneg ha
  have h2 : 0 ≤ a / b := Int.ediv_nonneg ha (by omega)
  have h3 : a / b ≤ a := Int.ediv_le_self b ha
  rw [h1]
  have : IntKind.i64.wrap (a / b) = a / b := IntWalk.i64_in _ (by omega)
  rw [this])
theorem PU.quo {K : Value → Prop} (ha : 0 ≤ a) (hb : 0 < b) (h : a ≤ 9223372036854775807) (k : ∀ q : Int, 0 ≤ q → b * q ≤ a → a < b * q + b → K (vi q)) : PU (abin P .quo t ox oy (vi a) (vi b)) K := by
  rw [abin_quo ha hb h]
  have h1 := Int.mul_ediv_add_emod a b
  have h2 := Int.emod_nonneg a (show b ≠ 0 by omega)
  have h3 := Int.emod_lt_of_pos a hb
  exact k (a / b) (Int.ediv_nonneg ha (by omega)) (by omega) (by omega)
end bin
/-- a store where the order is drawn. -/
theorem SH.stQ {H0 H : AHeap} {L : List Blk} {K : Value → AHeap → Prop} (hS : SH [] H0 H L) (i : Nat) {r o n : Nat} {ty : TypeId} {cs : List Value} {v : Value} (hi : L[i]? = some (r, ty, cs)) (hl : (cellsL v).length = n) (hn : o + n ≤ cs.length) (hk : all' okCell (cellsL v) = true)
    (k : ∀ H1, SH [] H0 (hM H H1) (L.set i (r, ty, splice cs o (cellsL v))) → K undef H1) : ME (stW n (.pointer (some ⟨r, o, none⟩)) v (Go.Ae.hN H)) K := by
  obtain ⟨H1, h1, h2, h3⟩ := hS.of_hN.writeAt (vs := cellsL v) (o := o) i hi (by omega) hk
  show ME (gd (Nat.beq (len (cellsL v)) n) (obind ((Go.Ae.hN H).write r o (cellsL v)) fun H' => some (undef, H'))) K
  rw [len_eq, hl, Nat.beq_refl, h1]
  refine k H1 ⟨hS.ext.later h3.draw (fun q hq => .inr ?_), fun e he => (h2.bk e he).of_obj rfl, h2.lo, h2.ne, h3.draw.wf hS.wf⟩
  rw [List.mem_singleton] at hq
  subst hq
  exact hS.lo0 (List.mem_of_getElem? hi)
/-- an element of a row. -/
def El (cs : List Value) (es k : Nat) : List Value := (cs.drop (k * es)).take es
theorem El_get (cs : List Value) (es k i : Nat) : (El cs es k)[i]? = if i < es then cs[k * es + i]? else none := by
  unfold El
  rw [List.getElem?_take]
  split
  · rw [List.getElem?_drop]
  · rfl
theorem El_splice {cs vs : List Value} {es k : Nat} (hv : vs.length = es) (h : k * es + es ≤ cs.length) (k' : Nat) : El (splice cs (k * es) vs) es k' = if k' = k then vs else El cs es k' := by
  apply List.ext_getElem?
  intro i
  rw [El_get]
  by_cases hi : i < es
  · rw [if_pos hi, splice_get (by omega)]
    by_cases hk : k' = k
    · subst hk
      rw [if_pos (by omega), if_pos rfl, Nat.add_sub_cancel_left]
    · rw [if_neg hk, El_get, if_pos hi, if_neg]
      rintro ⟨h1, h2⟩
      rcases Nat.lt_or_ge k' k with h3 | h3
      · have : (k' + 1) * es ≤ k * es := Nat.mul_le_mul_right es h3
        rw [Nat.add_mul] at this
        omega
      · have : (k + 1) * es ≤ k' * es := Nat.mul_le_mul_right es (by omega)
        rw [Nat.add_mul] at this
        omega
  · rw [if_neg hi]
    split
    · symm; exact List.getElem?_eq_none (by omega)
    · rw [El_get, if_neg hi]
/-- a block whose first elements have a property. -/
def SB (P : List Value → Prop) (r : Nat) (ty : TypeId) (es n : Nat) (H0 H : AHeap) (L : List Blk) : Prop := ∃ cs, n * es ≤ cs.length ∧ (∀ k, k < n → P (El cs es k)) ∧ SH [] H0 H ((r, ty, cs) :: L)
section steps
variable {P : List Value → Prop} {r : Nat} {ty : TypeId} {es n : Nat} {H0 H : AHeap} {L : List Blk} {K : Value → AHeap → Prop}
theorem SB.wf (h : SB P r ty es n H0 H L) : Wf H := by obtain ⟨_, _, _, hS⟩ := h; exact hS.wf
theorem SB.ext (h : SB P r ty es n H0 H L) : Ext H0 H := by obtain ⟨_, _, _, hS⟩ := h; exact hS.ext
theorem SB.call {H' : AHeap} (h : SB P r ty es n H0 H L) (hx : Ext H H') : SB P r ty es n H0 H' L := by obtain ⟨cs, h1, h2, hS⟩ := h; exact ⟨cs, h1, h2, hS.call hx⟩
theorem SB.new (h : SB P r ty es n H0 H L) {t2 : TypeId} {z : List Value} (k : ∀ H1 q, SB P r ty es n H0 H1 ((q, t2, z) :: L) → K (.pointer (some ⟨q, 0, none⟩)) H1) : ME (newW t2 z H) K := by
  obtain ⟨cs, h1, h2, hS⟩ := h
  exact hS.newW fun H1 q hS => k H1 q ⟨cs, h1, h2, hS.perm (List.Perm.swap _ _ _)⟩
theorem SB.ld (h : SB P r ty es n H0 H L) (i : Nat) {q o : Nat} {t2 : TypeId} {cs : List Value} {v : Value} (hi : L[i]? = some (q, t2, cs)) (hv : cs[o]? = some v) (k : K v H) : ME (ldW none (.pointer (some ⟨q, o, none⟩)) H) K := by
  obtain ⟨cs, h1, h2, hS⟩ := h
  exact hS.ld (i + 1) (by rw [List.getElem?_cons_succ]; exact hi) hv k
theorem SB.ldQ (h : SB P r ty es n H0 H L) (i : Nat) {q o : Nat} {t2 : TypeId} {cs : List Value} {v : Value} (hi : L[i]? = some (q, t2, cs)) (hv : cs[o]? = some v) (k : K v (Go.Ae.hN H)) : ME (ldW none (.pointer (some ⟨q, o, none⟩)) (Go.Ae.hN H)) K := by
  obtain ⟨cs, h1, h2, hS⟩ := h
  exact hS.ldQ (i + 1) (by rw [List.getElem?_cons_succ]; exact hi) hv k
theorem SB.st (h : SB P r ty es n H0 H L) (i : Nat) {q o m : Nat} {t2 : TypeId} {cs : List Value} {v : Value} (hi : L[i]? = some (q, t2, cs)) (hl : (cellsL v).length = m) (hn : o + m ≤ cs.length) (hk : all' okCell (cellsL v) = true)
    (k : ∀ H1, SB P r ty es n H0 H1 (L.set i (q, t2, splice cs o (cellsL v))) → K undef H1) : ME (stW m (.pointer (some ⟨q, o, none⟩)) v H) K := by
  obtain ⟨ds, h1, h2, hS⟩ := h
  exact hS.st (i + 1) (by rw [List.getElem?_cons_succ]; exact hi) hl hn hk fun H1 hS => k H1 ⟨ds, h1, h2, hS⟩
theorem SB.row (h : SB P r ty es n H0 H L) {k : Nat} (hk : k < n) : ∃ cs, SH [] H0 H ((r, ty, cs) :: L) ∧ P (El cs es k) ∧ k * es + es ≤ cs.length := by
  obtain ⟨cs, h1, h2, hS⟩ := h
  refine ⟨cs, hS, h2 k hk, ?_⟩
  have : (k + 1) * es ≤ n * es := Nat.mul_le_mul_right es hk
  rw [Nat.add_mul] at this
  omega
/-- an element of one cell is read. -/
theorem SB.e1 (h : SB P r ty 1 n H0 H L) {z : Int} (h0 : 0 ≤ z) (hz : z < n) (k : ∀ v, P [v] → K v H) : ME (ldW none (.pointer (some ⟨r, z.toNat * 1, none⟩)) H) K := by
  obtain ⟨cs, hS, hp, hl⟩ := h.row (k := z.toNat) (by omega)
  have hlt : z.toNat < cs.length := by omega
  refine hS.ld 0 rfl (v := cs[z.toNat]) (by rw [Nat.mul_one]; exact List.getElem?_eq_getElem hlt) (k _ ?_)
  have : El cs 1 z.toNat = [cs[z.toNat]] := by
    unfold El
    rw [Nat.mul_one, List.drop_eq_getElem_cons hlt]; rfl
  rw [← this]; exact hp
theorem SB.of_hN (h : SB P r ty es n H0 H L) : SB P r ty es n (Go.Ae.hN H0) (Go.Ae.hN H) L := by obtain ⟨cs, h1, h2, hS⟩ := h; exact ⟨cs, h1, h2, hS.of_hN⟩
theorem SB.e1Q (h : SB P r ty 1 n H0 H L) {z : Int} (h0 : 0 ≤ z) (hz : z < n) (k : ∀ v, P [v] → K v (Go.Ae.hN H)) : ME (ldW none (.pointer (some ⟨r, z.toNat * 1, none⟩)) (Go.Ae.hN H)) K := h.of_hN.e1 h0 hz k
/-- an element of some cells is read. -/
theorem SB.em (h : SB P r ty es n H0 H L) {z : Int} (h0 : 0 ≤ z) (hz : z < n) (k : ∀ l, P l → K (.agg ⟨l⟩) H) : ME (ldW (some es) (.pointer (some ⟨r, z.toNat * es, none⟩)) H) K := by
  obtain ⟨cs, hS, hp, hl⟩ := h.row (k := z.toNat) (by omega)
  exact hS.ldN 0 rfl (by omega) (k _ hp)
theorem SB.emQ (h : SB P r ty es n H0 H L) {z : Int} (h0 : 0 ≤ z) (hz : z < n) (k : ∀ l, P l → K (.agg ⟨l⟩) (Go.Ae.hN H)) : ME (ldW (some es) (.pointer (some ⟨r, z.toNat * es, none⟩)) (Go.Ae.hN H)) K := h.of_hN.em h0 hz k
/-- an element is written. -/
theorem SB.w (h : SB P r ty es n H0 H L) {z : Int} (h0 : 0 ≤ z) (hz : z < n) {v : Value} (hp : P (cellsL v)) (hl : (cellsL v).length = es) (hk : all' okCell (cellsL v) = true) (k : ∀ H1, SB P r ty es n H0 H1 L → K undef H1) :
    ME (stW es (.pointer (some ⟨r, z.toNat * es, none⟩)) v H) K := by
  obtain ⟨cs, h1, h2, hS⟩ := h
  have hle : z.toNat * es + es ≤ cs.length := by
    have : (z.toNat + 1) * es ≤ n * es := Nat.mul_le_mul_right es (by omega)
    rw [Nat.add_mul] at this
    omega
  refine hS.st 0 rfl hl (by omega) hk fun H1 hS => k H1 ⟨splice cs (z.toNat * es) (cellsL v), ?_, fun j hj => ?_, ?_⟩
  · rw [splice_length (by omega)]; exact h1
  · rw [El_splice hl hle]
    split
    · exact hp
    · exact h2 j hj
  · exact hS
theorem SB.wQ (h : SB P r ty es n H0 H L) {z : Int} (h0 : 0 ≤ z) (hz : z < n) {v : Value} (hp : P (cellsL v)) (hl : (cellsL v).length = es) (hk : all' okCell (cellsL v) = true) (k : ∀ H1, SB P r ty es n H0 (hM H H1) L → K undef H1) :
    ME (stW es (.pointer (some ⟨r, z.toNat * es, none⟩)) v (Go.Ae.hN H)) K := by
  obtain ⟨cs, h1, h2, hS⟩ := h
  have hle : z.toNat * es + es ≤ cs.length := by
    have : (z.toNat + 1) * es ≤ n * es := Nat.mul_le_mul_right es (by omega)
    rw [Nat.add_mul] at this
    omega
  refine hS.stQ 0 rfl hl (by omega) hk fun H1 hS => k H1 ⟨splice cs (z.toNat * es) (cellsL v), ?_, fun j hj => ?_, ?_⟩
  · rw [splice_length (by omega)]; exact h1
  · rw [El_splice hl hle]
    split
    · exact hp
    · exact h2 j hj
  · exact hS
/-- an element that is a number. -/
def IntP (Q : Int → Prop) (l : List Value) : Prop := ∃ z : Int, l = [vi z] ∧ Q z
theorem SB.i1 {Q : Int → Prop} (h : SB (IntP Q) r ty 1 n H0 H L) {z : Int} (h0 : 0 ≤ z) (hz : z < n) (k : ∀ x, Q x → K (vi x) H) : ME (ldW none (.pointer (some ⟨r, z.toNat * 1, none⟩)) H) K :=
  h.e1 h0 hz fun v ⟨x, hx, hq⟩ => by cases hx; exact k x hq
theorem SB.i1Q {Q : Int → Prop} (h : SB (IntP Q) r ty 1 n H0 H L) {z : Int} (h0 : 0 ≤ z) (hz : z < n) (k : ∀ x, Q x → K (vi x) (Go.Ae.hN H)) : ME (ldW none (.pointer (some ⟨r, z.toNat * 1, none⟩)) (Go.Ae.hN H)) K :=
  h.e1Q h0 hz fun v ⟨x, hx, hq⟩ => by cases hx; exact k x hq
theorem SB.iw {Q : Int → Prop} (h : SB (IntP Q) r ty 1 n H0 H L) {z : Int} (h0 : 0 ≤ z) (hz : z < n) {x : Int} (hx : Q x) (k : ∀ H1, SB (IntP Q) r ty 1 n H0 H1 L → K undef H1) : ME (stW 1 (.pointer (some ⟨r, z.toNat * 1, none⟩)) (vi x) H) K :=
  h.w h0 hz ⟨x, rfl, hx⟩ rfl rfl k
theorem SB.iwQ {Q : Int → Prop} (h : SB (IntP Q) r ty 1 n H0 H L) {z : Int} (h0 : 0 ≤ z) (hz : z < n) {x : Int} (hx : Q x) (k : ∀ H1, SB (IntP Q) r ty 1 n H0 (hM H H1) L → K undef H1) : ME (stW 1 (.pointer (some ⟨r, z.toNat * 1, none⟩)) (vi x) (Go.Ae.hN H)) K :=
  h.wQ h0 hz ⟨x, rfl, hx⟩ rfl rfl k
end steps
end Go.Ae
