/-
  Memory told block by block: what operations do to it. No condition.
-/
import Derived.Test.YtnhfokplkmlibaaGreatDoorW3
set_option linter.unusedVariables false
set_option linter.unusedSimpArgs false
namespace Go.Ae

/-! ### blocks -/
theorem wobj_put (H : AHeap) (r : Nat) (o : AObj) (q : Nat) : (H.put r o).obj q = if q = r then o else H.obj q := Tr.get_set _ _ _ _ _
theorem wobj_new (H : AHeap) (o : AObj) (q : Nat) : (H.new o).obj q = if q = H.next then o else H.obj q := Tr.get_set _ _ _ _ _
theorem wnext_put (H : AHeap) (r : Nat) (o : AObj) : (H.put r o).next = H.next := rfl
theorem wnext_new (H : AHeap) (o : AObj) : (H.new o).next = H.next + 1 := rfl
theorem wlow_new (H : AHeap) (o : AObj) : (H.new o).low = H.low := rfl
theorem wlow_put (H : AHeap) (r : Nat) (o : AObj) : (H.put r o).low = min H.low r := by
  show bif' (Nat.ble H.low r) H.low r = _
  cases h : Nat.ble H.low r with
  | true => have := Nat.le_of_ble_eq_true h; rw [bif_true, Nat.min_eq_left this]
  | false =>
    have : ¬ H.low ≤ r := fun g => by rw [Nat.ble_eq_true_of_le g] at h; cases h
    rw [bif_false, Nat.min_eq_right (by omega)]
/-- a block that holds just these values. -/
def Bk (H : AHeap) (r : Nat) (ty : TypeId) (cs : List Value) : Prop :=
  ∃ R : Row, H.obj r = .row R ∧ R.ty = ty ∧ R.n = cs.length ∧ R.sealed' = false ∧ R.fz = 0 ∧ ∀ i (h : i < cs.length), R.cells.get top i = cs[i]
theorem Bk.cell {H : AHeap} {r : Nat} {ty : TypeId} {cs : List Value} (h : Bk H r ty cs) {o : Nat} {v : Value} (hv : cs[o]? = some v) : H.cell r o = some v := by
  obtain ⟨R, h1, _, h2, _, _, h3⟩ := h
  obtain ⟨ho, hv⟩ := List.getElem?_eq_some_iff.1 hv
  unfold AHeap.cell
  rw [h1]
  show gd (Nat.ble (Nat.succ o) R.n) (some (R.cells.get top o)) = _
  rw [h2, Nat.ble_eq_true_of_le (by omega), h3 o ho, hv]; rfl
theorem Bk.of_obj {H H' : AHeap} {r : Nat} {ty : TypeId} {cs : List Value} (h : Bk H r ty cs) (e : H'.obj r = H.obj r) : Bk H' r ty cs := by
  obtain ⟨R, h1, h2⟩ := h
  exact ⟨R, e.trans h1, h2⟩
theorem cell_of_obj {H H' : AHeap} {r : Nat} (e : H'.obj r = H.obj r) (o : Nat) : H'.cell r o = H.cell r o := by unfold AHeap.cell; rw [e]
theorem read_of_obj {H H' : AHeap} {r : Nat} (e : H'.obj r = H.obj r) (o n : Nat) : H'.read r o n = H.read r o n := by unfold AHeap.read; rw [e]
theorem Bk.new (H : AHeap) (ty : TypeId) (cs : List Value) : Bk (H.new (rowOf ty cs)) H.next ty cs := by
  refine ⟨⟨ty, Tr.ofL top cs 0 .nil, len cs, false, 0⟩, by rw [wobj_new, if_pos rfl]; rfl, rfl, len_eq cs, rfl, rfl, fun i h => ?_⟩
  rw [Tr.get_ofL, if_pos (by omega), List.getD_eq_getElem?_getD]
  simp [h]
theorem toL_eq {n : Nat} : ∀ {k : Nat} (t : Tr Value) (cs : List Value), k + n ≤ cs.length → (∀ i (h : i < cs.length), t.get top i = cs[i]) → Tr.toL top t k n = (cs.drop k).take n := by
  induction n with
  | zero => intro k t cs _ _; rw [Tr.toL_zero]; simp
  | succ n ih =>
    intro k t cs hk ht
    rw [Tr.toL_succ, ih t cs (by omega) ht, ht k (by omega), List.drop_eq_getElem_cons (by omega : k < cs.length), List.take_succ_cons]
theorem Bk.read {H : AHeap} {r : Nat} {ty : TypeId} {cs : List Value} (h : Bk H r ty cs) {o n : Nat} (hn : o + n ≤ cs.length) : H.read r o n = some ((cs.drop o).take n) := by
  obtain ⟨R, h1, _, h2, _, _, h3⟩ := h
  cases n with
  | zero => show some [] = _; simp
  | succ n =>
    show (obind (oRow (H.obj r)) fun w => gd (Nat.ble (Nat.add o (n + 1)) w.n) (some (Tr.toL top w.cells o (n + 1)))) = _
    rw [h1]
    show gd (Nat.ble (Nat.add o (n + 1)) R.n) (some (Tr.toL top R.cells o (n + 1))) = _
    rw [h2, Nat.ble_eq_true_of_le (by simpa using hn), toL_eq R.cells cs hn h3]; rfl
/-- values put into a list from a place on. -/
def splice (cs : List Value) (o : Nat) (vs : List Value) : List Value := cs.take o ++ vs ++ cs.drop (o + vs.length)
theorem splice_length {cs vs : List Value} {o : Nat} (h : o + vs.length ≤ cs.length) : (splice cs o vs).length = cs.length := by unfold splice; simp; omega
theorem splice_get {cs vs : List Value} {o : Nat} (h : o + vs.length ≤ cs.length) (i : Nat) : (splice cs o vs)[i]? = if o ≤ i ∧ i < o + vs.length then vs[i - o]? else cs[i]? := by
  unfold splice
  rw [List.append_assoc, List.getElem?_append, List.getElem?_append]
  simp only [List.length_take]
  by_cases h1 : i < o
  · rw [if_pos (by omega), if_neg (by omega), List.getElem?_take, if_pos h1]
  · rw [if_neg (by omega)]
    by_cases h2 : i < o + vs.length
    · rw [if_pos (by omega), if_pos ⟨by omega, h2⟩]; congr 1; omega
    · rw [if_neg (by omega), if_neg (by omega), List.getElem?_drop]; congr 1; omega
theorem Bk.write {H : AHeap} {r : Nat} {ty : TypeId} {cs vs : List Value} (h : Bk H r ty cs) {o : Nat} (hn : o + vs.length ≤ cs.length) (hk : all' okCell vs = true) :
    ∃ H', H.write r o vs = some H' ∧ Bk H' r ty (splice cs o vs) ∧ H'.next = H.next ∧ (∀ q, q ≠ r → H'.obj q = H.obj q) ∧ (H'.low = min H.low r ∨ H'.low = H.low) := by
  obtain ⟨R, h1, h2, h3, h4, h5, h6⟩ := h
  cases vs with
  | nil =>
    refine ⟨H, rfl, ⟨R, h1, h2, by rw [splice_length hn]; exact h3, h4, h5, fun i hi => ?_⟩, rfl, fun _ _ => rfl, .inr rfl⟩
    have hi' : i < cs.length := by rwa [splice_length hn] at hi
    have := splice_get hn i
    rw [if_neg (fun h => absurd h.2 (by simp; omega)), List.getElem?_eq_getElem hi, List.getElem?_eq_getElem hi'] at this
    rw [h6 i hi']; exact (Option.some.inj this).symm
  | cons v vs' =>
    have hw : H.write r o (v :: vs') = some (H.put r (.row ⟨R.ty, Tr.ofL top (v :: vs') o R.cells, R.n, false, R.fz⟩)) := by
      show (obind (oRow (H.obj r)) fun w => gd (!w.sealed' && Nat.ble (Nat.add o (len (v :: vs'))) w.n && Nat.ble w.fz o && all' okCell (v :: vs')) (some (H.put r (.row ⟨w.ty, Tr.ofL top (v :: vs') o w.cells, w.n, false, w.fz⟩)))) = _
      rw [h1]
      show gd (!R.sealed' && Nat.ble (Nat.add o (len (v :: vs'))) R.n && Nat.ble R.fz o && all' okCell (v :: vs')) _ = _
      rw [hk, h4, h3, h5, len_eq, Nat.ble_eq_true_of_le (by simpa using hn), Nat.ble_eq_true_of_le (Nat.zero_le o)]; rfl
    refine ⟨_, hw, ⟨⟨R.ty, Tr.ofL top (v :: vs') o R.cells, R.n, false, R.fz⟩, by rw [wobj_put, if_pos rfl], h2, by rw [splice_length hn]; exact h3, rfl, h5, fun i hi => ?_⟩, rfl, fun q hq => by rw [wobj_put, if_neg hq], .inl (wlow_put _ _ _)⟩
    have hi' : i < cs.length := by rwa [splice_length hn] at hi
    have hg := splice_get hn i
    rw [List.getElem?_eq_getElem hi] at hg
    show (Tr.ofL top (v :: vs') o R.cells).get top i = _
    rw [Tr.get_ofL]
    by_cases hc : o ≤ i ∧ i < o + (v :: vs').length
    · rw [if_pos hc] at hg ⊢
      rw [List.getD_eq_getElem?_getD, ← hg]; rfl
    · rw [if_neg hc] at hg ⊢
      rw [h6 i hi']
      rw [List.getElem?_eq_getElem hi'] at hg
      exact (Option.some.inj hg).symm

/-! ### what stays -/
/-- all that was there is as it was, but for some blocks. -/
structure Ex' (S : List Nat) (H H' : AHeap) : Prop where
  next : H.next ≤ H'.next
  obj : ∀ r, r < H.next → r ∉ S → H'.obj r = H.obj r
  low : ∀ b, b ≤ H.low → b ≤ H.next → (∀ r ∈ S, b ≤ r) → b ≤ H'.low
  wf : H.low ≤ H.next → H'.low ≤ H'.next
abbrev Wf (H : AHeap) : Prop := H.low ≤ H.next
abbrev Ext (H H' : AHeap) : Prop := Ex' [] H H'
theorem Ext.refl (H : AHeap) : Ext H H := ⟨Nat.le_refl _, fun _ _ _ => rfl, fun _ h _ _ => h, fun h => h⟩
theorem Ex'.refl (S : List Nat) (H : AHeap) : Ex' S H H := ⟨Nat.le_refl _, fun _ _ _ => rfl, fun _ h _ _ => h, fun h => h⟩
theorem Ex'.trans {S : List Nat} {A B C : AHeap} (h1 : Ex' S A B) (h2 : Ex' S B C) : Ex' S A C :=
  ⟨Nat.le_trans h1.next h2.next, fun r hr hS => (h2.obj r (Nat.lt_of_lt_of_le hr h1.next) hS).trans (h1.obj r hr hS), fun b hl hn hS => h2.low b (h1.low b hl hn hS) (Nat.le_trans hn h1.next) hS, fun h => h2.wf (h1.wf h)⟩
/-- blocks that came later may be turned. -/
theorem Ex'.later {S S' : List Nat} {A B C : AHeap} (h1 : Ex' S A B) (h2 : Ex' S' B C) (hS : ∀ r ∈ S', r ∈ S ∨ A.next ≤ r) : Ex' S A C :=
  ⟨Nat.le_trans h1.next h2.next, fun r hr hn => (h2.obj r (Nat.lt_of_lt_of_le hr h1.next) (fun h => by
      rcases hS r h with h | h
      · exact hn h
      · omega)).trans (h1.obj r hr hn),
    fun b hl hn hb => h2.low b (h1.low b hl hn hb) (Nat.le_trans hn h1.next) (fun r hr => by
      rcases hS r hr with h | h
      · exact hb r h
      · omega), fun h => h2.wf (h1.wf h)⟩
theorem Ex'.weaken {S S' : List Nat} {A B : AHeap} (h : Ex' S A B) (hs : ∀ r ∈ S, r ∈ S') : Ex' S' A B := ⟨h.next, fun r hr hn => h.obj r hr (fun g => hn (hs r g)), fun b hl hn hb => h.low b hl hn (fun r hr => hb r (hs r hr)), h.wf⟩
theorem Ext.new (H : AHeap) (o : AObj) : Ext H (H.new o) := ⟨Nat.le_succ _, fun r hr _ => by rw [wobj_new, if_neg (by omega)], fun _ h _ _ => h, fun h => Nat.le_succ_of_le h⟩
theorem Ex'.put (H : AHeap) (r : Nat) (o : AObj) : Ex' [r] H (H.put r o) := ⟨Nat.le_refl _, fun q _ hq => by rw [wobj_put, if_neg (fun e => hq (by simp [e]))], fun b h _ hb => by rw [wlow_put]; have := hb r (by simp); omega, fun h => by rw [wlow_put]; show min H.low r ≤ H.next; omega⟩

/-! ### memory as a list of blocks over what was there -/
abbrev Blk := Nat × TypeId × List Value
structure SH (S : List Nat) (H0 H : AHeap) (L : List Blk) : Prop where
  ext : Ex' S H0 H
  bk : ∀ e ∈ L, Bk H e.1 e.2.1 e.2.2
  lo : ∀ e ∈ L, (e.1 ∈ S ∨ H0.next ≤ e.1) ∧ e.1 < H.next
  ne : L.Pairwise (fun a b => a.1 ≠ b.1)
  wf : H.low ≤ H.next
variable {S : List Nat}
theorem SH.refl {H : AHeap} (hw : Wf H) : SH [] H H [] := ⟨Ext.refl H, (fun e h => by cases h), (fun e h => by cases h), List.Pairwise.nil, hw⟩
theorem SH.reflS {H : AHeap} (hw : Wf H) : SH S H H [] := ⟨Ex'.refl S H, (fun e h => by cases h), (fun e h => by cases h), List.Pairwise.nil, hw⟩
theorem SH.lo0 {H0 H : AHeap} {L : List Blk} (hS : SH [] H0 H L) {e : Blk} (he : e ∈ L) : H0.next ≤ e.1 := (hS.lo e he).1.resolve_left (fun h => nomatch h)
theorem SH.get {H0 H : AHeap} {L : List Blk} (hS : SH S H0 H L) (i : Nat) {r : Nat} {ty : TypeId} {cs : List Value} (hi : L[i]? = some (r, ty, cs)) : Bk H r ty cs := hS.bk _ (List.mem_of_getElem? hi)
theorem SH.old {H0 H : AHeap} {L : List Blk} (hS : SH [] H0 H L) {r o : Nat} (hr : r < H0.next) : H.cell r o = H0.cell r o := cell_of_obj (hS.ext.obj r hr (by simp)) o
theorem SH.oldBk {H0 H : AHeap} {L : List Blk} (hS : SH [] H0 H L) {r : Nat} {ty : TypeId} {cs : List Value} (hr : r < H0.next) (h : Bk H0 r ty cs) : Bk H r ty cs := h.of_obj (hS.ext.obj r hr (by simp))
theorem SH.grow {H0 H : AHeap} {L : List Blk} (hS : SH S H0 H L) (ty : TypeId) (cs : List Value) : SH S H0 (H.new (rowOf ty cs)) ((H.next, ty, cs) :: L) := by
  refine ⟨hS.ext.later (Ext.new _ _) (fun r h => nomatch h), ?_, ?_, ?_, (Ext.new _ _).wf hS.wf⟩
  · intro e he
    rcases List.mem_cons.1 he with rfl | he
    · exact Bk.new H ty cs
    · exact (hS.bk e he).of_obj (by rw [wobj_new, if_neg (by have := (hS.lo e he).2; omega)])
  · intro e he
    rcases List.mem_cons.1 he with rfl | he
    · exact ⟨.inr hS.ext.next, Nat.lt_succ_self _⟩
    · exact ⟨(hS.lo e he).1, Nat.lt_succ_of_lt (hS.lo e he).2⟩
  · refine List.Pairwise.cons (fun e he => ?_) hS.ne
    have := (hS.lo e he).2
    show H.next ≠ e.1
    omega
/-- some of the blocks are turned, others come. -/
theorem SH.turn {H0 H H' : AHeap} {A A' L : List Blk} (hS : SH S H0 H (A ++ L)) (hx : Ex' (A.map (·.1)) H H') (hb : ∀ e ∈ A', Bk H' e.1 e.2.1 e.2.2 ∧ (e.1 ∈ A.map (·.1) ∨ H.next ≤ e.1) ∧ e.1 < H'.next) (hn : A'.Pairwise (fun a b => a.1 ≠ b.1)) : SH S H0 H' (A' ++ L) := by
  have hp := List.pairwise_append.1 hS.ne
  have hA : ∀ r ∈ A.map (·.1), ∃ e ∈ A, e.1 = r := fun r hr => by simpa using hr
  have hnot : ∀ e ∈ L, e.1 ∉ A.map (·.1) := fun e he h => by
    obtain ⟨a, ha, e1⟩ := hA _ h
    exact hp.2.2 a ha e he e1
  refine ⟨?_, ?_, ?_, ?_, hx.wf hS.wf⟩
  · refine Ex'.later hS.ext hx (fun r hr => ?_)
    obtain ⟨a, ha, rfl⟩ := hA r hr
    exact (hS.lo a (List.mem_append_left _ ha)).1
  · intro e he
    rcases List.mem_append.1 he with he | he
    · exact (hb e he).1
    · exact (hS.bk e (List.mem_append_right _ he)).of_obj (hx.obj _ (hS.lo e (List.mem_append_right _ he)).2 (hnot e he))
  · intro e he
    rcases List.mem_append.1 he with he | he
    · refine ⟨?_, (hb e he).2.2⟩
      rcases (hb e he).2.1 with h | h
      · obtain ⟨a, ha, e1⟩ := hA _ h
        rw [← e1]; exact (hS.lo a (List.mem_append_left _ ha)).1
      · have := hS.ext.next; exact .inr (by omega)
    · have := hS.lo e (List.mem_append_right _ he)
      exact ⟨this.1, Nat.lt_of_lt_of_le this.2 hx.next⟩
  · refine List.pairwise_append.2 ⟨hn, hp.2.1, fun a ha e he => ?_⟩
    rcases (hb a ha).2.1 with h | h
    · exact fun e1 => hnot e he (by rw [← e1]; exact h)
    · have := (hS.lo e (List.mem_append_right _ he)).2; omega
theorem SH.call {H0 H H' : AHeap} {L : List Blk} (hS : SH S H0 H L) (hx : Ext H H') : SH S H0 H' L := SH.turn (A := []) (A' := []) hS hx (fun e h => nomatch h) List.Pairwise.nil
theorem SH.drop {H0 H : AHeap} {A L : List Blk} (hS : SH S H0 H (A ++ L)) : SH S H0 H L := SH.turn (A := A) (A' := []) hS (Ex'.refl _ _) (fun e h => nomatch h) List.Pairwise.nil
theorem SH.perm {H0 H : AHeap} {L L' : List Blk} (hS : SH S H0 H L) (hp : L.Perm L') : SH S H0 H L' :=
  ⟨hS.ext, fun e he => hS.bk e (hp.mem_iff.2 he), fun e he => hS.lo e (hp.mem_iff.2 he), hp.pairwise hS.ne (fun h => h.symm), hS.wf⟩
/-- the same, seen from where it is now. -/
theorem SH.base {H0 H : AHeap} {L : List Blk} (hS : SH S H0 H L) : SH (L.map (·.1)) H H L :=
  ⟨Ex'.refl _ _, hS.bk, fun e he => ⟨.inl (List.mem_map.2 ⟨e, he, rfl⟩), (hS.lo e he).2⟩, hS.ne, hS.wf⟩
/-- and back. -/
theorem SH.over {H0 H H' : AHeap} {L L' : List Blk} (hS : SH S H0 H L) (h : SH (L.map (·.1)) H H' L') : SH S H0 H' L' := by
  have hA : ∀ r ∈ L.map (·.1), ∃ e ∈ L, e.1 = r := fun r hr => by simpa using hr
  refine ⟨Ex'.later hS.ext h.ext (fun r hr => ?_), h.bk, fun e he => ⟨?_, (h.lo e he).2⟩, h.ne, h.wf⟩
  · obtain ⟨a, ha, rfl⟩ := hA r hr
    exact (hS.lo a ha).1
  · rcases (h.lo e he).1 with h1 | h1
    · obtain ⟨a, ha, e1⟩ := hA _ h1
      rw [← e1]; exact (hS.lo a ha).1
    · have := hS.ext.next; exact .inr (by omega)
theorem SH.lt {H0 H : AHeap} {L : List Blk} (hS : SH S H0 H L) : ∀ r ∈ L.map (·.1), r < H.next := fun r hr => by
  obtain ⟨e, he, rfl⟩ := List.mem_map.1 hr
  exact (hS.lo e he).2
theorem SH.weaken {S' : List Nat} {H0 H : AHeap} {L : List Blk} (hS : SH S H0 H L) (h : ∀ r ∈ S, r ∈ S') : SH S' H0 H L :=
  ⟨hS.ext.weaken h, hS.bk, fun e he => ⟨(hS.lo e he).1.imp_left (h _), (hS.lo e he).2⟩, hS.ne, hS.wf⟩

/-! ### steps -/
section steps
variable {H0 H : AHeap} {L : List Blk} {K : Value → AHeap → Prop}
theorem SH.box (hS : SH S H0 H L) {ty : TypeId} {x : Value} (hx : notTop x = true) (k : ∀ H1 r, SH S H0 H1 ((r, ty, cellsL x) :: L) → K (.pointer (some ⟨r, 0, none⟩)) H1) : ME (abox ty x H) K := by
  unfold abox
  rw [hx]
  exact k _ _ (hS.grow ty (cellsL x))
theorem SH.newW (hS : SH S H0 H L) {ty : TypeId} {z : List Value} (k : ∀ H1 r, SH S H0 H1 ((r, ty, z) :: L) → K (.pointer (some ⟨r, 0, none⟩)) H1) : ME (Go.Ae.newW ty z H) K := k _ _ (hS.grow ty z)
theorem ME.ld {r o : Nat} {v : Value} (h : H.cell r o = some v) (k : K v H) : ME (ldW none (.pointer (some ⟨r, o, none⟩)) H) K := by
  show ME (obind (H.cell r o) fun v => some (v, H)) K
  rw [h]; exact k
theorem ME.ldN {r o n : Nat} {vs : List Value} (h : H.read r o n = some vs) (k : K (.agg ⟨vs⟩) H) : ME (ldW (some n) (.pointer (some ⟨r, o, none⟩)) H) K := by
  show ME (obind (H.read r o n) fun vs => some (.agg ⟨vs⟩, H)) K
  rw [h]; exact k
/-- a load of a cell of a block of the list. -/
theorem SH.ld (hS : SH S H0 H L) (i : Nat) {r o : Nat} {ty : TypeId} {cs : List Value} {v : Value} (hi : L[i]? = some (r, ty, cs)) (hv : cs[o]? = some v) (k : K v H) : ME (ldW none (.pointer (some ⟨r, o, none⟩)) H) K := ME.ld ((hS.get i hi).cell hv) k
theorem SH.ldN (hS : SH S H0 H L) (i : Nat) {r o n : Nat} {ty : TypeId} {cs : List Value} (hi : L[i]? = some (r, ty, cs)) (hn : o + n ≤ cs.length) (k : K (.agg ⟨(cs.drop o).take n⟩) H) : ME (ldW (some n) (.pointer (some ⟨r, o, none⟩)) H) K := ME.ldN ((hS.get i hi).read hn) k
/-- a load of a cell that was there. -/
theorem SH.ldO (hS : SH [] H0 H L) {r o : Nat} {v : Value} (h : H0.cell r o = some v) (hr : r < H0.next) (k : K v H) : ME (ldW none (.pointer (some ⟨r, o, none⟩)) H) K := ME.ld ((hS.old hr).trans h) k
theorem SH.ldNO (hS : SH [] H0 H L) {r o n : Nat} {vs : List Value} (h : H0.read r o n = some vs) (hr : r < H0.next) (k : K (.agg ⟨vs⟩) H) : ME (ldW (some n) (.pointer (some ⟨r, o, none⟩)) H) K := ME.ldN ((read_of_obj (hS.ext.obj r hr (by simp)) o n).trans h) k
theorem perm_erase {α : Type} : ∀ {l : List α} {i : Nat} (h : i < l.length), (l[i] :: l.eraseIdx i).Perm l := by
  intro l
  induction l with
  | nil => intro i h; cases h
  | cons x l ih =>
    intro i h
    cases i with
    | zero => exact List.Perm.refl _
    | succ i => exact (List.Perm.swap x _ _).trans ((ih (by simpa using h)).cons x)
theorem SH.writeAt (hS : SH S H0 H L) (i : Nat) {r o : Nat} {ty : TypeId} {cs vs : List Value} (hi : L[i]? = some (r, ty, cs)) (hn : o + vs.length ≤ cs.length) (hk : all' okCell vs = true) :
    ∃ H1, H.write r o vs = some H1 ∧ SH S H0 H1 (L.set i (r, ty, splice cs o vs)) ∧ Ex' [r] H H1 := by
  have hil : i < L.length := (List.getElem?_eq_some_iff.1 hi).1
  have hig : L[i] = (r, ty, cs) := (List.getElem?_eq_some_iff.1 hi).2
  obtain ⟨H1, h1, h2, h3, h4, h5⟩ := (hS.get i hi).write hn hk
  have hx : Ex' [r] H H1 := ⟨by omega, fun q _ hq => h4 q (fun e => hq (by simp [e])), fun b hl _ hb => by
    have := hb r (by simp)
    rcases h5 with h5 | h5 <;> omega, fun h => by rcases h5 with h5 | h5 <;> omega⟩
  refine ⟨H1, h1, ?_, hx⟩
  have hp : L.Perm ((r, ty, cs) :: L.eraseIdx i) := by rw [← hig]; exact (perm_erase hil).symm
  have hS2 : SH S H0 H ([(r, ty, cs)] ++ L.eraseIdx i) := hS.perm hp
  have hS3 := SH.turn (A' := [(r, ty, splice cs o vs)]) hS2 hx (fun e he => by
    rw [List.mem_singleton] at he
    subst he
    refine ⟨h2, .inl (by simp), ?_⟩
    have := (hS.lo _ (List.mem_of_getElem? hi)).2
    show r < H1.next
    omega) (List.pairwise_singleton _ _)
  refine hS3.perm ?_
  have : (L.set i (r, ty, splice cs o vs)).eraseIdx i = L.eraseIdx i := by rw [List.eraseIdx_set_eq]
  have hl : i < (L.set i (r, ty, splice cs o vs)).length := by simpa using hil
  have hg : (L.set i (r, ty, splice cs o vs))[i] = (r, ty, splice cs o vs) := by simp
  have hq := perm_erase hl
  rw [hg, this] at hq
  exact hq
/-- a store into a block of the list. -/
theorem SH.st (hS : SH S H0 H L) (i : Nat) {r o n : Nat} {ty : TypeId} {cs : List Value} {v : Value} (hi : L[i]? = some (r, ty, cs)) (hl : (cellsL v).length = n) (hn : o + n ≤ cs.length) (hk : all' okCell (cellsL v) = true)
    (k : ∀ H1, SH S H0 H1 (L.set i (r, ty, splice cs o (cellsL v))) → K undef H1) : ME (stW n (.pointer (some ⟨r, o, none⟩)) v H) K := by
  obtain ⟨H1, h1, h2, _⟩ := hS.writeAt (vs := cellsL v) (o := o) i hi (by omega) hk
  show ME (gd (Nat.beq (len (cellsL v)) n) (obind (H.write r o (cellsL v)) fun H' => some (undef, H'))) K
  rw [len_eq, hl, Nat.beq_refl, h1]
  exact k H1 h2
end steps

/-! ### regions whose order is drawn -/
theorem hM_hN {H : AHeap} (h : H.low ≤ H.next) : hM H (hN H) = H := by
  show AHeap.mk H.objs H.next (bif' (Nat.ble H.low H.next) H.low H.next) = H
  rw [Nat.ble_eq_true_of_le h]; rfl
theorem wf_hN (H : AHeap) : Wf (hN H) := Nat.le_refl _
theorem lowMin_eq (a b : Nat) : lowMin a b = min a b := by
  show bif' (Nat.ble a b) a b = _
  cases h : Nat.ble a b with
  | true => rw [bif_true, Nat.min_eq_left (Nat.le_of_ble_eq_true h)]
  | false =>
    have : ¬ a ≤ b := fun g => by rw [Nat.ble_eq_true_of_le g] at h; cases h
    rw [bif_false, Nat.min_eq_right (by omega)]
theorem Ex'.draw {S : List Nat} {H H' : AHeap} (hx : Ex' S (hN H) H') : Ex' S H (hM H H') :=
  ⟨hx.next, hx.obj, fun b hl hn hb => by show b ≤ lowMin H.low H'.low; rw [lowMin_eq]; have := hx.low b hn hn hb; omega, fun h => by show lowMin H.low H'.low ≤ H'.next; rw [lowMin_eq]; have : H.next ≤ H'.next := hx.next; omega⟩
theorem SH.callD {H0 H H' : AHeap} {L : List Blk} (hS : SH S H0 H L) (hx : Ext (hN H) H') : SH S H0 (hM H H') L := hS.call hx.draw
theorem SH.hN {H0 H : AHeap} {L : List Blk} (hS : SH S H0 H L) : (∀ r o, (Go.Ae.hN H).cell r o = H.cell r o) ∧ (∀ r o n, (Go.Ae.hN H).read r o n = H.read r o n) := ⟨fun _ _ => rfl, fun _ _ _ => rfl⟩
theorem clL_ld (n r o : Nat) (H : AHeap) : clL n (.pointer (some ⟨r, o, none⟩)) H (hN H) = ⟨4, r, o, n, hh0, hh0⟩ := by
  show bif' (Nat.ble H.next H.next) _ _ = _
  rw [Nat.ble_eq_true_of_le (Nat.le_refl _)]; rfl
theorem clC_ext {H H' : AHeap} (hx : Ext (hN H) H') : clC H H' = cl 1 := by
  show bif' (Nat.ble H.next H'.low) _ _ = _
  rw [Nat.ble_eq_true_of_le (hx.low H.next (Nat.le_refl _) (Nat.le_refl _) (fun r h => nomatch h))]; rfl
theorem clF_new {H H' : AHeap} (hx : Ext (hN H) H') : clF H H' = cl 5 := by
  show bif' (Nat.ble H.next H'.low) _ _ = _
  rw [Nat.ble_eq_true_of_le (hx.low H.next (Nat.le_refl _) (Nat.le_refl _) (fun r h => nomatch h))]; rfl
theorem clS_ptr (r o : Nat) (v : Value) (H H' : AHeap) : clS (.pointer (some ⟨r, o, none⟩)) v H H' = ⟨3, r, o, len (cellsL v), hh0, hh0⟩ := rfl
theorem dynOk_quiet {ops : Array Oper} {cls : List Cl} (h : noTwo cls = true) : dynOk ops cls = true := by
  unfold dynOk; rw [h]; rfl
end Go.Ae
