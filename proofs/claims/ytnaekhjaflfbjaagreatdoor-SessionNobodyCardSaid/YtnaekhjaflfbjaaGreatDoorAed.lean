/-
  Big steps of the second machine. No condition.
-/
import Derived.Below
import Derived.RowKit3
import Derived.Test.YtnaekhjaflfbjaaGreatDoorAec
set_option linter.unusedVariables false
set_option linter.unusedSimpArgs false

namespace Go.Ae

/-! ### cells that are the same -/
theorem oSome_of {o : Option Unit} (h : oIsSome o = true) : o = some () := by
  cases o with
  | none => cases h
  | some u => rfl
theorem addrEq_eq {a b : Addr} (h : addrEq a b = true) : a = b := by
  obtain ⟨r, o, s⟩ := a
  obtain ⟨r', o', s'⟩ := b
  simp only [addrEq, Bool.and_eq_true] at h
  obtain ⟨⟨⟨h1, h2⟩, h3⟩, h4⟩ := h
  have h1 := Nat.eq_of_beq_eq_true h1
  have h2 := Nat.eq_of_beq_eq_true h2
  cases s with
  | some _ => cases h3
  | none => cases s' with
    | some _ => cases h4
    | none => rw [h1, h2]
theorem oAddrEq_eq {a b : Option Addr} (h : oAddrEq a b = true) : a = b := by
  cases a with
  | none => cases b with
    | none => rfl
    | some _ => cases h
  | some x => cases b with
    | none => cases h
    | some y => rw [addrEq_eq (show addrEq x y = true from h)]
theorem oNatEq_eq {a b : Option Nat} (h : oNatEq a b = true) : a = b := by
  cases a with
  | none => cases b with
    | none => rfl
    | some _ => cases h
  | some x => cases b with
    | none => cases h
    | some y => rw [Nat.eq_of_beq_eq_true (show Nat.beq x y = true from h)]
theorem same0_eq {x y : Value} (h : same0 x y = true) : x = y := by
  unfold same0 at h
  simp only [Bool.or_eq_true] at h
  rcases h with h | h | h | h | h | h | h
  · replace h := oSome_of h
    (replace h := obind_eq h; obtain ⟨a, ha, h⟩ := h)
    (replace h := obind_eq h; obtain ⟨b, hb, h⟩ := h)
    (replace h := gd_eq h; obtain ⟨hg, h⟩ := h)
    rw [Bool.and_eq_true, iEq_eq, beq_iff_eq] at hg
    rw [vInt_eq ha, vInt_eq hb, kCode_eq hg.1, hg.2]
  · replace h := oSome_of h
    (replace h := obind_eq h; obtain ⟨a, ha, h⟩ := h)
    (replace h := obind_eq h; obtain ⟨b, hb, h⟩ := h)
    (replace h := gd_eq h; obtain ⟨hg, h⟩ := h)
    rw [vPtr_eq ha, vPtr_eq hb, addrEq_eq hg]
  · replace h := oSome_of h
    (replace h := obind_eq h; obtain ⟨a, ha, h⟩ := h)
    (replace h := obind_eq h; obtain ⟨b, hb, h⟩ := h)
    (replace h := gd_eq h; obtain ⟨hg, h⟩ := h)
    rw [Bool.and_eq_true, Bool.and_eq_true] at hg
    rw [vSl_eq ha, vSl_eq hb, oAddrEq_eq hg.1.1, Nat.eq_of_beq_eq_true hg.1.2, Nat.eq_of_beq_eq_true hg.2]
  · replace h := oSome_of h
    (replace h := obind_eq h; obtain ⟨a, ha, h⟩ := h)
    (replace h := obind_eq h; obtain ⟨b, hb, h⟩ := h)
    (replace h := gd_eq h; obtain ⟨hg, h⟩ := h)
    rw [bEq_eq, beq_iff_eq] at hg
    rw [vBool_eq ha, vBool_eq hb, hg]
  · replace h := oSome_of h
    (replace h := obind_eq h; obtain ⟨a, ha, h⟩ := h)
    (replace h := obind_eq h; obtain ⟨b, hb, h⟩ := h)
    (replace h := gd_eq h; obtain ⟨hg, h⟩ := h)
    rw [strEq_eq, beq_iff_eq, ByteArray.toList_eq, ByteArray.toList_eq] at hg
    have : a = b := by
      obtain ⟨⟨la⟩⟩ := a
      obtain ⟨⟨lb⟩⟩ := b
      simp at hg
      rw [hg]
    rw [vStr_eq ha, vStr_eq hb, this]
  · replace h := oSome_of h
    (replace h := obind_eq h; obtain ⟨a, ha, h⟩ := h)
    (replace h := obind_eq h; obtain ⟨b, hb, h⟩ := h)
    (replace h := gd_eq h; obtain ⟨hg, h⟩ := h)
    rw [vMap_eq ha, vMap_eq hb, oNatEq_eq hg]
  · unfold sameN at h
    rw [Bool.and_eq_true, Bool.and_eq_true] at h
    obtain ⟨⟨h1, h2⟩, h3⟩ := h
    cases x <;> first | (replace h1 : false = true := h1; cases h1; done) | skip
    all_goals cases y <;> first | rfl | (replace h2 : false = true := h2; cases h2; done) | (replace h3 : false = true := h3; cases h3; done) | skip
    all_goals
      rename_i p q
      cases p <;> cases q <;> first | rfl | (replace h1 : false = true := h1; cases h1; done) | (replace h2 : false = true := h2; cases h2; done)
theorem sameLW_eq {f : Value → Value → Bool} (hf : ∀ {x y : Value}, f x y = true → x = y) : ∀ {xs ys : List Value}, sameLW f xs ys = true → xs = ys := by
  intro xs
  induction xs with
  | nil =>
    intro ys h
    cases ys with
    | nil => rfl
    | cons y ys => cases h
  | cons x xs ih =>
    intro ys h
    cases ys with
    | nil => cases h
    | cons y ys =>
      replace h : bif' (f x y) (sameLW f xs ys) false = true := h
      cases h1 : f x y with
      | false => rw [h1] at h; cases h
      | true =>
        rw [h1] at h
        rw [hf h1, ih h]
theorem sameF_eq {f : Value → Value → Bool} (hf : ∀ {x y : Value}, f x y = true → x = y) {x y : Value} (h : sameF f x y = true) : x = y := by
  replace h := oSome_of h
  (replace h := obind_eq h; obtain ⟨a, ha, h⟩ := h)
  (replace h := obind_eq h; obtain ⟨b, hb, h⟩ := h)
  (replace h := obind_eq h; obtain ⟨g, hg, h⟩ := h)
  (replace h := obind_eq h; obtain ⟨k, hk, h⟩ := h)
  (replace h := gd_eq h; obtain ⟨hh, h⟩ := h)
  rw [Bool.and_eq_true, Bool.and_eq_true] at hh
  rw [vFn_eq ha, vFn_eq hb, fFn_eq hg, fFn_eq hk, Nat.eq_of_beq_eq_true hh.1.1, sameLW_eq hf hh.1.2, sameLW_eq hf hh.2]
theorem same1_eq {x y : Value} (h : same1 x y = true) : x = y := by
  have h00 : ∀ {x y : Value}, same00 x y = true → x = y := by
    intro x y h
    unfold same00 at h
    rw [Bool.or_eq_true] at h
    rcases h with h | h
    · exact same0_eq h
    · exact sameF_eq same0_eq h
  unfold same1 at h
  rw [Bool.or_eq_true] at h
  rcases h with h | h
  · exact h00 h
  · exact sameF_eq h00 h
theorem sameL_eq : ∀ {xs ys : List Value}, sameL xs ys = true → xs = ys := by
  intro xs
  induction xs with
  | nil =>
    intro ys h
    cases ys with
    | nil => rfl
    | cons y ys => cases h
  | cons x xs ih =>
    intro ys h
    cases ys with
    | nil => cases h
    | cons y ys =>
      replace h : bif' (same1 x y) (sameL xs ys) false = true := h
      cases h1 : same1 x y with
      | false => rw [h1] at h; cases h
      | true =>
        rw [h1] at h
        rw [same1_eq h1, ih h]
theorem read_cells {H : AHeap} {r off k : Nat} {vs : List Value} (h : H.read r off k = some vs) : ∀ j, j < k → cellA (H.obj r) (off + j) = vs[j]? ∧ j < vs.length := by
  intro j hj
  cases k with
  | zero => omega
  | succ k =>
    replace h : (obind (oRow (H.obj r)) fun w => gd (Nat.ble (Nat.add off (k + 1)) w.n) (some (Tr.toL top w.cells off (k + 1)))) = some vs := h
    (replace h := obind_eq h; obtain ⟨R, hR, h⟩ := h)
    (replace h := gd_eq h; obtain ⟨hg, h⟩ := h)
    cases h
    have hg : off + (k + 1) ≤ R.n := Nat.le_of_ble_eq_true hg
    rw [oRow_eq hR, toL_get _ _ _ _ _ hj, toL_len]
    refine ⟨?_, hj⟩
    simp only [cellA]
    rw [if_pos (by omega)]
theorem sameAt_cells {A B : AHeap} {r off k : Nat} (h : sameAt A B r off k = true) : ∀ j, off ≤ j → j < off + k → cellA (A.obj r) j = cellA (B.obj r) j := by
  replace h := oSome_of h
  (replace h := obind_eq h; obtain ⟨x, hx, h⟩ := h)
  (replace h := obind_eq h; obtain ⟨y, hy, h⟩ := h)
  (replace h := gd_eq h; obtain ⟨hg, h⟩ := h)
  intro j h1 h2
  have a1 := (read_cells hx (j - off) (by omega)).1
  have a2 := (read_cells hy (j - off) (by omega)).1
  rw [show off + (j - off) = j from by omega] at a1 a2
  rw [a1, a2, sameL_eq hg]

theorem shp_cell {o o' : AObj} (e : shp o = shp o') (i : Nat) : (cellA o i).isSome = (cellA o' i).isSome := by
  cases o <;> cases o' <;> simp only [shp] at e <;> first | rfl | cases e | skip
  case row.row R R' =>
    simp only [AObj.row.injEq, Row.mk.injEq] at e
    simp only [cellA, e.2.2.1]
    split <;> rfl

/-- what a write comes to. -/
theorem write_obj {H H' : AHeap} {r off : Nat} {vs : List Value} (h : H.write r off vs = some H') :
    H'.next = H.next ∧ (∀ k, k ≠ r → H'.obj k = H.obj k) ∧ shp (H'.obj r) = shp (H.obj r) ∧ (∀ i, ¬ (off ≤ i ∧ i < off + vs.length) → cellA (H'.obj r) i = cellA (H.obj r) i) ∧
      (∀ i, off ≤ i → i < off + vs.length → cellA (H'.obj r) i = vs[i - off]?) ∧ (vs ≠ [] → H'.low ≤ r) := by
  cases vs with
  | nil =>
    cases h
    exact ⟨rfl, fun _ _ => rfl, rfl, fun _ _ => rfl, fun i a b => by simp at b; omega, fun h => absurd rfl h⟩
  | cons v vs =>
    replace h : (obind (oRow (H.obj r)) fun w =>
      gd (!w.sealed' && Nat.ble (Nat.add off (len (v :: vs))) w.n && Nat.ble w.fz off && all' okCell (v :: vs))
      (some (H.put r (.row ⟨w.ty, Tr.ofL top (v :: vs) off w.cells, w.n, false, w.fz⟩)))) = some H' := h
    (replace h := obind_eq h; obtain ⟨R, hR, h⟩ := h)
    (replace h := gd_eq h; obtain ⟨hg, h⟩ := h)
    cases h
    have hRo := oRow_eq hR
    simp only [Bool.and_eq_true, len_eq] at hg
    obtain ⟨⟨⟨g0, g1⟩, g2⟩, g3⟩ := hg
    have g1 : off + (v :: vs).length ≤ R.n := Nat.le_of_ble_eq_true g1
    have g0 : R.sealed' = false := by simpa using g0
    have hobj : (H.put r (.row ⟨R.ty, Tr.ofL top (v :: vs) off R.cells, R.n, false, R.fz⟩)).obj r = .row ⟨R.ty, Tr.ofL top (v :: vs) off R.cells, R.n, false, R.fz⟩ := by rw [obj_put, if_pos rfl]
    refine ⟨rfl, fun k hk => by rw [obj_put, if_neg hk], ?_, ?_, ?_, fun _ => (low_put _ _ _).1⟩
    · rw [hobj, hRo]
      simp only [shp, g0]
    · intro i hi
      rw [hobj, hRo]
      simp only [cellA]
      rw [Tr.get_ofL, if_neg hi]
    · intro i h1 h2
      rw [hobj]
      simp only [cellA]
      rw [if_pos (by omega), Tr.get_ofL, if_pos ⟨h1, h2⟩, List.getD_eq_getElem?_getD, List.getElem?_eq_getElem (by omega)]
      rfl

section rg
variable {P : Program} {cf : CallF} {ops : Array Oper} {n nt : Nat} {S : Nat → St} {C : Nat → Cl} {m0 : Mp} {w0 : World}

theorem storeOf_eq {o : Op} {p : Operand × Operand} (h : storeOf o = some p) : ∃ t, o = .store t p.1 p.2 := by
  cases o <;> first | cases h | skip
  exact ⟨_, rfl⟩
theorem loadOf_eq {o : Op} {p : TypeId × Operand} (h : loadOf o = some p) : o = .load p.1 p.2 := by
  cases o <;> first | cases h | skip
  rfl

/-- a store, step by step. -/
structure StoreK (P : Program) (cf : CallF) (ops : Array Oper) (o : Oper) (s s1 : St) (c : Cl) : Prop where
  ex : ∃ t x y a H', o.op = .store t x y ∧ wantA ops s o.guard = some true ∧ vPtr (ev s x) = some a ∧ c = ⟨3, a.block, a.off, len (cellsL (ev s y)), hh0, hh0⟩ ∧
    astore P t (ev s x) (ev s y) (atNext s).H = some (undef, H') ∧ s1 = putO s o.dst undef ⟨H'.objs, H'.next, lowMin s.H.low H'.low⟩ ∧
    (atNext s).H.write a.block a.off (cellsL (ev s y)) = some H'
theorem ev_atNext (s : St) (x : Operand) : ev (atNext s) x = ev s x := by cases x <;> rfl
theorem storeK_of {o : Oper} {s s1 : St} {c : Cl} (h : StepK P cf ops o s s1 c) (hc : c.k = 3) : StoreK P cf ops o s s1 c := by
  cases h with
  | skip hw => cases hc
  | pur v hw hr => cases hc
  | mem v H' hw hr =>
    rcases cls_of (P := P) (o := o.op) (s := s) (H' := H') with ⟨p, a, hs, ha, e⟩ | e | ⟨hlow, ⟨_, e⟩ | e | ⟨p, a, l, hs, ha, hl, e⟩⟩
    · obtain ⟨t, hop⟩ := storeOf_eq hs
      rw [hop] at hr
      have h := rm_mem (o := astore P t (ev (atNext s) p.1) (ev (atNext s) p.2) (atNext s).H) hr
      rw [ev_atNext, ev_atNext] at h
      have h0 := h
      (replace h := obind_eq h; obtain ⟨a', ha', h⟩ := h)
      (replace h := obind_eq h; obtain ⟨s', hs', h⟩ := h)
      (replace h := gd_eq h; obtain ⟨hg, h⟩ := h)
      (replace h := obind_eq h; obtain ⟨H1, hH1, h⟩ := h)
      cases h
      rw [ha] at ha'; cases ha'
      exact ⟨t, p.1, p.2, a, _, hop, hw, ha, e, h0, rfl, hH1⟩
    all_goals (rw [e] at hc; cases hc)

theorem Rg.store_turns (g : Rg P cf ops n nt S C) {κ : Option Nat} {j r : Nat} (hj : j < ops.size) (hc : (C j).k = 3) (hne : at' S κ r j ≠ at' S κ r (j + 1)) :
    r = (C j).r ∧ ∃ i, κ = some i ∧ (C j).off ≤ i ∧ i < (C j).off + (C j).n := by
  have hs := storeK_of (g.step j _ (Array.getElem?_eq_getElem hj)) hc
  obtain ⟨t, x, y, a, H', hop, hw, ha, e, hst, hs1, hwr⟩ := hs.ex
  obtain ⟨_, h1, h2, h3, _, _⟩ := write_obj hwr
  have hob : ∀ k, (S (j + 1)).H.obj k = H'.obj k := by intro k; rw [hs1, putO_H]; rfl
  have hob0 : ∀ k, (atNext (S j)).H.obj k = (S j).H.obj k := fun _ => rfl
  rw [e]
  simp only [len_eq]
  by_cases hr : r = a.block
  · subst hr
    refine ⟨rfl, ?_⟩
    cases κ with
    | none => exact absurd (by show Ct.shape _ = Ct.shape _; rw [hob, h2, hob0]) hne
    | some i =>
      refine ⟨i, rfl, ?_⟩
      apply Classical.byContradiction
      intro hni
      exact hne (by show Ct.cell _ = Ct.cell _; rw [hob, h3 i hni, hob0])
  · exact absurd (by show cont κ _ = cont κ _; rw [hob, h1 r hr, hob0]) hne
theorem Rg.store_same (g : Rg P cf ops n nt S C) {j r : Nat} (hj : j < ops.size) (hc : (C j).k = 3) (hr : r ≠ (C j).r) : (S (j + 1)).H.obj r = (S j).H.obj r := by
  have hs := storeK_of (g.step j _ (Array.getElem?_eq_getElem hj)) hc
  obtain ⟨t, x, y, a, H', hop, hw, ha, e, hst, hs1, hwr⟩ := hs.ex
  rw [e] at hr
  rw [hs1, putO_H]
  exact (write_obj hwr).2.1 r hr

theorem noMeet_not {x y : Cl} (h : noMeet x y = true) {i : Nat} (hr : x.r = y.r) (h1 : x.off ≤ i) (h2 : i < x.off + x.n) (h3 : y.off ≤ i) (h4 : i < y.off + y.n) : False := by
  unfold noMeet at h
  rw [Bool.or_eq_true, Bool.or_eq_true] at h
  rcases h with (h | h) | h
  · rw [hr] at h
    rw [show Nat.beq y.r y.r = true from Nat.beq_refl _] at h
    cases h
  · have := Nat.le_of_ble_eq_true h
    have e : Nat.add x.off x.n = x.off + x.n := rfl
    omega
  · have := Nat.le_of_ble_eq_true h
    have e : Nat.add y.off y.n = y.off + y.n := rfl
    omega
theorem Rg.rd_same (g : Rg P cf ops n nt S C) {j : Nat} {l : Cl} (hj : j < ops.size) (hc : (C j).k = 2) (h : rdOk (C j) l = true) {i : Nat} (h1 : l.off ≤ i) (h2 : i < l.off + l.n) : at' S (some i) l.r j = at' S (some i) l.r (j + 1) := by
  have hs := g.step j _ (Array.getElem?_eq_getElem hj)
  generalize hcj : C j = c at hs hc h
  generalize hsj : S (j + 1) = s1 at hs
  show Ct.cell (cellA ((S j).H.obj l.r) i) = Ct.cell (cellA ((S (j + 1)).H.obj l.r) i)
  rw [hsj]
  cases hs with
  | skip hw => rw [putO_H]
  | pur v hw hr => rw [putO_H]
  | mem v H' hw hr =>
    rw [putO_H]
    rcases cls_of (P := P) (o := ops[j].op) (s := S j) (H' := H') with ⟨p, a, hs, ha, e⟩ | e | ⟨hlow, ⟨_, e⟩ | e | ⟨p, a, l, hs, ha, hl, e⟩⟩
    · rw [e] at hc; cases hc
    · rw [e] at h
      have := sameAt_cells (show sameAt (S j).H H' l.r l.off l.n = true from h) i h1 h2
      rw [this]
      rfl
    all_goals (rw [e] at hc; cases hc)

/-- a load that is about to run: just those ahead of it have turned what it reads. -/
theorem Rg.con4 (g : Rg P cf ops n nt S C) {D : Nat → Prop} (hD : Closed ops D) {i : Nat} (hi : i < ops.size) (hiD : ¬ D i) (hready : ∀ e, e ∈ ops[i].after.toList → Region.binds .any e = true → D e.on)
    (hc : (C i).k = 4) {k : Nat} (h1 : (C i).off ≤ k) (h2 : k < (C i).off + (C i).n) (hr : (C i).r < nx S i) : Con S ops.size D (some k) (C i).r i := by
  refine ⟨hr, fun j hj hrj hne => ?_⟩
  have hcj := g.turns hj hrj hne
  have hoi : ops[i]? = some ops[i] := Array.getElem?_eq_getElem hi
  have hoj : ops[j]? = some ops[j] := Array.getElem?_eq_getElem hj
  have hmeet : (C j).k = 3 → ∀ x y, noMeet x y = true → ((x = C j ∧ y = C i) ∨ (x = C i ∧ y = C j)) → False := by
    intro h3 x y hno hxy
    obtain ⟨e1, i', e2, e3, e4⟩ := g.store_turns hj h3 hne
    cases e2
    rcases hxy with ⟨rfl, rfl⟩ | ⟨rfl, rfl⟩
    · exact noMeet_not hno e1.symm e3 e4 h1 h2
    · exact noMeet_not hno e1 h1 h2 e3 e4
  rcases Nat.lt_trichotomy j i with h | h | h
  · refine ⟨fun _ => h, fun _ => ?_⟩
    have hd := g.dyn j i h hi
    rcases hcj with hcj | hcj
    · rcases cls2_4 hd hcj hc with hb | hb
      · exact mark_closed g.back hD i _ hoi hready j hb
      · exact absurd (g.rd_same hj hcj hb h1 h2) hne
    · rcases cls3_4 hd hcj hc with hb | hb
      · exact mark_closed g.back hD i _ hoi hready j hb
      · exact (hmeet hcj _ _ hb (.inl ⟨rfl, rfl⟩)).elim
  · subst h; exact ⟨fun h => absurd h hiD, fun h => absurd h (Nat.lt_irrefl _)⟩
  · refine ⟨fun hDj => ?_, fun h' => by omega⟩
    have hd := g.dyn i j h hj
    have hb : bitOf (markAt ops j) i = true := by
      rcases hcj with hcj | hcj
      · rcases cls4_2 hd hc hcj with hb | hb
        · exact hb
        · exact absurd (g.rd_same hj hcj hb h1 h2) hne
      · rcases cls4_3 hd hc hcj with hb | hb
        · exact hb
        · exact (hmeet hcj _ _ hb (.inr ⟨rfl, rfl⟩)).elim
    exact absurd (mark_closed g.back hD j _ hoj (hD j _ hoj hDj) i hb) hiD

/-- a load of cells that are known. -/
theorem load_known {m : Mp} {H H' : AHeap} {w : World} {t : TypeId} {x x' v : Value} {a : Addr} {ld : Option Nat} {l : Loc} {ob : Obj} (h : aload P t x H = some (v, H')) (hx : VR m x x') (ha : vPtr x = some a) (hl : tLd P t = some ld)
    (hm : m a.block = some l) (hob : w.heap[l.c]? = some ob) (hc : ∀ i u, a.off ≤ i → i < a.off + ld.getD 1 → cellA (H.obj a.block) i = some u → CellOk m l i u ob) :
    ∃ v', VR m v v' ∧ (Instr.loadAt t x').run P w = .ok v' w := by
  (replace h := obind_eq h; obtain ⟨a0, ha0, h⟩ := h)
  (replace h := obind_eq h; obtain ⟨l0, hl0, h⟩ := h)
  rw [ha] at ha0; cases ha0
  rw [hl] at hl0; cases hl0
  rw [vPtr_eq ha] at hx
  obtain ⟨l1, hm1, hlo, hsp, rfl⟩ := hx.of_ptr
  rw [hm] at hm1; cases hm1
  have hcell : ∀ i u, a.off ≤ i → i < a.off + ld.getD 1 → cellA (H.obj a.block) i = some u → ∃ u', VR m u u' ∧ w.cell? ⟨l.c, l.base + (i - l.lo), none⟩ = some u' := by
    intro i u h1 h2 h3
    obtain ⟨cs, ty, fr, u', e, h4, h5⟩ := hc i u h1 h2 h3
    subst e
    exact ⟨u', h5, by rw [cell_of hob]; exact h4⟩
  obtain ⟨d, i, hd, hi, hk⟩ := tLd_eq hl
  rcases hk with ⟨hag, rfl⟩ | ⟨hag, rfl⟩
  · replace h : (obind (H.read a.block a.off i.size) fun vs => some (Value.agg ⟨vs⟩, H)) = some (v, H') := h
    (replace h := obind_eq h; obtain ⟨vs, hvs, h⟩ := h)
    cases h
    have hrc := read_cells hvs
    have hvl : vs.length = i.size := by
      cases hz : i.size with
      | zero => rw [hz] at hvs; cases hvs; rfl
      | succ k =>
        rw [hz] at hvs
        have h := hvs
        replace h : (obind (oRow (H.obj a.block)) fun w => gd (Nat.ble (Nat.add a.off (k + 1)) w.n) (some (Tr.toL top w.cells a.off (k + 1)))) = some vs := h
        (replace h := obind_eq h; obtain ⟨R, hR, h⟩ := h)
        (replace h := gd_eq h; obtain ⟨hg, h⟩ := h)
        cases h
        exact toL_len _ _ _ _
    have key : ∀ (q : List Value) (b : Nat), vs.drop b = q → ∃ q', VRs m q q' ∧ ∀ j u, q'[j]? = some u → w.cell? ((⟨l.c, l.base + (a.off - l.lo), none⟩ : Addr).add (b + j)) = some u := by
      intro q
      induction q with
      | nil => intro b _; exact ⟨[], .nil, by simp⟩
      | cons u q ih =>
        intro b hb
        have hbu : vs[b]? = some u := by
          have := congrArg List.head? hb
          rwa [List.head?_drop] at this
        have hbl : b < vs.length := (List.getElem?_eq_some_iff.1 hbu).1
        obtain ⟨q', h1, h2⟩ := ih (b + 1) (by rw [← List.tail_drop, hb]; rfl)
        obtain ⟨u', h3, h4⟩ := hcell (a.off + b) u (by omega) (by show a.off + b < a.off + i.size; omega) (by rw [(hrc b (by omega)).1]; exact hbu)
        refine ⟨u' :: q', .cons _ _ _ _ h3 h1, ?_⟩
        intro j z hz
        cases j with
        | zero =>
          simp at hz; subst hz
          rw [Nat.add_zero, add_loc l a.off _ hlo]
          exact h4
        | succ j =>
          have := h2 j z (by simpa using hz)
          rw [show b + (j + 1) = b + 1 + j from by omega]
          exact this
    obtain ⟨vs', h1, h2⟩ := key vs 0 rfl
    have hrun := run_loadCells_list (P := P) w ⟨l.c, l.base + (a.off - l.lo), none⟩ vs' (fun j u hu => by have := h2 j u hu; rwa [Nat.zero_add] at this)
    rw [← h1.length, hvl] at hrun
    exact ⟨.agg ⟨vs'⟩, .agg _ _ h1, by simp [Instr.loadAt, Instr.sureAddr, loadVar, run_isAgg hd, hag, run_size hi, hrun]⟩
  · replace h : (obind (H.cell a.block a.off) fun v => some (v, H)) = some (v, H') := h
    (replace h := obind_eq h; obtain ⟨u, hu, h⟩ := h)
    cases h
    have h := hu
    (replace h := obind_eq h; obtain ⟨R, hR, h⟩ := h)
    (replace h := gd_eq h; obtain ⟨hg, h⟩ := h)
    cases h
    have hg : a.off + 1 ≤ R.n := Nat.le_of_ble_eq_true hg
    obtain ⟨v', h1, h2⟩ := hcell a.off (R.cells.get top a.off) (Nat.le_refl _) (by show a.off < a.off + 1; omega) (by rw [oRow_eq hR]; simp only [cellA]; rw [if_pos (by omega)])
    exact ⟨v', h1, by simp [Instr.loadAt, Instr.sureAddr, loadVar, run_isAgg hd, hag, h2]⟩

/-- who makes something of operands alone. -/
theorem fresh_eq {o : Op} {s : St} {v : Value} {H' : AHeap} (hf : isFresh o = true) (h : opR o P cf s = .mem v H') :
    ∃ ob, H' = s.H.new ob ∧ ∀ A : AHeap, A.next = s.H.next → opR o P cf ⟨s.nl, s.nt, s.reg, s.tm, s.df, A⟩ = .mem v (A.new ob) := by
  cases o <;> first | cases hf | skip
  case alloc e =>
    replace h := rm_mem (o := aalloc P e s.H) h
    (replace h := obind_eq h; obtain ⟨z, hz, h⟩ := h)
    cases h
    refine ⟨_, rfl, fun A hA => ?_⟩
    show rm (obind (tZeroL P e) fun z => some (okPtr A.next, A.new (rowOf e z))) = _
    rw [hz, hA]; rfl
  case box e x =>
    replace h := rm_mem (o := abox e (ev s x) s.H) h
    (replace h := gd_eq h; obtain ⟨hg, h⟩ := h)
    cases h
    refine ⟨_, rfl, fun A hA => ?_⟩
    have e1 : ev ⟨s.nl, s.nt, s.reg, s.tm, s.df, A⟩ x = ev s x := by cases x <;> rfl
    show rm (gd (notTop (ev ⟨s.nl, s.nt, s.reg, s.tm, s.df, A⟩ x)) (some (okPtr A.next, A.new (rowOf e (cellsL (ev ⟨s.nl, s.nt, s.reg, s.tm, s.df, A⟩ x)))))) = _
    rw [e1, hg, hA]; rfl
  case makeMap t r =>
    replace h := rm_mem (o := amakeMap P t (evo s r) s.H) h
    (replace h := obind_eq h; obtain ⟨q, hq, h⟩ := h)
    (replace h := gd_eq h; obtain ⟨hg, h⟩ := h)
    cases h
    refine ⟨_, rfl, fun A hA => ?_⟩
    have e1 : evo ⟨s.nl, s.nt, s.reg, s.tm, s.df, A⟩ r = evo s r := by
      cases r with
      | none => rfl
      | some x => cases x <;> rfl
    show rm (obind (tMap P t) fun _ => gd (@Option.rec Value (fun _ => Bool) true (fun v => !(oIsNone (vInt v))) (evo ⟨s.nl, s.nt, s.reg, s.tm, s.df, A⟩ r)) (some (Value.map (some A.next), A.new (.map [])))) = _
    rw [e1, hq, hA]
    show rm (gd (@Option.rec Value (fun _ => Bool) true (fun v => !(oIsNone (vInt v))) (evo s r)) _) = _
    rw [hg]; rfl
  case makeSlice t l c =>
    replace h := rm_mem (o := amakeSlice P t (ev s l) (ev s c) s.H) h
    (replace h := obind_eq h; obtain ⟨q, hq, h⟩ := h)
    (replace h := obind_eq h; obtain ⟨i, hi, h⟩ := h)
    (replace h := obind_eq h; obtain ⟨z, hz, h⟩ := h)
    (replace h := obind_eq h; obtain ⟨k, hk, h⟩ := h)
    (replace h := obind_eq h; obtain ⟨k2, hk2, h⟩ := h)
    (replace h := gd_eq h; obtain ⟨hg, h⟩ := h)
    cases h
    refine ⟨_, rfl, fun A hA => ?_⟩
    have e1 : ev ⟨s.nl, s.nt, s.reg, s.tm, s.df, A⟩ l = ev s l := by cases l <;> rfl
    have e2 : ev ⟨s.nl, s.nt, s.reg, s.tm, s.df, A⟩ c = ev s c := by cases c <;> rfl
    show rm (amakeSlice P t (ev ⟨s.nl, s.nt, s.reg, s.tm, s.df, A⟩ l) (ev ⟨s.nl, s.nt, s.reg, s.tm, s.df, A⟩ c) A) = _
    unfold amakeSlice
    rw [e1, e2, hq]
    show rm (obind (tI P q.1) _) = _
    rw [hi]
    show rm (obind (tZeroL P q.1) _) = _
    rw [hz]
    show rm (obind (vNat (ev s l)) _) = _
    rw [hk]
    show rm (obind (vNat (ev s c)) _) = _
    rw [hk2]
    show rm (gd _ _) = _
    rw [hg, hA]; rfl
  case buildSlice t k ps =>
    replace h := rm_mem (o := abuildSl P t k (evp s ps) s.H) h
    (replace h := obind_eq h; obtain ⟨q, hq, h⟩ := h)
    (replace h := obind_eq h; obtain ⟨z, hz, h⟩ := h)
    (replace h := gd_eq h; obtain ⟨hg, h⟩ := h)
    (replace h := obind_eq h; obtain ⟨cs, hcs, h⟩ := h)
    cases h
    refine ⟨_, rfl, fun A hA => ?_⟩
    have e1 : evp ⟨s.nl, s.nt, s.reg, s.tm, s.df, A⟩ ps = evp s ps := by
      obtain ⟨ps⟩ := ps
      show mp (fun p => (p.1, ev ⟨s.nl, s.nt, s.reg, s.tm, s.df, A⟩ p.2)) ps = mp (fun p => (p.1, ev s p.2)) ps
      congr 1
      funext p
      cases p.2 <;> rfl
    show rm (abuildSl P t k (evp ⟨s.nl, s.nt, s.reg, s.tm, s.df, A⟩ ps) A) = _
    unfold abuildSl
    rw [e1, hq]
    show rm (obind (tZeroL P q.1) _) = _
    rw [hz]
    show rm (gd _ _) = _
    rw [hg]
    show rm (obind (afill _ (evp s ps) _) _) = _
    rw [hcs, hA]; rfl
end rg
end Go.Ae

namespace Go.Ae

section rg
variable {P : Program} {cf : CallF} {ops : Array Oper} {n nt : Nat} {S : Nat → St} {C : Nat → Cl} {m0 : Mp} {w0 : World}

theorem ShapeOk.cells {m : Mp} {l : Loc} {o : AObj} {cs cs' : Array Value} {ty : TypeId} {fr : Nat × Nat} (h : ShapeOk m l o (.cells cs ty fr)) (hs : cs'.size = cs.size) : ShapeOk m l o (.cells cs' ty fr) := by
  cases o with
  | dead => trivial
  | row R =>
    obtain ⟨h1, h2, h3, h4, h5, h6⟩ := h
    exact ⟨h1, h2, by rw [hs]; exact h3, h4, h5, h6⟩
  | map es => exact h.elim
  | siter s p => exact h.elim

/-- a store that is about to run: the shapes are as the text has them. -/
theorem Rg.con3 (g : Rg P cf ops n nt S C) {D : Nat → Prop} (hD : Closed ops D) {i : Nat} (hi : i < ops.size) (hiD : ¬ D i) (hready : ∀ e, e ∈ ops[i].after.toList → Region.binds .any e = true → D e.on)
    (hc : (C i).k = 3) : (∀ j, j < ops.size → (C j).k = 2 → j < i ∧ D j) ∧ ∀ r, r < nx S i → Con S ops.size D none r i := by
  have hoi : ops[i]? = some ops[i] := Array.getElem?_eq_getElem hi
  have h2 : ∀ j, j < ops.size → (C j).k = 2 → j < i ∧ D j := by
    intro j hj hcj
    rcases Nat.lt_trichotomy j i with h | h | h
    · exact ⟨h, mark_closed g.back hD i _ hoi hready j (cls12_3 (g.dyn j i h hi) (.inr hcj) hc)⟩
    · subst h; rw [hc] at hcj; cases hcj
    · exact (cls3_12 (g.dyn i j h hj) hc (.inr hcj)).elim
  refine ⟨h2, fun r hr => ⟨hr, fun j hj hrj hne => ?_⟩⟩
  rcases g.turns hj hrj hne with hcj | hcj
  · have := h2 j hj hcj
    exact ⟨fun _ => this.1, fun _ => this.2⟩
  · obtain ⟨_, k, hk, _⟩ := g.store_turns hj hcj hne
    cases hk

/-- the first place where something turns. -/
theorem first_turn (p : Nat → Bool) : ∀ d k, p k = true → p (k + d) = false → ∃ j, k ≤ j ∧ j < k + d ∧ p j = true ∧ p (j + 1) = false := by
  intro d
  induction d with
  | zero => intro k h1 h2; rw [Nat.add_zero, h1] at h2; cases h2
  | succ d ih =>
    intro k h1 h2
    cases hp : p (k + 1) with
    | false => exact ⟨k, Nat.le_refl _, by omega, h1, hp⟩
    | true =>
      obtain ⟨j, a1, a2, a3⟩ := ih (k + 1) hp (by rw [show k + 1 + d = k + (d + 1) from by omega]; exact h2)
      exact ⟨j, by omega, by omega, a3⟩

theorem MInv.stored (g : Rg P cf ops n nt S C) {D : Nat → Prop} (hD : Closed ops D) {m : Mp} {w : World} (I : MInv S C ops.size m0 w0 D m w) {i : Nat} (hi : i < ops.size) (hiD : ¬ D i)
    (hready : ∀ e, e ∈ ops[i].after.toList → Region.binds .any e = true → D e.on) (hc : (C i).k = 3) {t : TypeId} {x y : Operand} {x' y' : Value} {a : Addr} {H' : AHeap}
    (ha : vPtr (ev (S i) x) = some a) (hcl : C i = ⟨3, a.block, a.off, len (cellsL (ev (S i) y)), hh0, hh0⟩) (hst : astore P t (ev (S i) x) (ev (S i) y) (atNext (S i)).H = some (undef, H'))
    (hs1 : (S (i + 1)).H = ⟨H'.objs, H'.next, lowMin (S i).H.low H'.low⟩) (hwr : (atNext (S i)).H.write a.block a.off (cellsL (ev (S i) y)) = some H')
    (hx : VR (m.upto (nx S i)) (ev (S i) x) x') (hy : VR (m.upto (nx S i)) (ev (S i) y) y') :
    ∃ w', (Instr.storeAt t x' y').run P w = .ok () w' ∧ MInv S C ops.size m0 w0 (With D i) m w' := by
  have hmono := g.mono
  have h0 := hst
  have h := hst
  (replace h := obind_eq h; obtain ⟨a1, ha1, h⟩ := h)
  (replace h := obind_eq h; obtain ⟨sz, hsz, h⟩ := h)
  (replace h := gd_eq h; obtain ⟨hgl, h⟩ := h)
  (replace h := obind_eq h; obtain ⟨H1, hH1, h⟩ := h)
  cases h
  rw [ha] at ha1; cases ha1
  obtain ⟨inf, hinf, rfl⟩ := tSize_eq hsz
  have hlen := Nat.eq_of_beq_eq_true hgl
  rw [len_eq] at hlen
  rw [vPtr_eq ha] at hx
  obtain ⟨l, hml, hlo, hsp, rfl⟩ := hx.of_ptr
  have hu := Mp.upto_some hml
  have hnt : ev (S i) y ≠ top := by
    intro e
    rw [e] at hwr
    replace hwr : (obind (oRow ((atNext (S i)).H.obj a.block)) fun w =>
      gd (!w.sealed' && Nat.ble (Nat.add a.off (len [top])) w.n && Nat.ble w.fz a.off && all' okCell [top])
      (some ((atNext (S i)).H.put a.block (.row ⟨w.ty, Tr.ofL top [top] a.off w.cells, w.n, false, w.fz⟩)))) = some H' := hwr
    have h := hwr
    (replace h := obind_eq h; obtain ⟨R, hR, h⟩ := h)
    (replace h := gd_eq h; obtain ⟨hg, h⟩ := h)
    simp [all_eq, okCell, top] at hg
  have hcv := cellsL_VRs hy hnt
  have hrun0 : ∀ w', (storeCells ⟨l.c, l.base + (a.off - l.lo), none⟩ (cellsL y')).run P w = .ok () w' → (Instr.storeAt t (.pointer (some ⟨l.c, l.base + (a.off - l.lo), none⟩)) y').run P w = .ok () w' := by
    intro w' hw'
    have hsz : y'.cells.size = inf.size := by rw [cells_eq]; show (cellsL y').length = _; rw [← hcv.length, hlen]
    have hcl : y'.cells.toList = cellsL y' := (cellsL_eq y').symm
    simp only [Instr.storeAt, Instr.sureAddr, storeVar, Sem.run_bind, Sem.run_pure, Result.andThen_ok, run_size hinf, hsz, ne_eq, not_true_eq_false, if_false, hcl]
    exact hw'
  have hwo := write_obj hwr
  have hob : ∀ k, (S (i + 1)).H.obj k = H'.obj k := by intro k; rw [hs1]; rfl
  by_cases hnil : cellsL (ev (S i) y) = []
  · rw [hnil] at hwr
    have hHH : (atNext (S i)).H = H' := by
      have : some (atNext (S i)).H = some H' := hwr
      injection this
    have hn' : cellsL y' = [] := by
      have := hcv.length
      rw [hnil] at this
      exact List.eq_nil_of_length_eq_zero this.symm
    refine ⟨w, hrun0 w (by rw [hn']; simp [storeCells]), I.still hi fun r hr => ?_⟩
    rw [hob, ← hHH]; rfl
  · -- the row there, as it is
    obtain ⟨h2all, hconsh⟩ := g.con3 hD hi hiD hready hc
    obtain ⟨ob, hob1⟩ := I.exi _ _ hu.2
    have hsh := I.cnt none _ _ i ob (by omega) hu.2 (hconsh _ hu.1) hob1
    have hrow : ∃ R, (S i).H.obj a.block = .row R ∧ R.sealed' = false ∧ a.off + (cellsL (ev (S i) y)).length ≤ R.n ∧ R.fz ≤ a.off ∧ (cellsL (ev (S i) y)).all okCell = true := by
      cases hvs : cellsL (ev (S i) y) with
      | nil => exact absurd hvs hnil
      | cons u us =>
        rw [hvs] at hwr
        replace hwr : (obind (oRow ((atNext (S i)).H.obj a.block)) fun w =>
          gd (!w.sealed' && Nat.ble (Nat.add a.off (len (u :: us))) w.n && Nat.ble w.fz a.off && all' okCell (u :: us))
          (some ((atNext (S i)).H.put a.block (.row ⟨w.ty, Tr.ofL top (u :: us) a.off w.cells, w.n, false, w.fz⟩)))) = some H' := hwr
        have h := hwr
        (replace h := obind_eq h; obtain ⟨R, hR, h⟩ := h)
        (replace h := gd_eq h; obtain ⟨hg, h⟩ := h)
        simp only [Bool.and_eq_true, len_eq, all_eq] at hg
        exact ⟨R, oRow_eq hR, by simpa using hg.1.1.1, Nat.le_of_ble_eq_true hg.1.1.2, Nat.le_of_ble_eq_true hg.1.2, hg.2⟩
    obtain ⟨R, hR, hse, hbd, hfz, hoc⟩ := hrow
    have hshR : ShapeOk (m.upto (nx S i)) l (.row R) ob := by
      have : ShapeOk (m.upto (nx S i)) l (shp ((S i).H.obj a.block)) ob := hsh
      rw [hR] at this
      exact this.of_shp rfl
    cases ob with
    | cells cs ty fr =>
      obtain ⟨⟨e1, e2⟩, e3, e4, e5, e6, e7⟩ := hshR
      have hlen' : (cellsL y').length = (cellsL (ev (S i) y)).length := hcv.length.symm
      obtain ⟨w', cs', r1, r2, r3, r4, r5, r6, r7, r8, r9⟩ := run_storeCells (P := P) l.c (l.base + (a.off - l.lo)) ty fr (cellsL y') 0 cs w hob1 (oneCells_of hcv hoc) (by rw [hlen']; omega)
        (fun j b1 b2 b3 => by have := e7 hse; omega)
      refine ⟨w', hrun0 w' r1, ?_⟩
      have hCr : (C i).r = a.block := by rw [hcl]
      have hCo : (C i).off = a.off := by rw [hcl]
      have hCn : (C i).n = (cellsL (ev (S i) y)).length := by rw [hcl]; exact len_eq _
      -- who is no turner
      have hnot : ∀ κ r, (r ≠ a.block ∨ ∀ k, κ = some k → ¬ (a.off ≤ k ∧ k < a.off + (cellsL (ev (S i) y)).length)) → at' S κ r i = at' S κ r (i + 1) := by
        intro κ r hor
        apply Classical.byContradiction
        intro hne
        obtain ⟨f1, k, f2, f3, f4⟩ := g.store_turns hi hc hne
        rw [hCr] at f1; rw [hCo] at f3; rw [hCo, hCn] at f4
        rcases hor with h | h
        · exact h f1
        · exact h k f2 ⟨f3, f4⟩
      have halive : (S i).H.obj a.block ≠ .dead := by rw [hR]; simp
      -- another one in the same place is dead, whenever it is looked at
      have hother : ∀ r l1 k κ, r ≠ a.block → m r = some l1 → l1.c = l.c → k ≤ ops.size → Con S ops.size D κ r k → ∀ o, Rel κ (m.upto (nx S k)) l1 (at' S κ r k) o := by
        intro r l1 k κ hne hm1 hcc hk hcon o
        have hdead : ∀ k', k' ≤ ops.size → Con S ops.size D none r k' → (S k').H.obj r = .dead := by
          intro k' hk' hcon'
          apply Classical.byContradiction
          intro hnd
          exact hne (I.sep r a.block l1 l k' i hm1 hu.2 hcc hk' (by omega) hcon' (hconsh _ hu.1) hnd halive)
        cases κ with
        | none =>
          show Rel none _ _ (.shape (shp ((S k).H.obj r))) o
          rw [hdead k hk hcon]
          trivial
        | some q =>
          show Rel (some q) _ _ (.cell (cellA ((S k).H.obj r) q)) o
          cases hca : cellA ((S k).H.obj r) q with
          | none => trivial
          | some z =>
            exfalso
            have hkeep3 : ∀ j, j < ops.size → r < nx S j → (C j).k ≠ 2 → (cellA ((S j).H.obj r) q).isSome = (cellA ((S (j + 1)).H.obj r) q).isSome := by
              intro j hj hrj h2
              apply shp_cell
              apply Classical.byContradiction
              intro hne'
              have hne2 : at' S none r j ≠ at' S none r (j + 1) := fun e => hne' (by injection e)
              rcases g.turns hj hrj hne2 with h3 | h3
              · exact h2 h3
              · obtain ⟨_, _, h4, _⟩ := g.store_turns hj h3 hne2
                cases h4
            by_cases hri : r < nx S i
            · have hd := hdead i (by omega) (hconsh r hri)
              have hz : cellA ((S i).H.obj r) q = none := by rw [hd]; rfl
              rcases Nat.lt_or_ge k i with hki | hki
              · obtain ⟨j, f1, f2, f3, f4⟩ := first_turn (fun k => (cellA ((S k).H.obj r) q).isSome) (i - k) k (by simp [hca]) (by
                  show (cellA ((S (k + (i - k))).H.obj r) q).isSome = false
                  rw [show k + (i - k) = i from by omega, hz]; rfl)
                have hrj : r < nx S j := Nat.lt_of_lt_of_le hcon.1 (hmono k j f1 (by omega))
                have hj2 : (C j).k = 2 := Classical.byContradiction fun e => by
                  have := hkeep3 j (by omega) hrj e
                  rw [f3, f4] at this; cases this
                have hne3 : at' S (some q) r j ≠ at' S (some q) r (j + 1) := by
                  intro e
                  have e : cellA ((S j).H.obj r) q = cellA ((S (j + 1)).H.obj r) q := by injection e
                  rw [e, f4] at f3; cases f3
                have := (hcon.2 j (by omega) hrj hne3).1 (h2all j (by omega) hj2).2
                omega
              · have : ∀ d, i + d ≤ ops.size → (cellA ((S (i + d)).H.obj r) q).isSome = false := by
                  intro d
                  induction d with
                  | zero => intro _; rw [Nat.add_zero, hz]; rfl
                  | succ d ih =>
                    intro hd'
                    have h9 := hkeep3 (i + d) (by omega) (Nat.lt_of_lt_of_le hri (hmono i (i + d) (by omega) (by omega))) (fun e => by
                      have := (h2all (i + d) (by omega) e).1; omega)
                    rw [show i + (d + 1) = i + d + 1 from rfl, ← h9]
                    exact ih (by omega)
                have := this (k - i) (by omega)
                rw [show i + (k - i) = k from by omega, hca] at this
                cases this
            · have hcn : Con S ops.size D none r k := by
                refine ⟨hcon.1, fun j hj hrj hne' => ?_⟩
                exfalso
                rcases g.turns hj hrj hne' with h3 | h3
                · have := (h2all j hj h3).1
                  have := hmono j i (by omega) (by omega)
                  omega
                · obtain ⟨_, _, h4, _⟩ := g.store_turns hj h3 hne'
                  cases h4
              rw [hdead k hk hcn] at hca
              cases hca
      refine ⟨?_, ?_, ?_, ?_, ?_, ?_, I.le, I.fresh, r7.trans I.os, r8.trans I.tape, r9.trans I.output, by rw [r6]; exact I.size, ?_⟩
      · exact fun r l h => (I.dom r l h).imp id fun ⟨j, h1, h2, h3⟩ => ⟨j, h1, .inl h2, h3⟩
      · intro r l1 h1
        obtain ⟨o, ho⟩ := I.exi r l1 h1
        have : l1.c < w'.heap.size := by rw [r6]; exact lt_of_get ho
        exact ⟨w'.heap[l1.c], Array.getElem?_eq_getElem this⟩
      · -- cnt
        intro κ r l1 k o hk hm1 hcon ho
        by_cases hr : r = a.block
        · subst hr
          rw [hu.2] at hm1
          have hll : l = l1 := by injection hm1
          subst hll
          rw [r2] at ho
          have ho : Obj.cells cs' ty fr = o := by injection ho
          subst ho
          by_cases hin : ∃ q, κ = some q ∧ a.off ≤ q ∧ q < a.off + (cellsL (ev (S i) y)).length
          · obtain ⟨q, rfl, q1, q2⟩ := hin
            -- behind it the text has what is written
            have hcon1 : Con S ops.size (With D i) (some q) a.block (i + 1) := by
              refine ⟨Nat.lt_of_lt_of_le hu.1 (g.next1 hi), fun j hj hrj hne => ?_⟩
              rcases g.turns hj hrj hne with h2 | h3
              · have := h2all j hj h2
                exact ⟨fun _ => by omega, fun _ => .inl this.2⟩
              · obtain ⟨f1, q', f2, f3, f4⟩ := g.store_turns hj h3 hne
                cases f2
                have hoi : ops[i]? = some ops[i] := Array.getElem?_eq_getElem hi
                have hoj : ops[j]? = some ops[j] := Array.getElem?_eq_getElem hj
                rcases Nat.lt_trichotomy j i with h | h | h
                · rcases cls3_3 (g.dyn j i h hi) h3 hc with hb | hb
                  · exact ⟨fun _ => by omega, fun _ => .inl (mark_closed g.back hD i _ hoi hready j hb)⟩
                  · exact (noMeet_not hb (by rw [← f1, hCr]) f3 f4 (by rw [hCo]; exact q1) (by rw [hCo, hCn]; exact q2)).elim
                · subst h
                  exact ⟨fun _ => by omega, fun _ => .inr rfl⟩
                · rcases cls3_3 (g.dyn i j h hj) hc h3 with hb | hb
                  · refine ⟨fun hw => ?_, fun h' => by omega⟩
                    rcases hw with hDj | e
                    · exact absurd (mark_closed g.back hD j _ hoj (hD j _ hoj hDj) i hb) hiD
                    · omega
                  · exact (noMeet_not hb (by rw [← f1, hCr]) (by rw [hCo]; exact q1) (by rw [hCo, hCn]; exact q2) f3 f4).elim
            have heq : at' S (some q) a.block (i + 1) = at' S (some q) a.block k := Con.eq hmono (by omega) hk hcon1 hcon
            have hcell : cellA ((S (i + 1)).H.obj a.block) q = (cellsL (ev (S i) y))[q - a.off]? := by rw [hob]; exact hwo.2.2.2.2.1 q q1 q2
            have hrel : Rel (some q) (m.upto (nx S i)) l (at' S (some q) a.block k) (.cells cs' ty fr) := by
              rw [← heq]
              show Rel (some q) _ l (.cell (cellA ((S (i + 1)).H.obj a.block) q)) _
              rw [hcell]
              cases hz : (cellsL (ev (S i) y))[q - a.off]? with
              | none => trivial
              | some z =>
                intro hlq
                obtain ⟨z', f1, f2⟩ := hcv.get _ hz
                refine ⟨cs', ty, fr, z', rfl, ?_, f2⟩
                rw [r4, if_pos (by rw [hlen']; omega), show l.base + (q - l.lo) - (l.base + (a.off - l.lo) + 0) = q - a.off from by omega]
                exact f1
            rcases Nat.lt_or_ge i k with hik | hik
            · exact hrel.mono (Mp.upto_mono (fun _ _ h => h) (hmono i k (by omega) hk))
            · have hni : at' S (some q) a.block i = at' S (some q) a.block (i + 1) := by
                apply Classical.byContradiction
                intro hne
                have := (hcon.2 i hi hu.1 hne).1 (.inr rfl)
                omega
              have hold := I.cnt (some q) _ _ k _ hk hu.2 (hcon.less fun _ => hni) hob1
              exact Rel.restrict (Mp.upto_mono (fun _ _ h => h) (hmono k i hik (by omega))) hrel hold
          · have hni : at' S κ a.block i = at' S κ a.block (i + 1) := hnot κ _ (.inr fun q e h => hin ⟨q, e, h.1, h.2⟩)
            have hold := I.cnt κ _ _ k _ hk hu.2 (hcon.less fun _ => hni) hob1
            cases κ with
            | none =>
              have hold : ShapeOk (m.upto (nx S k)) l (shp ((S k).H.obj a.block)) (.cells cs ty fr) := hold
              exact hold.cells r3
            | some q =>
              have hold : Rel (some q) (m.upto (nx S k)) l (.cell (cellA ((S k).H.obj a.block) q)) (.cells cs ty fr) := hold
              show Rel (some q) (m.upto (nx S k)) l (.cell (cellA ((S k).H.obj a.block) q)) (.cells cs' ty fr)
              cases hz : cellA ((S k).H.obj a.block) q with
              | none => trivial
              | some z =>
                rw [hz] at hold
                intro hlq
                obtain ⟨cs0, ty0, fr0, v, f1, f2, f3⟩ := hold hlq
                cases f1
                refine ⟨cs', ty, fr, v, rfl, ?_, f3⟩
                rw [r4, if_neg]
                · exact f2
                · rw [hlen']
                  intro hh
                  exact hin ⟨q, rfl, by omega, by omega⟩
        · have hni : at' S κ r i = at' S κ r (i + 1) := hnot κ r (.inl hr)
          have hcon0 := hcon.less fun _ => hni
          by_cases hcc : l1.c = l.c
          · exact hother r l1 k κ hr hm1 hcc hk hcon0 o
          · rw [r5 _ hcc] at ho
            exact I.cnt κ r l1 k o hk hm1 hcon0 ho
      · intro r r' l1 l1' k k' h1 h2 h3 h4 h5 h6 h7 h8 h9
        exact I.sep r r' l1 l1' k k' h1 h2 h3 h4 h5 (h6.less fun _ => hnot none r (.inr fun q e => by cases e)) (h7.less fun _ => hnot none r' (.inr fun q e => by cases e)) h8 h9
      · exact fun r r' l1 l1' j h1 h2 h3 h4 h5 h6 => I.clash r r' l1 l1' j h1 h2 h3 h4 (fun h => h5 (.inl h)) h6
      · intro j r hj hDj hr hmr
        rcases hDj with h | rfl
        · exact I.hid j r hj h hr hmr
        · refine g.store_same hi hc ?_
          rw [hCr]
          intro e
          rw [e, hu.2] at hmr
          cases hmr
      · intro c hcs hk
        rw [r5, I.keep c hcs hk]
        intro e
        have hlow : (S ops.size).H.low ≤ a.block := by
          have f1 := g.low (i + 1) ops.size (by omega) (Nat.le_refl _)
          rw [hs1] at f1
          have f2 : (S ops.size).H.low ≤ lowMin (S i).H.low H'.low := f1
          exact Nat.le_trans f2 (Nat.le_trans (lowMin_le _ _).2 (hwo.2.2.2.2.2 hnil))
        cases h0' : m0 a.block with
        | some l0 =>
          have := I.le _ _ h0'
          rw [hu.2] at this; cases this
          have := hk _ _ h0' e.symm
          omega
        | none =>
          obtain ⟨r0, l0, f1, f2, f3⟩ := I.fresh _ _ hu.2 h0' (by rw [← e]; exact hcs)
          have := hk r0 l0 f1 (by rw [f2, e])
          omega
    | map ces c => exact hshR.elim
    | _ => exact hshR.elim
end rg
end Go.Ae

namespace Go.Ae

theorem look_putO {s : St} {d : Option Nat} {v : Value} {H : AHeap} (hd : dstOk s.nt d = true) (t : Nat) : lookS (putO s d v H) t = if d = some t then v else lookS s t := by
  cases d with
  | none => rfl
  | some d =>
    have hd : d < s.nt := Nat.le_of_ble_eq_true hd
    show lookS (putS s d v H) t = _
    unfold putS
    cases hb : bitOf s.nl d with
    | true =>
      show lookS ⟨s.nl, s.nt, s.reg, bif' (Nat.ble (Nat.succ d) s.nt) (s.tm.set top d v) s.tm, s.df, H⟩ t = _
      rw [show Nat.ble (Nat.succ d) s.nt = true from Nat.ble_eq_true_of_le hd]
      show bif' (bitOf s.nl t) ((s.tm.set top d v).get top t) (look s.reg t) = _
      rw [Tr.get_set]
      by_cases e : d = t
      · subst e; rw [hb, if_pos rfl, if_pos rfl]; rfl
      · rw [if_neg (Ne.symm e), if_neg (by simpa using e)]; rfl
    | false =>
      show bif' (bitOf s.nl t) (s.tm.get top t) (bif' (Nat.beq d t) v (look s.reg t)) = _
      by_cases e : d = t
      · subst e; rw [hb, if_pos rfl, show Nat.beq d d = true from Nat.beq_refl d]; rfl
      · rw [if_neg (by simpa using e), show Nat.beq d t = false from by rw [← Bool.not_eq_true]; exact fun g => e (Nat.eq_of_beq_eq_true g)]; rfl

section rg
variable {P : Program} {cf : CallF} {ops : Array Oper} {n nt : Nat} {S : Nat → St} {C : Nat → Cl} {m0 : Mp} {w0 : World}

def SCon (ops : Array Oper) (D : Nat → Prop) (t k : Nat) : Prop := ∀ (j : Nat) (o : Oper), ops[j]? = some o → o.dst = some t → (D j ↔ j < k)

structure Inv (ops : Array Oper) (nt : Nat) (S : Nat → St) (C : Nat → Cl) (m0 : Mp) (w0 : World) (d0 : List Deferred) (D : Nat → Prop) (m : Mp) (a : Act) (w : World) : Prop where
  mem : MInv S C ops.size m0 w0 D m w
  size : a.tmps.size = nt
  slot : ∀ t k, k ≤ ops.size → SCon ops D t k → VR (m.upto (nx S k)) (lookS (S k) t) (a.tmps.getD t undef)
  de : a.defers = d0

theorem Rg.look (g : Rg P cf ops n nt S C) {j : Nat} {o : Oper} (ho : ops[j]? = some o) (t : Nat) (h : o.dst ≠ some t) : lookS (S (j + 1)) t = lookS (S j) t := by
  have hs := g.step j o ho
  have hd : dstOk (S j).nt o.dst = true := by
    have := g.ok j o ho
    unfold operOk at this
    rw [Bool.and_eq_true] at this
    rw [g.nts j o ho]; exact this.2
  generalize S (j + 1) = s1 at hs
  generalize C j = c at hs
  cases hs with
  | skip hw => rw [look_putO hd, if_neg h]
  | pur v hw hr => rw [look_putO hd, if_neg h]
  | mem v H' hw hr => rw [look_putO hd, if_neg h]

theorem get_put {a : Act} {d : Option Nat} {v : Value} {nt : Nat} (hs : a.tmps.size = nt) (hd : dstOk nt d = true) (t : Nat) : (a.put d v).tmps.getD t undef = if d = some t then v else a.tmps.getD t undef := by
  cases d with
  | none => rfl
  | some d =>
    have hd : d < nt := Nat.le_of_ble_eq_true hd
    show (a.tmps.setIfInBounds d v).getD t undef = _
    by_cases e : d = t
    · subst e
      rw [if_pos rfl]
      simp [Array.getD, hs, hd]
    · rw [if_neg (by simpa using e)]
      simp only [Array.getD_eq_getD_getElem?]
      rw [Array.getElem?_setIfInBounds_ne e]
theorem put_size {a : Act} {d : Option Nat} {v : Value} : (a.put d v).tmps.size = a.tmps.size := by
  cases d with
  | none => rfl
  | some d => show (a.tmps.setIfInBounds d v).size = _; simp

theorem slot_step (g : Rg P cf ops n nt S C) {D : Nat → Prop} (hD : Closed ops D) {m m' : Mp} {a : Act} (hsz : a.tmps.size = nt) (hsl : ∀ t k, k ≤ ops.size → SCon ops D t k → VR (m.upto (nx S k)) (lookS (S k) t) (a.tmps.getD t undef))
    {i : Nat} (hi : i < ops.size) (hiD : ¬ D i) (hm : Mp.le m m') {v v' : Value} (hv : VR (m'.upto (nx S (i + 1))) v v') (hlook : ∀ t, ops[i].dst = some t → lookS (S (i + 1)) t = v) :
    ∀ t k, k ≤ ops.size → SCon ops (With D i) t k → VR (m'.upto (nx S k)) (lookS (S k) t) ((a.put ops[i].dst v').tmps.getD t undef) := by
  intro t k hk hcon
  have hoi : ops[i]? = some ops[i] := Array.getElem?_eq_getElem hi
  have hd : dstOk nt ops[i].dst = true := by
    have := g.ok i _ hoi
    unfold operOk at this
    rw [Bool.and_eq_true] at this
    exact this.2
  rw [get_put hsz hd]
  by_cases e : ops[i].dst = some t
  · rw [if_pos e]
    have hik : i < k := (hcon i _ hoi e).1 (.inr rfl)
    have hsame : ∀ d, i + 1 + d ≤ k → lookS (S (i + 1 + d)) t = v := by
      intro d
      induction d with
      | zero => intro _; exact hlook t e
      | succ d ih =>
        intro hd'
        have hj : i + 1 + d < ops.size := by omega
        have hoj : ops[i + 1 + d]? = some ops[i + 1 + d] := Array.getElem?_eq_getElem hj
        rw [show i + 1 + (d + 1) = i + 1 + d + 1 from rfl, g.look hoj t ?_, ih (by omega)]
        intro e2
        have hDj : D (i + 1 + d) := ((hcon _ _ hoj e2).2 (by omega)).resolve_right (by omega)
        rcases g.stat i (i + 1 + d) _ _ (by omega) hoi hoj with hb | hap
        · exact hiD (mark_closed g.back hD _ _ hoj (hD _ _ hoj hDj) i hb)
        · exact (Oper.apart_spec hap).2.1 t e e2
    have := hsame (k - (i + 1)) (by omega)
    rw [show i + 1 + (k - (i + 1)) = k from by omega] at this
    rw [this]
    exact hv.mono (Mp.upto_mono (fun _ _ h => h) (g.mono _ _ hik hk))
  · rw [if_neg e]
    refine (hsl t k hk ?_).mono (Mp.upto_mono hm (Nat.le_refl _))
    intro j o hj hdj
    have hji : j ≠ i := by
      intro e2; subst e2
      rw [hoi] at hj; cases hj
      exact e hdj
    rw [← hcon j o hj hdj]
    exact ⟨.inl, fun h => h.resolve_right hji⟩

/-- the slots that one looks at are as the text has them. -/
theorem slot_con (g : Rg P cf ops n nt S C) {D : Nat → Prop} (hD : Closed ops D) {i : Nat} (hi : i < ops.size) (hiD : ¬ D i)
    (hready : ∀ e, e ∈ ops[i].after.toList → Region.binds .any e = true → D e.on) {t : Nat} (ht : t ∈ ops[i].looksAt ops) : SCon ops D t i := by
  intro j o hj hdj
  have hoi : ops[i]? = some ops[i] := Array.getElem?_eq_getElem hi
  rcases Nat.lt_trichotomy j i with h | h | h
  · refine ⟨fun _ => h, fun _ => ?_⟩
    rcases g.stat j i _ _ h hj hoi with hb | hap
    · exact mark_closed g.back hD i _ hoi hready j hb
    · exact absurd ht ((Oper.apart_spec hap).1 t hdj)
  · subst h; exact ⟨fun h => absurd h hiD, fun h => absurd h (Nat.lt_irrefl _)⟩
  · refine ⟨fun hDj => ?_, fun h' => by omega⟩
    rcases g.stat i j _ _ h hoi hj with hb | hap
    · exact absurd (mark_closed g.back hD j _ hj (hD j _ hj hDj) i hb) hiD
    · exact absurd ht ((Oper.apart_spec hap).2.2 t hdj)

theorem yield_ok' {m : Mp} {s : St} {a : Act} {j : Nat} {y : Option Bool} (f : ∀ (o : Oper) t, ops[j]? = some o → o.dst = some t → VR m (lookS s t) (a.tmps.getD t undef)) (h : yieldA ops s j = some y) : yielded ops a.tmps j = y := by
  (replace h := obind_eq h; obtain ⟨o, ho, h⟩ := h)
  (replace h := obind_eq h; obtain ⟨t, ht, h⟩ := h)
  rw [nth_eq, Array.getElem?_toList] at ho
  have hs := f o t ho ht
  have hy : yielded ops a.tmps j = match a.tmps[t]? with | some (.bool b) => some b | _ => none := by
    unfold yielded
    rw [ho]
    show (match (o.dst).bind (a.tmps[·]?) with | some (.bool b) => some b | _ => none) = _
    rw [ht]
    rfl
  rw [hy]
  cases hb : vBool (lookS s t) with
  | some b =>
    rw [hb] at h
    replace h : some (some b) = some y := h
    cases h
    rw [vBool_eq hb] at hs
    have hs := hs.of_bool
    rw [Array.getD_eq_getD_getElem?] at hs
    cases hq : a.tmps[t]? with
    | none => rw [hq] at hs; cases hs
    | some x => rw [hq] at hs; replace hs : x = .bool b := hs; rw [hs]
  | none =>
    rw [hb] at h
    replace h : (gd (isU (lookS s t)) (some (none : Option Bool))) = some y := h
    (replace h := gd_eq h; obtain ⟨hg, h⟩ := h)
    cases h
    rw [isU_eq hg] at hs
    obtain ⟨l', hl, hv⟩ := VR.of_tup (x := []) hs
    cases hv
    rw [Array.getD_eq_getD_getElem?] at hl
    cases hq : a.tmps[t]? with
    | none => rfl
    | some x => rw [hq] at hl; replace hl : x = .tuple ⟨[]⟩ := hl; rw [hl]
theorem want_ok' {m : Mp} {s : St} {a : Act} {o : Oper} {b : Bool} (f : ∀ t, t ∈ o.looksAt ops → VR m (lookS s t) (a.tmps.getD t undef)) (h : wantA ops s o.guard = some b) : Region.wanted o (yielded ops a.tmps) = b := by
  unfold Region.wanted
  cases hg : o.guard with
  | none => rw [hg] at h; cases h; rfl
  | some p =>
    rw [hg] at h
    replace h : (obind (yieldA ops s p.1) fun y => some (@Option.rec Bool (fun _ => Bool) false (fun b => bEq b p.2) y)) = some b := h
    (replace h := obind_eq h; obtain ⟨y, hy, h⟩ := h)
    cases h
    obtain ⟨j, want⟩ := p
    simp only
    rw [yield_ok' (m := m) (s := s) (fun o' t ho' ht => f t (by
      unfold Oper.looksAt
      rw [hg]
      refine List.mem_append_right _ ?_
      simp only [ho', Option.bind_some, ht]
      simp)) hy]
    cases y with
    | none => rfl
    | some c => cases c <;> cases want <;> rfl

theorem ev_ok' {m : Mp} {s : St} {a : Act} {o : Oper} (gl : Gl n m) (hok : all' (opndOk n) o.op.operands.toList = true) (f : ∀ t, t ∈ o.looksAt ops → VR m (lookS s t) (a.tmps.getD t undef)) : EvR m s a.eval o.op.operands.toList := by
  refine ⟨fun x hx => ?_⟩
  rw [all_eq] at hok
  have hx' := List.all_eq_true.1 hok x hx
  cases x with
  | tmp t =>
    refine f t ?_
    unfold Oper.looksAt
    refine List.mem_append_left _ ?_
    rw [List.mem_filterMap]
    exact ⟨_, hx, rfl⟩
  | const v => exact .sc v hx'
  | global k =>
    obtain ⟨l, h1, h2, h3, h4⟩ := gl k (Nat.le_of_ble_eq_true hx')
    have := VR.ptr (m := m) k 0 l h1 (by omega)
    rw [h2, h3, h4] at this
    exact this
  | func f => exact .func (.func f) [] [] [] [] .nil .nil

theorem evR_heap {m : Mp} {s : St} {ρ : Operand → Value} {L : List Operand} (e : EvR m s ρ L) (A : AHeap) : EvR m ⟨s.nl, s.nt, s.reg, s.tm, s.df, A⟩ ρ L := ⟨fun x hx => by have := e.all x hx; cases x <;> exact this⟩

/-- one step in an order that is drawn. -/
theorem Inv.step (g : Rg P cf ops n nt S C) (hcf : CfOk P n cf) (gl0 : Gl n m0) (dom0 : ∀ r l, m0 r = some l → r < nx S 0) {d0 : List Deferred} {D : Nat → Prop} (hD : Closed ops D) {m : Mp} {a : Act} {w : World}
    (I : Inv ops nt S C m0 w0 d0 D m a w) {i : Nat} (hi : i < ops.size) (hiD : ¬ D i) (hready : ∀ e, e ∈ ops[i].after.toList → Region.binds .any e = true → D e.on)
    {K : Act → World → Prop} {Q : Exit → Act → World → Prop} (HK : ∀ m' a' w', Inv ops nt S C m0 w0 d0 (With D i) m' a' w' → K a' w') : wpOp P ops Q i K a w := by
  have hoi : ops[i]? = some ops[i] := Array.getElem?_eq_getElem hi
  have hst := g.step i _ hoi
  have hok := g.ok i _ hoi
  unfold operOk at hok
  rw [Bool.and_eq_true] at hok
  have hdst : dstOk (S i).nt ops[i].dst = true := by rw [g.nts i _ hoi]; exact hok.2
  have hsl : ∀ t, t ∈ ops[i].looksAt ops → VR (m.upto (nx S i)) (lookS (S i) t) (a.tmps.getD t undef) := fun t ht => I.slot t i (by omega) (slot_con g hD hi hiD hready ht)
  have gli : Gl n (m.upto (nx S i)) := by
    intro k hk
    obtain ⟨l, h1, h2⟩ := gl0 k hk
    exact ⟨l, Mp.upto_of (I.mem.le _ _ h1) (Nat.lt_of_lt_of_le (dom0 _ _ h1) (g.mono 0 i (by omega) (by omega))), h2⟩
  have e := ev_ok' gli hok.1 hsl
  -- the rest, once what is told of memory is known
  have fin : ∀ (v v' : Value) (m' : Mp) (w' : World), MInv S C ops.size m0 w0 (With D i) m' w' → Mp.le m m' → VR (m'.upto (nx S (i + 1))) v v' → (∀ t, ops[i].dst = some t → lookS (S (i + 1)) t = v) → K (a.put ops[i].dst v') w' := by
    intro v v' m' w' hM hle hv hl
    exact HK m' _ w' ⟨hM, by rw [put_size]; exact I.size, slot_step g hD I.size I.slot hi hiD hle hv hl, by rw [put_defers]; exact I.de⟩
  have hup1 : Mp.le (m.upto (nx S i)) (m.upto (nx S (i + 1))) := Mp.upto_mono (fun _ _ h => h) (g.next1 hi)
  unfold wpOp
  rw [hoi]
  generalize hs1 : S (i + 1) = s1 at hst
  generalize hci : C i = c at hst
  cases hst with
  | skip hw =>
    simp only [want_ok' hsl hw, Bool.false_eq_true, if_false]
    refine fin undef undef m w (I.mem.still hi fun r _ => by rw [hs1, putO_H]) (fun _ _ h => h) (.tuple [] [] .nil) ?_
    intro t ht
    rw [hs1, look_putO hdst, if_pos ht]
  | pur v hw hr =>
    simp only [want_ok' hsl hw, if_true]
    left
    obtain ⟨v', h1, h2⟩ := opR_pur hr e.atNext (fun _ => rfl)
    unfold Oper.wp
    rw [h2 w]
    refine fin v v' m w (I.mem.still hi fun r _ => by rw [hs1, putO_H]) (fun _ _ h => h) (h1.mono hup1) ?_
    intro t ht
    rw [hs1, look_putO hdst, if_pos ht]
  | mem v H' hw hr =>
    simp only [want_ok' hsl hw, if_true]
    left
    have hlook : ∀ t, ops[i].dst = some t → lookS (S (i + 1)) t = v := by
      intro t ht
      rw [hs1, look_putO hdst, if_pos ht]
    have hobj : ∀ r, (S (i + 1)).H.obj r = H'.obj r := by intro r; rw [hs1, putO_H]; rfl
    have hnx : nx S (i + 1) = H'.next := by show (S (i + 1)).H.next = _; rw [hs1, putO_H]
    have hlowN : (S ops.size).H.low ≤ H'.low := by
      have h1 := g.low (i + 1) ops.size (by omega) (Nat.le_refl _)
      rw [hs1, putO_H] at h1
      have h1 : (S ops.size).H.low ≤ lowMin (S i).H.low H'.low := h1
      exact Nat.le_trans h1 (lowMin_le _ _).2
    -- one that may look at anything
    have general : ((C i).k = 2 ∨ ((C i).k = 1 ∧ nx S i ≤ H'.low)) → ops[i].wp P a w K Q := by
      intro hk
      have hk12 : (C i).k = 1 ∨ (C i).k = 2 := by
        rcases hk with h | h
        · exact .inr h
        · exact .inl h.1
      have rh : RH (m.upto (nx S i)) (atNext (S i)).H w := by
        refine ⟨fun r l h => (Mp.upto_some h).1, ?_, ?_⟩
        · intro r l h
          have hu := Mp.upto_some h
          obtain ⟨o, ho⟩ := I.mem.exi r l hu.2
          exact ⟨o, ho, Rel.to_obj fun κ => I.mem.cnt κ r l i o (by omega) hu.2 (g.con12 hD hi hiD hready hk12 hu.1) ho⟩
        · intro r r' l l' h h' hd hd' hc
          have hu := Mp.upto_some h
          have hu' := Mp.upto_some h'
          exact I.mem.sep r r' l l' i i hu.2 hu'.2 hc (by omega) (by omega) (g.con12 hD hi hiD hready hk12 hu.1) (g.con12 hD hi hiD hready hk12 hu'.1) hd hd'
      refine opMem_ok hcf (s := atNext (S i)) rh gli hr e.atNext ?_
      intro m2 v' w' h1 h2 h3
      obtain ⟨m', f1, f2, f3⟩ := I.mem.made g hD hi hiD hready (A := (atNext (S i)).H) (A' := H') rfl hnx.symm h2 h3 (.inr hlowN) (fun r _ _ => (hobj r).symm)
        (by rcases hk12 with h | h <;> omega) (by
          rcases hk with h | h
          · exact .inl ⟨h, fun r => (hobj r).symm, fun r => rfl⟩
          · exact .inr ⟨by omega, h.2⟩)
      exact fin v v' m' w' f1 f2 (h1.mono f3) hlook
    rcases cls_of (P := P) (o := ops[i].op) (s := S i) (H' := H') with ⟨p, ad, hs, ha, ec⟩ | ec | ⟨hlow, ⟨hf, ec⟩ | ec | ⟨p, ad, l, hs, ha, hl, ec⟩⟩
    · -- a store
      have hc3 : (C i).k = 3 := by rw [hci, ec]
      have hsk := storeK_of (g.step i _ hoi) hc3
      obtain ⟨t, x, y, a1, H1, hop, hw1, ha1, hcl, hast, hs1', hwr⟩ := hsk.ex
      have hv : v = undef ∧ H' = H1 := by
        rw [hop] at hr
        have h := rm_mem (o := astore P t (ev (atNext (S i)) x) (ev (atNext (S i)) y) (atNext (S i)).H) hr
        rw [ev_atNext, ev_atNext, hast] at h
        cases h
        exact ⟨rfl, rfl⟩
      obtain ⟨w', r1, r2⟩ := I.mem.stored g hD hi hiD hready hc3 ha1 hcl hast (by rw [hs1', putO_H]) hwr (e.all x (by rw [hop]; simp [Op.operands])) (e.all y (by rw [hop]; simp [Op.operands]))
      have hrun : (execOp a.eval ops[i]).run P w = .ok .skip w' := by
        simp only [execOp, hop, Sem.run_bind, r1, Result.andThen_ok, Sem.run_pure]
      unfold Oper.wp
      rw [hrun]
      exact fin v undef m w' r2 (fun _ _ h => h) (by rw [hv.1]; exact .tuple [] [] .nil) hlook
    · exact general (.inl (by rw [hci, ec]))
    · -- a new object, of operands alone
      obtain ⟨ob, e1, e2⟩ := fresh_eq (cf := cf) (s := atNext (S i)) hf hr
      have hA := e2 ⟨.nil, nx S i, nx S i⟩ rfl
      have rh : RH (m.upto (nx S i)) ⟨.nil, nx S i, nx S i⟩ w := by
        refine ⟨fun r l h => (Mp.upto_some h).1, ?_, ?_⟩
        · intro r l h
          obtain ⟨o, ho⟩ := I.mem.exi r l (Mp.upto_some h).2
          refine ⟨o, ho, ?_⟩
          show ObjOk _ _ ((Tr.nil : Tr AObj).get .dead r) _
          rw [Tr.get_nil]
          trivial
        · intro r r' l l' _ _ hd _ _
          exact absurd (Tr.get_nil _ _) hd
      refine opMem_ok hcf (s := ⟨(S i).nl, (S i).nt, (S i).reg, (S i).tm, (S i).df, ⟨.nil, nx S i, nx S i⟩⟩) rh gli hA (evR_heap e _) ?_
      intro m2 v' w' h1 h2 h3
      have hc5 : (C i).k = 5 := by rw [hci, ec]; rfl
      obtain ⟨m', f1, f2, f3⟩ := I.mem.made g hD hi hiD hready (A := ⟨.nil, nx S i, nx S i⟩) (A' := (AHeap.mk .nil (nx S i) (nx S i)).new ob) rfl (by rw [hnx, e1]; rfl) h2 h3 (.inl (Nat.le_refl _)) (by
          intro r a1 a2
          rw [hobj, e1, obj_new, obj_new]
          have : r = nx S i := by
            rw [hnx, e1] at a2
            have : r < nx S i + 1 := a2
            omega
          rw [if_pos this]
          exact (if_pos this).symm) (by omega) (.inr ⟨by omega, Nat.le_refl _⟩)
      exact fin v v' m' w' f1 f2 (h1.mono f3) hlook
    · exact general (.inr ⟨by rw [hci, ec]; rfl, hlow⟩)
    · -- a load
      have hc4 : (C i).k = 4 := by rw [hci, ec]
      have hop := loadOf_eq hs
      rw [hop] at hr
      have hld := rm_mem (o := aload P p.1 (ev (atNext (S i)) p.2) (atNext (S i)).H) hr
      rw [ev_atNext] at hld
      have hx := e.all p.2 (by rw [hop]; simp [Op.operands])
      have hx0 := hx
      rw [vPtr_eq ha] at hx0
      obtain ⟨l1, hm1, _, _, _⟩ := hx0.of_ptr
      have hu := Mp.upto_some hm1
      obtain ⟨ob, hob⟩ := I.mem.exi _ _ hu.2
      have hCr : (C i).r = ad.block := by rw [hci, ec]
      have hCo : (C i).off = ad.off := by rw [hci, ec]
      have hCn : (C i).n = l.getD 1 := by rw [hci, ec]
      obtain ⟨v', h1, h2⟩ := load_known (P := P) (w := w) (ob := ob) hld hx ha hl hm1 hob (by
        intro k u q1 q2 q3
        have hcon := g.con4 hD hi hiD hready hc4 (k := k) (by rw [hCo]; exact q1) (by rw [hCo, hCn]; exact q2) (by rw [hCr]; exact hu.1)
        rw [hCr] at hcon
        have hrel := I.mem.cnt (some k) _ _ i ob (by omega) hu.2 hcon hob
        have hrel : Rel (some k) (m.upto (nx S i)) l1 (.cell (cellA ((S i).H.obj ad.block) k)) ob := hrel
        replace q3 : cellA ((S i).H.obj ad.block) k = some u := q3
        rw [q3] at hrel
        by_cases hlk : l1.lo ≤ k
        · exact hrel hlk
        · exfalso
          have := hx
          rw [vPtr_eq ha] at this
          obtain ⟨l2, g1, g2, _⟩ := this.of_ptr
          rw [hm1] at g1; cases g1
          omega)
      have hrun : (execOp a.eval ops[i]).run P w = .ok (.value v') w := by
        simp only [execOp, hop, Sem.run_bind, h2, Result.andThen_ok, Sem.run_pure]
      unfold Oper.wp
      rw [hrun]
      refine fin v v' m w (I.mem.still hi fun r hr' => g.same hi (by omega) (by omega) hr') (fun _ _ h => h) (h1.mono hup1) hlook
end rg
end Go.Ae

namespace Go.Ae

section rg
variable {P : Program} {cf : CallF} {ops : Array Oper} {n nt : Nat} {S : Nat → St} {C : Nat → Cl}

/-- how many have not run. -/
def left (N : Nat) (listed : Array Bool) : Nat := ((List.range N).filter fun j => !(listed.getD j false)).length

theorem filter_le (p q : Nat → Bool) (h : ∀ x, p x = true → q x = true) : ∀ (l : List Nat), (l.filter p).length ≤ (l.filter q).length := by
  intro l
  induction l with
  | nil => exact Nat.le_refl _
  | cons y l ih =>
    simp only [List.filter_cons]
    cases hy : p y with
    | true => rw [h y hy]; simp only [if_true, List.length_cons]; omega
    | false =>
      simp only [Bool.false_eq_true, if_false]
      split
      · simp only [List.length_cons]; omega
      · exact ih
theorem filter_lt (p q : Nat → Bool) (h : ∀ x, p x = true → q x = true) : ∀ (l : List Nat) (y : Nat), y ∈ l → q y = true → p y = false → (l.filter p).length < (l.filter q).length := by
  intro l
  induction l with
  | nil => intro y hy; cases hy
  | cons z l ih =>
    intro y hy hq hp
    simp only [List.filter_cons]
    rcases List.mem_cons.1 hy with e | hy
    · rw [← e, hq, hp]
      have := filter_le p q h l
      simp only [if_true, Bool.false_eq_true, if_false, List.length_cons]
      omega
    · have := ih y hy hq hp
      cases hz : p z with
      | true => rw [h z hz]; simp only [if_true, List.length_cons]; omega
      | false =>
        simp only [Bool.false_eq_true, if_false]
        split
        · simp only [List.length_cons]; omega
        · exact this
theorem left_zero {N : Nat} {listed : Array Bool} (h : left N listed = 0) : ∀ j, j < N → listed.getD j false = true := by
  intro j hj
  have := List.eq_nil_of_length_eq_zero h
  have hm := List.filter_eq_nil_iff.1 this j (List.mem_range.2 hj)
  simpa using hm
theorem left_set {N : Nat} {listed : Array Bool} {i : Nat} (hs : listed.size = N) (hi : i < N) (hl : listed.getD i false = false) : left N (listed.setIfInBounds i true) < left N listed := by
  refine filter_lt _ _ ?_ _ i (List.mem_range.2 hi) (by rw [hl]; rfl) ?_
  · intro x hx
    cases h : listed.getD x false with
    | false => rfl
    | true => rw [getD_set_true h] at hx; exact hx
  · have : (listed.setIfInBounds i true).getD i false = true := by simp [hs, hi]
    rw [this]; rfl
theorem left_start (N : Nat) : left N (Array.replicate N false) ≤ N := by
  unfold left
  have := List.length_filter_le (fun j => !((Array.replicate N false).getD j false)) (List.range N)
  simpa using this

theorem any_ok (g : Rg P cf ops n nt S C) (hcf : CfOk P n cf) {m0 : Mp} {w0 : World} (gl0 : Gl n m0) (dom0 : ∀ r l, m0 r = some l → r < nx S 0) {d0 : List Deferred} {Q : Exit → Act → World → Prop}
    (HQ : ∀ D m a w, (∀ j, j < ops.size → D j) → Inv ops nt S C m0 w0 d0 D m a w → Q .normal a w) :
    ∀ (fuel : Nat) (listed : Array Bool) (m : Mp) (a : Act) (w : World), listed.size = ops.size → left ops.size listed ≤ fuel → Closed ops (fun j => listed.getD j false = true) →
      Inv ops nt S C m0 w0 d0 (fun j => listed.getD j false = true) m a w → wpAny P .any ops Q fuel listed a w := by
  -- where nothing is ready all have run
  have hall : ∀ (listed : Array Bool), listed.size = ops.size → Region.ready .any ops listed = [] → ∀ j, j < ops.size → listed.getD j false = true := by
    intro listed hsz hr j
    induction j using Nat.strongRecOn with
    | _ j ih =>
      intro hj
      cases hl : listed.getD j false with
      | true => rfl
      | false =>
        have hoj : ops[j]? = some ops[j] := Array.getElem?_eq_getElem hj
        have hmem : j ∈ Region.ready .any ops listed := by
          rw [mem_ready]
          refine ⟨by simp [hsz, hj] at hl ⊢; exact hl, ops[j], hoj, fun e he hb => ?_⟩
          have hlt := backEdges_spec ops.toList 0 j ops[j] g.back (by rw [Array.getElem?_toList]; exact hoj) e (by simpa using he) hb
          exact ih e.on (by omega) (by omega)
        rw [hr] at hmem
        cases hmem
  intro fuel
  induction fuel with
  | zero =>
    intro listed m a w hsz hle hD I
    have h1 := left_zero (Nat.le_zero.1 hle)
    refine ⟨?_, HQ _ m a w h1 I⟩
    cases hr : Region.ready .any ops listed with
    | nil => rfl
    | cons j l =>
      exfalso
      have hj : j ∈ Region.ready .any ops listed := by rw [hr]; exact List.mem_cons_self ..
      rw [mem_ready] at hj
      obtain ⟨h2, o, ho, _⟩ := hj
      have hjs : j < ops.size := (Array.getElem?_eq_some_iff.1 ho).1
      have := h1 j hjs
      simp [hsz, hjs] at h2 this
      rw [h2] at this; cases this
  | succ fuel ih =>
    intro listed m a w hsz hle hD I
    refine ⟨fun hr => HQ _ m a w (hall listed hsz hr) I, fun i hi => ?_⟩
    rw [mem_ready] at hi
    obtain ⟨h2, o, ho, h3⟩ := hi
    have his : i < ops.size := (Array.getElem?_eq_some_iff.1 ho).1
    have hoo : ops[i] = o := by
      have := Array.getElem?_eq_getElem his
      rw [ho] at this; injection this with this; exact this.symm
    subst hoo
    have hun : listed.getD i false = false := by simp [hsz, his] at h2 ⊢; exact h2
    have hset : ∀ j, ((listed.setIfInBounds i true).getD j false = true) ↔ With (fun j => listed.getD j false = true) i j := by
      intro j
      by_cases e : i = j
      · subst e
        exact ⟨fun _ => .inr rfl, fun _ => by simp [hsz, his]⟩
      · rw [getD_set_ne false e]
        exact ⟨.inl, fun h => h.resolve_right (Ne.symm e)⟩
    refine Inv.step g hcf gl0 dom0 hD I his (by rw [hun]; simp) (fun e he hb => h3 e (by simpa using he) hb) ?_
    intro m' a' w' I'
    have hfun : (fun j => (listed.setIfInBounds i true).getD j false = true) = With (fun j => listed.getD j false = true) i := by
      funext j
      exact propext (hset j)
    refine ih (listed.setIfInBounds i true) m' a' w' (by simpa using hsz) ?_ ?_ (by rw [hfun]; exact I')
    · have := left_set (N := ops.size) hsz his hun
      omega
    · intro j o hj hDj e he hb
      rcases (hset j).1 hDj with h | h
      · exact getD_set_true (hD j o hj h e he hb)
      · subst h
        rw [ho] at hj; cases hj
        exact getD_set_true (h3 e (by simpa using he) hb)
end rg

section mem
variable {P : Program}

theorem draw_ok (hmo : P.follows .mixedOrders = true) {cf : CallF} {n : Nat} (hcf : CfOk P n cf) (nt : Nat) : DrawOk P cf n nt := by
  intro id ops s m a w Q hall hnt rh f gl hpost
  replace hpost : Post m s.H w a.defers nt s.df Q (bif' (plainOps ops && statOk ops) (drawnO ops (runOpsD P cf ops ops.toList (clear s) [])) .fail) := hpost
  cases hpl : plainOps ops with
  | false => rw [hpl] at hpost; exact hpost.elim
  | true =>
  cases hst : statOk ops with
  | false => rw [hpl, hst] at hpost; exact hpost.elim
  | true =>
    rw [hpl, hst] at hpost
    replace hpost : Post m s.H w a.defers nt s.df Q (drawnO ops (runOpsD P cf ops ops.toList (clear s) [])) := hpost
    cases hr : runOpsD P cf ops ops.toList (clear s) [] with
    | none => rw [hr] at hpost; exact hpost.elim
    | some q =>
      obtain ⟨s1, cls⟩ := q
      rw [hr] at hpost
      replace hpost : Post m s.H w a.defers nt s.df Q (bif' (dynOk ops cls) (.norm s1) .fail) := hpost
      cases hdy : dynOk ops cls with
      | false => rw [hdy] at hpost; exact hpost.elim
      | true =>
        rw [hdy] at hpost
        replace hpost : To m s.H w a.defers nt s.df s1 (Q .normal) := hpost
        rw [all_eq, List.all_eq_true] at hall
        obtain ⟨S, C, e0, eN, e3, e4, _, e6⟩ := trace hcf (ops := ops) (nt := nt) ops.toList (clear s) s1 [] cls m a w hall hnt rh f.clear gl hr
        simp only [Array.length_toList] at eN e3 e4
        have hto : ∀ (j : Nat) (o : Oper), ops[j]? = some o → ops.toList[j]? = some o := fun j o h => by rw [Array.getElem?_toList]; exact h
        have hsp := stat_spec hst
        have hk5 : ∀ j, j < ops.size → (C j).k ≤ 5 := by
          intro j hj
          have hs := (e6 j _ (hto j _ (Array.getElem?_eq_getElem hj))).1
          generalize S (j + 1) = s2 at hs
          generalize C j = c at hs
          cases hs with
          | skip hw => exact Nat.zero_le _
          | pur v hw hr => exact Nat.zero_le _
          | mem v H' hw hr => exact clsAt_le
        have g : Rg P cf ops n nt S C := by
          refine ⟨fun j o h => (e6 j o (hto j o h)).1, fun j o h => (e6 j o (hto j o h)).2.1, fun j o h => (e6 j o (hto j o h)).2.2, ?_, hsp.1, hsp.2, ?_⟩
          · intro j o h
            exact hall o (List.mem_of_getElem? (hto j o h))
          · exact dyn_spec hdy (by simpa using e3) e4 hk5
        have hnx0 : nx S 0 = s.H.next := by show (S 0).H.next = _; rw [e0]; rfl
        have hobj0 : ∀ r, (S 0).H.obj r = s.H.obj r := by intro r; rw [e0]; rfl
        have dom0 : ∀ r l, m r = some l → r < nx S 0 := fun r l h => by rw [hnx0]; exact rh.dom r l h
        have hup : ∀ k, k ≤ ops.size → Mp.le m (m.upto (nx S k)) := fun k hk r l h => Mp.upto_of h (Nat.lt_of_lt_of_le (dom0 r l h) (g.mono 0 k (by omega) hk))
        have hdfs : ∀ j, j ≤ ops.size → (S j).df = s.df := by
          intro j
          induction j with
          | zero => intro _; rw [e0]; rfl
          | succ j ih =>
            intro hj
            have hs := g.step j _ (Array.getElem?_eq_getElem hj)
            rw [← ih (by omega)]
            generalize S (j + 1) = s2 at hs
            generalize C j = c at hs
            cases hs with
            | skip hw => rw [putO_df]
            | pur v hw hr => rw [putO_df]
            | mem v H' hw hr => rw [putO_df]
        have hntN : (S ops.size).nt = nt := by
          cases hz : ops.size with
          | zero => rw [e0]; exact hnt
          | succ k =>
            have hj : k < ops.size := by omega
            have hoj := Array.getElem?_eq_getElem hj
            have hs := g.step k _ hoj
            rw [← g.nts k _ hoj]
            generalize S (k + 1) = s2 at hs
            generalize C k = c at hs
            cases hs with
            | skip hw => rw [putO_nt]
            | pur v hw hr => rw [putO_nt]
            | mem v H' hw hr => rw [putO_nt]
        -- at the start nothing has run
        have hfalse : ∀ j, ((Array.replicate ops.size false).getD j false = true) ↔ False := by
          intro j
          simp only [Array.getD_eq_getD_getElem?, Array.getElem?_replicate, iff_false]
          split <;> simp
        have hcon0 : ∀ κ r k, k ≤ ops.size → Con S ops.size (fun j => (Array.replicate ops.size false).getD j false = true) κ r k → r < nx S 0 → at' S κ r 0 = at' S κ r k := by
          intro κ r k hk hcon hr
          refine Con.eq g.mono (by omega) hk ⟨hr, fun j _ _ _ => ?_⟩ hcon
          rw [hfalse]
          exact ⟨fun h => h.elim, fun h => by omega⟩
        have hI : Inv ops nt S C m w.drew a.defers (fun j => (Array.replicate ops.size false).getD j false = true) m a w.drew := by
          refine ⟨⟨?_, ?_, ?_, ?_, ?_, ?_, fun _ _ h => h, ?_, rfl, rfl, rfl, Nat.le_refl _, fun _ _ _ => rfl⟩, by rw [f.size]; exact hnt, ?_, rfl⟩
          · exact fun r l h => .inl ⟨h, dom0 r l h⟩
          · intro r l h
            obtain ⟨o, ho, _⟩ := rh.ok r l h
            exact ⟨o, ho⟩
          · intro κ r l k o hk hm hcon ho
            obtain ⟨o', ho', hok⟩ := rh.ok r l hm
            have : o' = o := by
              have h1 : w.heap[l.c]? = some o := ho
              rw [ho'] at h1; injection h1
            subst this
            rw [← hobj0] at hok
            have hrel : Rel κ m l (at' S κ r 0) o' := Rel.of_obj hok
            rw [hcon0 κ r k hk hcon (dom0 r l hm)] at hrel
            exact hrel.mono (hup k hk)
          · intro r r' l l' k k' h1 h2 h3 h4 h5 h6 h7 h8 h9
            refine rh.sep r r' l l' h1 h2 ?_ ?_ h3
            · rw [← hobj0]
              exact cont_alive (hcon0 none r k h4 h6 (dom0 r l h1)).symm h8
            · rw [← hobj0]
              exact cont_alive (hcon0 none r' k' h5 h7 (dom0 r' l' h2)).symm h9
          · intro r r' l l' j h1 h2 _ hj _ _
            have hm := g.mono 0 j (by omega) (by omega)
            exact ⟨fun _ => Nat.lt_of_lt_of_le (dom0 r' l' h2) hm, fun _ => Nat.lt_of_lt_of_le (dom0 r l h1) hm⟩
          · intro j r _ hDj
            exact ((hfalse j).1 hDj).elim
          · intro r l h h0; rw [h] at h0; cases h0
          · intro t k hk hcon
            have hsame : ∀ d, d ≤ k → lookS (S d) t = lookS (S 0) t := by
              intro d
              induction d with
              | zero => intro _; rfl
              | succ d ih =>
                intro hd
                have hj : d < ops.size := by omega
                have hoj : ops[d]? = some ops[d] := Array.getElem?_eq_getElem hj
                rw [g.look hoj t ?_, ih (by omega)]
                intro e
                exact (hfalse d).1 ((hcon d _ hoj e).2 (by omega))
            rw [hsame k (Nat.le_refl _), e0]
            exact (f.clear.slot t).mono (hup k hk)
        refine wp_region_any hmo ?_
        refine any_ok g hcf gl dom0 ?_ ops.size (Array.replicate ops.size false) m a w.drew (by simp) (left_start _) (fun j o _ h => ((hfalse j).1 h).elim) hI
        intro D m' a' w' hD I
        have hconN : ∀ κ r, r < nx S ops.size → Con S ops.size D κ r ops.size := fun κ r hr => ⟨hr, fun j hj _ _ => ⟨fun _ => hj, fun _ => hD j hj⟩⟩
        have hdomN : ∀ r l, m' r = some l → r < nx S ops.size := by
          intro r l h
          rcases I.mem.dom r l h with ⟨_, h1⟩ | ⟨j, hj, _, _, h1⟩
          · exact Nat.lt_of_lt_of_le h1 (g.mono 0 _ (by omega) (Nat.le_refl _))
          · exact Nat.lt_of_lt_of_le h1 (g.mono _ _ (by omega) (Nat.le_refl _))
        have hnone : ∀ r, r < nx S 0 → m r = none → m' r = none := by
          intro r hr h
          cases h1 : m' r with
          | none => rfl
          | some l =>
            rcases I.mem.dom r l h1 with ⟨h2, _⟩ | ⟨j, hj, _, h2, _⟩
            · rw [h] at h2; cases h2
            · have := g.mono 0 j (by omega) (by omega); omega
        refine hpost m' a' w' ⟨⟨?_, ?_, ?_⟩, ⟨?_, ?_, ?_⟩, ?_, ?_⟩
        · rw [← eN, hntN]; exact I.size
        · intro t
          rw [← eN]
          refine (I.slot t ops.size (Nat.le_refl _) ?_).mono (Mp.upto_le _ _)
          intro j o hj _
          have : j < ops.size := (Array.getElem?_eq_some_iff.1 hj).1
          exact ⟨fun _ => this, fun _ => hD j this⟩
        · rw [I.de, ← eN, hdfs _ (Nat.le_refl _)]
          exact f.df.mono I.mem.le
        · intro r l h; rw [← eN]; exact hdomN r l h
        · intro r l h
          obtain ⟨o, ho⟩ := I.mem.exi r l h
          rw [← eN]
          exact ⟨o, ho, (Rel.to_obj fun κ => I.mem.cnt κ r l ops.size o (Nat.le_refl _) h (hconN κ r (hdomN r l h)) ho).mono (Mp.upto_le _ _)⟩
        · intro r r' l l' h h' hd hd' hc
          rw [← eN] at hd hd'
          exact I.mem.sep r r' l l' _ _ h h' hc (Nat.le_refl _) (Nat.le_refl _) (hconN none r (hdomN r l h)) (hconN none r' (hdomN r' l' h')) hd hd'
        · have hex : Ex m m' s.H s1.H w.drew w' := by
            rw [← eN]
            refine ⟨I.mem.le, ?_, ?_, I.mem.os, I.mem.tape, I.mem.output, I.mem.size, I.mem.keep, ?_, ?_, ?_, ?_⟩
            · intro r l h h0
              rcases I.mem.dom r l h with ⟨h2, _⟩ | ⟨j, hj, _, h2, _⟩
              · rw [h0] at h2; cases h2
              · rw [← hnx0]
                exact Nat.le_trans (g.mono 0 j (by omega) (by omega)) h2
            · exact I.mem.fresh
            · rw [← hnx0]; exact g.mono 0 _ (by omega) (Nat.le_refl _)
            · have := g.low 0 ops.size (by omega) (Nat.le_refl _)
              rw [e0] at this; exact this
            · intro r h1 h2
              have : ∀ d, d ≤ ops.size → (S d).H.obj r = s.H.obj r := by
                intro d
                induction d with
                | zero => intro _; exact hobj0 r
                | succ d ih =>
                  intro hd
                  rw [g.obj_low (j := d) (by omega) (Nat.lt_of_lt_of_le (by rw [hnx0]; exact h1) (g.mono 0 d (by omega) (by omega))) h2, ih (by omega)]
              exact this ops.size (Nat.le_refl _)
            · intro r h1 h2
              have hmn := hnone r (by rw [hnx0]; exact h1) h2
              have : ∀ d, d ≤ ops.size → (S d).H.obj r = s.H.obj r := by
                intro d
                induction d with
                | zero => intro _; exact hobj0 r
                | succ d ih =>
                  intro hd
                  rw [I.mem.hid d r (by omega) (hD d (by omega)) (Nat.lt_of_lt_of_le (by rw [hnx0]; exact h1) (g.mono 0 d (by omega) (by omega))) hmn, ih (by omega)]
              exact this ops.size (Nat.le_refl _)
          exact (Ex.drew m s.H w).trans hex
        · rw [← eN]; exact hntN

/-- all levels, the draws paid. -/
theorem levels (hmo : P.follows .mixedOrders = true) {X : Xt} {n : Nat} (hP : FnsOk P n) (hX : XOk P X) (hO : OrOk P X n) (k : Nat) : CallOk P n (acall P X k) :=
  (level_ok hP hX hO (fun _ hcf nt => draw_ok hmo hcf nt) k).2.2
end mem
end Go.Ae

namespace Go.Ae

/-! ### what a run of the second machine tells of the model -/
section mem
variable {P : Program}

theorem FnsOk.of_all {n : Nat} (h : all' (fnOk n) P.funcs.toList = true) : FnsOk P n := by
  intro g fn hg
  rw [all_eq, List.all_eq_true] at h
  exact h fn (List.mem_of_getElem? (by rw [Array.getElem?_toList]; exact hg))

/-- no object is known: the globals' places alone. -/
def gmap (n : Nat) : Mp := fun r => if r < n then some ⟨r, 0, 0, 0, 0⟩ else none
theorem gmap_gl (n : Nat) : Gl n (gmap n) := fun g hg => ⟨⟨g, 0, 0, 0, 0⟩, by unfold gmap; rw [if_pos hg], rfl, rfl, rfl⟩
theorem gmap_rh {n : Nat} {w : World} (h : n ≤ w.heap.size) : RH (gmap n) (heap0 n) w := by
  refine ⟨?_, ?_, ?_⟩
  · intro r l hr
    unfold gmap at hr
    split at hr
    · next h1 => exact h1
    · cases hr
  · intro r l hr
    unfold gmap at hr
    split at hr
    · next h1 =>
      cases hr
      refine ⟨w.heap[r]'(by omega), Array.getElem?_eq_getElem (i := r) (by omega), ?_⟩
      show ObjOk _ _ ((Tr.nil : Tr AObj).get .dead r) _
      rw [Tr.get_nil]
      trivial
    · cases hr
  · intro r r' l l' _ _ hd _ _
    exact absurd (Tr.get_nil _ _) hd

/-- a call over plain values, where nothing that was there is turned. -/
theorem closed_call {X : Xt} {n k : Nat} (hmo : P.follows .mixedOrders = true) (hP : FnsOk P n) (hX : XOk P X) (hO : OrOk P X n) {g : FuncId} {fn : Func} (hg : P.funcs[g]? = some fn) (hb : fn.body.isSome = true)
    {args : List Value} {v : Value} {H' : AHeap} (h : acall P X k g args (heap0 n) = some (v, H')) (hlow : n ≤ H'.low) (hv : scal v = true) (ha : args.all scal = true) {w : World} (hw : n ≤ w.heap.size) :
    Calls P g ⟨args⟩ w fun e w' => e = .returned v ∧ Go.RowKit.Below w.heap.size w w' := by
  refine (levels hmo hP hX hO k g args v _ H' fn h hg hb (gmap n) w args (gmap_rh hw) (gmap_gl n) (VRs.scal ha)).mono ?_
  rintro e w' ⟨m', v', rfl, h1, h2, h3⟩
  rw [h1.of_scal hv]
  refine ⟨rfl, ⟨h3.os, h3.tape, h3.output, h3.size, fun c hc => h3.keep c hc ?_⟩⟩
  intro r l hr _
  unfold gmap at hr
  split at hr
  · next h4 => exact Nat.lt_of_lt_of_le h4 hlow
  · cases hr

end mem
end Go.Ae

namespace Go.Ae

/-! ### more room, the same answer -/
def CfLe (cf cf' : CallF) : Prop := ∀ g args H r, cf g args H = some r → cf' g args H = some r
def CxLe (cx cx' : Code → St → Out) : Prop := ∀ c s, cx c s ≠ .fail → cx' c s = cx c s

section mem
variable {P : Program}

theorem rm_ne {o : Option (Value × AHeap)} (h : rm o ≠ .fail) : ∃ r, o = some r := by
  cases o with
  | none => exact absurd rfl h
  | some r => exact ⟨r, rfl⟩

theorem opR_mono {cf cf' : CallF} (h : CfLe cf cf') {o : Op} {s : St} (hne : opR o P cf s ≠ .fail) : opR o P cf' s = opR o P cf s := by
  cases o with
  | call c =>
    replace hne : callR c P cf s ≠ .fail := hne
    show callR c P cf' s = callR c P cf s
    obtain ⟨callee, args, ats⟩ := c
    cases callee with
    | builtin b => rfl
    | value f =>
      obtain ⟨r, hr⟩ := rm_ne (o := obind (calleeOf (.value f) P s) fun q => cf q.1 (app q.2.1 (app (mp (ev s) args.toList) q.2.2)) s.H) hne
      show rm (obind (calleeOf (.value f) P s) fun q => cf' q.1 (app q.2.1 (app (mp (ev s) args.toList) q.2.2)) s.H) = rm (obind (calleeOf (.value f) P s) fun q => cf q.1 (app q.2.1 (app (mp (ev s) args.toList) q.2.2)) s.H)
      rw [hr]
      obtain ⟨q, h1, h2⟩ := obind_eq hr
      rw [h1]
      show rm (cf' _ _ _) = _
      rw [h _ _ _ _ h2]
    | invoke f nm =>
      obtain ⟨r, hr⟩ := rm_ne (o := obind (calleeOf (.invoke f nm) P s) fun q => cf q.1 (app q.2.1 (app (mp (ev s) args.toList) q.2.2)) s.H) hne
      show rm (obind (calleeOf (.invoke f nm) P s) fun q => cf' q.1 (app q.2.1 (app (mp (ev s) args.toList) q.2.2)) s.H) = rm (obind (calleeOf (.invoke f nm) P s) fun q => cf q.1 (app q.2.1 (app (mp (ev s) args.toList) q.2.2)) s.H)
      rw [hr]
      obtain ⟨q, h1, h2⟩ := obind_eq hr
      rw [h1]
      show rm (cf' _ _ _) = _
      rw [h _ _ _ _ h2]
  | _ => rfl

theorem doOp_mono {cf cf' : CallF} (h : CfLe cf cf') {o : Oper} {s s1 : St} (hs : doOp P cf o s = some s1) : doOp P cf' o s = some s1 := by
  unfold doOp at hs ⊢
  cases hd : deferC o.op with
  | some c => rw [hd] at hs; exact hs
  | none =>
    rw [hd] at hs
    replace hs : end3 o s (opR o.op P cf s) = some s1 := hs
    show end3 o s (opR o.op P cf' s) = some s1
    rw [opR_mono h (by intro e; rw [e] at hs; cases hs)]
    exact hs
theorem opStep_mono {cf cf' : CallF} (h : CfLe cf cf') {ops : Array Oper} {o : Oper} {s s1 : St} (hs : opStep P cf ops o s = some s1) : opStep P cf' ops o s = some s1 := by
  obtain ⟨b, hb, h2⟩ := obind_eq hs
  unfold opStep
  rw [hb]
  cases b with
  | true => exact doOp_mono h h2
  | false => exact h2
theorem runOps_mono {cf cf' : CallF} (h : CfLe cf cf') {ops : Array Oper} : ∀ {l : List Oper} {s s1 : St}, runOps P cf ops l s = some s1 → runOps P cf' ops l s = some s1 := by
  intro l
  induction l with
  | nil => intro s s1 hs; exact hs
  | cons o l ih =>
    intro s s1 hs
    replace hs : (obind (opStep P cf ops o s) fun s => runOps P cf ops l s) = some s1 := hs
    obtain ⟨s2, h1, h2⟩ := obind_eq hs
    show (obind (opStep P cf' ops o s) fun s => runOps P cf' ops l s) = some s1
    rw [opStep_mono h h1]
    exact ih h2
theorem opStepD_mono {cf cf' : CallF} (h : CfLe cf cf') {ops : Array Oper} {o : Oper} {s : St} {r : St × Cl} (hs : opStepD P cf ops o s = some r) : opStepD P cf' ops o s = some r := by
  obtain ⟨b, hb, h2⟩ := obind_eq hs
  unfold opStepD
  rw [hb]
  cases b with
  | true =>
    replace h2 : end3D P o s (opR o.op P cf (atNext s)) = some r := h2
    show end3D P o s (opR o.op P cf' (atNext s)) = some r
    rw [opR_mono h (by intro e; rw [e] at h2; cases h2)]
    exact h2
  | false => exact h2
theorem runOpsD_mono {cf cf' : CallF} (h : CfLe cf cf') {ops : Array Oper} : ∀ {l : List Oper} {s : St} {acc : List Cl} {r : St × List Cl}, runOpsD P cf ops l s acc = some r → runOpsD P cf' ops l s acc = some r := by
  intro l
  induction l with
  | nil => intro s acc r hs; exact hs
  | cons o l ih =>
    intro s acc r hs
    replace hs : (obind (opStepD P cf ops o s) fun q => runOpsD P cf ops l q.1 (q.2 :: acc)) = some r := hs
    obtain ⟨s2, h1, h2⟩ := obind_eq hs
    show (obind (opStepD P cf' ops o s) fun q => runOpsD P cf' ops l q.1 (q.2 :: acc)) = some r
    rw [opStepD_mono h h1]
    exact ih h2
theorem region_mono {cf cf' : CallF} (h : CfLe cf cf') {ops : Array Oper} {d : Bool} {s : St} (hne : region P cf ops d s ≠ .fail) : region P cf' ops d s = region P cf ops d s := by
  cases d with
  | false =>
    replace hne : normO (runOps P cf ops ops.toList (clear s)) ≠ .fail := hne
    show normO (runOps P cf' ops ops.toList (clear s)) = normO (runOps P cf ops ops.toList (clear s))
    cases hr : runOps P cf ops ops.toList (clear s) with
    | none => rw [hr] at hne; exact absurd rfl hne
    | some s1 => rw [runOps_mono h hr]
  | true =>
    replace hne : bif' (plainOps ops && statOk ops) (drawnO ops (runOpsD P cf ops ops.toList (clear s) [])) .fail ≠ .fail := hne
    show bif' (plainOps ops && statOk ops) (drawnO ops (runOpsD P cf' ops ops.toList (clear s) [])) .fail = bif' (plainOps ops && statOk ops) (drawnO ops (runOpsD P cf ops ops.toList (clear s) [])) .fail
    cases hb : (plainOps ops && statOk ops) with
    | false => rfl
    | true =>
      rw [hb] at hne
      replace hne : drawnO ops (runOpsD P cf ops ops.toList (clear s) []) ≠ .fail := hne
      show drawnO ops (runOpsD P cf' ops ops.toList (clear s) []) = drawnO ops (runOpsD P cf ops ops.toList (clear s) [])
      cases hr : runOpsD P cf ops ops.toList (clear s) [] with
      | none => rw [hr] at hne; exact absurd rfl hne
      | some r => rw [runOpsD_mono h hr]

theorem andThen_mono {o o' : Out} {k k' : St → Out} (ho : o ≠ .fail → o' = o) (hk : ∀ s, k s ≠ .fail → k' s = k s) (hne : andThen o k ≠ .fail) : andThen o' k' = andThen o k := by
  cases o with
  | fail => exact absurd rfl hne
  | norm s => rw [ho (by simp)]; exact hk s hne
  | exit i s => rw [ho (by simp)]; rfl
  | goto l s => rw [ho (by simp)]; rfl
  | ret s => rw [ho (by simp)]; rfl
theorem loopN_mono {f f' : St → Out} (hf : ∀ s, f s ≠ .fail → f' s = f s) : ∀ (n n' : Nat), n ≤ n' → ∀ s, loopN n f s ≠ .fail → loopN n' f' s = loopN n f s := by
  intro n
  induction n with
  | zero => intro n' _ s h; exact absurd rfl h
  | succ n ih =>
    intro n' hn s h
    cases n' with
    | zero => omega
    | succ n' =>
      show andThen (f' s) (loopN n' f') = andThen (f s) (loopN n f)
      exact andThen_mono (hf s) (fun s' h' => ih n' (by omega) s' h') h
theorem scopeO_mono {cx cx' : Code → St → Out} (hx : CxLe cx cx') (body : Code) : ∀ (n n' : Nat), n ≤ n' → ∀ o, scopeO cx n body o ≠ .fail → scopeO cx' n' body o = scopeO cx n body o := by
  intro n
  induction n with
  | zero => intro n' _ o h; exact absurd rfl h
  | succ n ih =>
    intro n' hn o h
    cases n' with
    | zero => omega
    | succ n' =>
      cases o with
      | goto l s =>
        replace h : (@Option.rec Code (fun _ => Out) (.goto l s) (fun rest => scopeO cx n body (cx rest s)) (findLabel body l) : Out) ≠ .fail := h
        show (@Option.rec Code (fun _ => Out) (.goto l s) (fun rest => scopeO cx' n' body (cx' rest s)) (findLabel body l) : Out) = (@Option.rec Code (fun _ => Out) (.goto l s) (fun rest => scopeO cx n body (cx rest s)) (findLabel body l) : Out)
        cases hf : findLabel body l with
        | none => rfl
        | some rest =>
          rw [hf] at h
          replace h : scopeO cx n body (cx rest s) ≠ .fail := h
          show scopeO cx' n' body (cx' rest s) = scopeO cx n body (cx rest s)
          have hne : cx rest s ≠ .fail := by
            intro e
            rw [e] at h
            cases n with
            | zero => exact h rfl
            | succ n => exact h rfl
          rw [hx rest s hne]
          exact ih n' (by omega) _ h
      | _ => rfl

theorem exec_mono {cf cf' : CallF} (h : CfLe cf cf') {cx cx' : Code → St → Out} (hx : CxLe cx cx') {n n' : Nat} (hn : n ≤ n') : ∀ (c : Code) (s : St), exec P cf cx n c s ≠ .fail → exec P cf' cx' n' c s = exec P cf cx n c s := by
  intro c
  induction c with
  | region id ops d => intro s hne; exact region_mono h hne
  | seq a b iha ihb =>
    intro s hne
    exact andThen_mono (o := exec P cf cx n a s) (o' := exec P cf' cx' n' a s) (k := exec P cf cx n b) (k' := exec P cf' cx' n' b) (iha s) ihb hne
  | cond c a b iha ihb =>
    intro s hne
    replace hne : condO (vBool (ev s c)) (exec P cf cx n a s) (exec P cf cx n b s) ≠ .fail := hne
    show condO (vBool (ev s c)) (exec P cf' cx' n' a s) (exec P cf' cx' n' b s) = condO (vBool (ev s c)) (exec P cf cx n a s) (exec P cf cx n b s)
    cases hb : vBool (ev s c) with
    | none => rfl
    | some b' =>
      rw [hb] at hne
      cases b' with
      | true => exact iha s hne
      | false => exact ihb s hne
  | block id a ih =>
    intro s hne
    replace hne : blockO id (exec P cf cx n a s) ≠ .fail := hne
    show blockO id (exec P cf' cx' n' a s) = blockO id (exec P cf cx n a s)
    rw [ih s (by intro e; rw [e] at hne; exact hne rfl)]
  | loop a ih => intro s hne; exact loopN_mono ih n n' hn s hne
  | scope a ih =>
    intro s hne
    replace hne : scopeO cx n a (exec P cf cx n a s) ≠ .fail := hne
    show scopeO cx' n' a (exec P cf' cx' n' a s) = scopeO cx n a (exec P cf cx n a s)
    have hne2 : exec P cf cx n a s ≠ .fail := by
      intro e
      rw [e] at hne
      cases n with
      | zero => exact hne rfl
      | succ n => exact hne rfl
    rw [ih s hne2]
    exact scopeO_mono hx a n n' hn _ hne
  | _ => intro s _; rfl

theorem caBody_mono {L L' : Lv} (h : CfLe L.ca L'.ca) (hx : CxLe L.cx L'.cx) {n n' : Nat} (hn : n ≤ n') {g : Nat} {fn : Func} {c : Code} {args : List Value} {H : AHeap} {s : St} (h1 : caBody P L n g fn c args H = some s) : caBody P L' n' g fn c args H = some s := by
  unfold caBody at h1 ⊢
  obtain ⟨h3, h5⟩ := gd_eq h1
  rw [h3, exec_mono h hx hn c _ (by intro e; rw [e] at h5; cases h5)]
  exact h5
theorem caDef1_mono {L L' : Lv} (h : CfLe L.ca L'.ca) (hx : CxLe L.cx L'.cx) {n n' : Nat} (hn : n ≤ n') {d : Deferred} {H H' : AHeap} (h1 : caDef1 P L n d H = some H') : caDef1 P L' n' d H = some H' := by
  unfold caDef1 at h1 ⊢
  obtain ⟨q, hq, h1⟩ := obind_eq h1
  obtain ⟨fn, hf, h1⟩ := obind_eq h1
  rw [hq]
  show (obind (nth P.funcs.toList q.1) fun fn => @Option.rec Code (fun _ => Option AHeap) none (fun c => obind (caBody P L' n' q.1 fn c (app d.args.toList q.2) H) fun s => obind (caEndP P fn s) fun r => some r.2) fn.body) = some H'
  rw [hf]
  show (@Option.rec Code (fun _ => Option AHeap) none (fun c => obind (caBody P L' n' q.1 fn c (app d.args.toList q.2) H) fun s => obind (caEndP P fn s) fun r => some r.2) fn.body) = some H'
  cases hb : fn.body with
  | none => rw [hb] at h1; cases h1
  | some c =>
    rw [hb] at h1
    obtain ⟨s, hs, h1⟩ := obind_eq h1
    show (obind (caBody P L' n' q.1 fn c (app d.args.toList q.2) H) fun s => obind (caEndP P fn s) fun r => some r.2) = some H'
    rw [caBody_mono h hx hn hs]
    exact h1
theorem caDefs_mono {L L' : Lv} (h : CfLe L.ca L'.ca) (hx : CxLe L.cx L'.cx) {n n' : Nat} (hn : n ≤ n') : ∀ {l : List Deferred} {H H' : AHeap}, caDefs P L n l H = some H' → caDefs P L' n' l H = some H' := by
  intro l
  induction l with
  | nil => intro H H' h1; exact h1
  | cons d l ih =>
    intro H H' h1
    replace h1 : (obind (caDef1 P L n d H) fun H => caDefs P L n l H) = some H' := h1
    obtain ⟨H1, h2, h3⟩ := obind_eq h1
    show (obind (caDef1 P L' n' d H) fun H => caDefs P L' n' l H) = some H'
    rw [caDef1_mono h hx hn h2]
    exact ih h3
theorem caEnd_mono {L L' : Lv} (h : CfLe L.ca L'.ca) (hx : CxLe L.cx L'.cx) {n n' : Nat} (hn : n ≤ n') {fn : Func} {s : St} {r : Value × AHeap} (h1 : caEnd P L n fn s = some r) : caEnd P L' n' fn s = some r := by
  unfold caEnd at h1 ⊢
  cases hd : Nat.beq (len s.df) 0 with
  | true => rw [hd] at h1; exact h1
  | false =>
    rw [hd] at h1
    replace h1 : (obind (caDefs P L n s.df s.H) fun H' => obind (aresults P ⟨s.nl, s.nt, s.reg, s.tm, [], H'⟩ fn.results.toList) fun vs => some (tupled vs, H')) = some r := h1
    obtain ⟨H1, h2, h3⟩ := obind_eq h1
    show (obind (caDefs P L' n' s.df s.H) fun H' => obind (aresults P ⟨s.nl, s.nt, s.reg, s.tm, [], H'⟩ fn.results.toList) fun vs => some (tupled vs, H')) = some r
    rw [caDefs_mono h hx hn h2]
    exact h3
theorem caStep_mono {X : Xt} {L L' : Lv} (h : CfLe L.ca L'.ca) (hx : CxLe L.cx L'.cx) {n n' : Nat} (hn : n ≤ n') : CfLe (caStep P X L n) (caStep P X L' n') := by
  intro g args H r hr
  cases hor : X.o g args H with
  | some q => rw [caStep_some hor] at hr ⊢; exact hr
  | none =>
  rw [caStep_none hor] at hr ⊢
  obtain ⟨fn, h1, h2⟩ := obind_eq hr
  rw [h1]
  show caFn P L' n' g (X g) fn args H = some r
  unfold caFn at h2 ⊢
  cases hb : fn.body with
  | none => rw [hb] at h2; exact h2
  | some c =>
    rw [hb] at h2
    replace h2 : (obind (caBody P L n g fn c args H) fun s => caEnd P L n fn s) = some r := h2
    obtain ⟨s, h5, h6⟩ := obind_eq h2
    show (obind (caBody P L' n' g fn c args H) fun s => caEnd P L' n' fn s) = some r
    rw [caBody_mono h hx hn h5]
    exact caEnd_mono h hx hn h6
theorem lv_mono {X : Xt} : ∀ (n n' : Nat), n ≤ n' → CfLe (lv P X n).ca (lv P X n').ca ∧ CxLe (lv P X n).cx (lv P X n').cx := by
  intro n
  induction n with
  | zero => intro n' _; exact ⟨(fun g args H r h => by cases h), (fun c s h => absurd rfl h)⟩
  | succ n ih =>
    intro n' hn
    cases n' with
    | zero => omega
    | succ n' =>
      obtain ⟨h1, h2⟩ := ih n' (by omega)
      exact ⟨caStep_mono h1 h2 (by omega), fun c s h => exec_mono h1 h2 (by omega) c s h⟩

/-! ### the great step -/
/-- a call comes to that, given room enough. -/
def Ca (P : Program) (X : Xt) (g : FuncId) (args : List Value) (H : AHeap) (v : Value) (H' : AHeap) : Prop := ∃ k, acall P X k g args H = some (v, H')
noncomputable def exN (P : Program) (X : Xt) (k : Nat) (c : Code) (s : St) : Out := exec P (lv P X k).ca (lv P X k).cx k c s
def Ev (P : Program) (X : Xt) (c : Code) (s : St) (o : Out) : Prop := o ≠ .fail ∧ ∃ k, exN P X k c s = o
/-- operations, in the order of the text. -/
def Ro (P : Program) (X : Xt) (ops : Array Oper) (l : List Oper) (s s' : St) : Prop := ∃ k, runOps P (acall P X k) ops l s = some s'
def RoD (P : Program) (X : Xt) (ops : Array Oper) (l : List Oper) (s : St) (acc : List Cl) (r : St × List Cl) : Prop := ∃ k, runOpsD P (acall P X k) ops l s acc = some r

variable {X : Xt}
theorem Ca.le {g : FuncId} {args : List Value} {H H' : AHeap} {v : Value} {k k' : Nat} (h : acall P X k g args H = some (v, H')) (hk : k ≤ k') : acall P X k' g args H = some (v, H') := (lv_mono k k' hk).1 _ _ _ _ h
theorem exN_le {c : Code} {s : St} {o : Out} {k k' : Nat} (h : exN P X k c s = o) (ho : o ≠ .fail) (hk : k ≤ k') : exN P X k' c s = o := by
  rw [← h]
  exact exec_mono (lv_mono k k' hk).1 (lv_mono k k' hk).2 hk c s (by show exN P X k c s ≠ _; rw [h]; exact ho)
theorem Ca.det {g : FuncId} {args : List Value} {H H1 H2 : AHeap} {v1 v2 : Value} (h1 : Ca P X g args H v1 H1) (h2 : Ca P X g args H v2 H2) : v1 = v2 ∧ H1 = H2 := by
  obtain ⟨k1, h1⟩ := h1
  obtain ⟨k2, h2⟩ := h2
  have a1 := Ca.le h1 (Nat.le_max_left k1 k2)
  have a2 := Ca.le h2 (Nat.le_max_right k1 k2)
  rw [a1] at a2
  cases a2
  exact ⟨rfl, rfl⟩

section rules
variable {s s1 : St} {o : Out} {a b c : Code}
theorem Ev.skip : Ev P X .skip s (.norm s) := ⟨by simp, 0, rfl⟩
theorem Ev.label {l : Nat} : Ev P X (.label l) s (.norm s) := ⟨by simp, 0, rfl⟩
theorem Ev.exit {i : Nat} : Ev P X (.exit i) s (.exit i s) := ⟨by simp, 0, rfl⟩
theorem Ev.ret : Ev P X .ret s (.ret s) := ⟨by simp, 0, rfl⟩
theorem Ev.seq (h1 : Ev P X a s (.norm s1)) (h2 : Ev P X b s1 o) : Ev P X (.seq a b) s o := by
  obtain ⟨n1, k1, h1⟩ := h1
  obtain ⟨n2, k2, h2⟩ := h2
  refine ⟨n2, max k1 k2, ?_⟩
  show andThen (exN P X (max k1 k2) a s) (exN P X (max k1 k2) b) = o
  rw [exN_le h1 n1 (Nat.le_max_left _ _)]
  exact exN_le h2 n2 (Nat.le_max_right _ _)
theorem Ev.seq_ret (h1 : Ev P X a s (.ret s1)) : Ev P X (.seq a b) s (.ret s1) := by
  obtain ⟨n1, k1, h1⟩ := h1
  refine ⟨n1, k1, ?_⟩
  show andThen (exN P X k1 a s) (exN P X k1 b) = _
  rw [h1]; rfl
theorem Ev.seq_exit {i : Nat} (h1 : Ev P X a s (.exit i s1)) : Ev P X (.seq a b) s (.exit i s1) := by
  obtain ⟨n1, k1, h1⟩ := h1
  refine ⟨n1, k1, ?_⟩
  show andThen (exN P X k1 a s) (exN P X k1 b) = _
  rw [h1]; rfl
theorem Ev.cond {x : Operand} {t : Bool} (hx : vBool (ev s x) = some t) (h : Ev P X (if t then a else b) s o) : Ev P X (.cond x a b) s o := by
  obtain ⟨n1, k1, h1⟩ := h
  refine ⟨n1, k1, ?_⟩
  show condO (vBool (ev s x)) (exN P X k1 a s) (exN P X k1 b s) = o
  rw [hx]
  cases t with
  | true => exact h1
  | false => exact h1
theorem Ev.block {i : Nat} (h : Ev P X a s (.norm s1)) : Ev P X (.block i a) s (.norm s1) := by
  obtain ⟨n1, k1, h1⟩ := h
  refine ⟨n1, k1, ?_⟩
  show blockO i (exN P X k1 a s) = _
  rw [h1]; rfl
theorem Ev.block_out {i : Nat} (h : Ev P X a s (.exit i s1)) : Ev P X (.block i a) s (.norm s1) := by
  obtain ⟨n1, k1, h1⟩ := h
  refine ⟨by simp, k1, ?_⟩
  show blockO i (exN P X k1 a s) = _
  rw [h1]
  show bif' (Nat.beq i i) _ _ = _
  rw [show Nat.beq i i = true from Nat.beq_refl i]; rfl
theorem Ev.block_on {i j : Nat} (hij : j ≠ i) (h : Ev P X a s (.exit j s1)) : Ev P X (.block i a) s (.exit j s1) := by
  obtain ⟨n1, k1, h1⟩ := h
  refine ⟨n1, k1, ?_⟩
  show blockO i (exN P X k1 a s) = _
  rw [h1]
  show bif' (Nat.beq j i) _ _ = _
  rw [show Nat.beq j i = false from by rw [← Bool.not_eq_true]; exact fun g => hij (Nat.eq_of_beq_eq_true g)]; rfl
theorem Ev.block_ret {i : Nat} (h : Ev P X a s (.ret s1)) : Ev P X (.block i a) s (.ret s1) := by
  obtain ⟨n1, k1, h1⟩ := h
  refine ⟨n1, k1, ?_⟩
  show blockO i (exN P X k1 a s) = _
  rw [h1]; rfl
theorem Ev.loop_on (h1 : Ev P X a s (.norm s1)) (h2 : Ev P X (.loop a) s1 o) : Ev P X (.loop a) s o := by
  obtain ⟨n1, k1, h1⟩ := h1
  obtain ⟨n2, k2, h2⟩ := h2
  refine ⟨n2, max k1 k2 + 1, ?_⟩
  show andThen (exN P X (max k1 k2 + 1) a s) (loopN (max k1 k2) (exN P X (max k1 k2 + 1) a)) = o
  rw [exN_le h1 n1 (Nat.le_trans (Nat.le_max_left _ _) (Nat.le_succ _))]
  show loopN (max k1 k2) (exN P X (max k1 k2 + 1) a) s1 = o
  replace h2 : loopN k2 (exN P X k2 a) s1 = o := h2
  rw [← h2]
  refine loopN_mono ?_ k2 _ (Nat.le_max_right _ _) s1 (by rw [h2]; exact n2)
  intro s2 hne
  exact exN_le rfl hne (Nat.le_trans (Nat.le_max_right _ _) (Nat.le_succ _))
theorem Ev.loop_out {i : Nat} (h : Ev P X a s (.exit i s1)) : Ev P X (.loop a) s (.exit i s1) := by
  obtain ⟨n1, k1, h1⟩ := h
  refine ⟨n1, k1 + 1, ?_⟩
  show andThen (exN P X (k1 + 1) a s) _ = _
  rw [exN_le h1 n1 (Nat.le_succ _)]; rfl
theorem Ev.loop_ret (h : Ev P X a s (.ret s1)) : Ev P X (.loop a) s (.ret s1) := by
  obtain ⟨n1, k1, h1⟩ := h
  refine ⟨n1, k1 + 1, ?_⟩
  show andThen (exN P X (k1 + 1) a s) _ = _
  rw [exN_le h1 n1 (Nat.le_succ _)]; rfl
theorem Ev.region {id : Nat} {ops : Array Oper} (h : Ro P X ops ops.toList (clear s) s1) : Ev P X (.region id ops false) s (.norm s1) := by
  obtain ⟨k, h⟩ := h
  refine ⟨by simp, k, ?_⟩
  show normO (runOps P (acall P X k) ops ops.toList (clear s)) = _
  rw [h]; rfl
theorem Ev.region_draw {id : Nat} {ops : Array Oper} {cls : List Cl} (hp : (plainOps ops && statOk ops) = true) (h : RoD P X ops ops.toList (clear s) [] (s1, cls)) (hd : dynOk ops cls = true) : Ev P X (.region id ops true) s (.norm s1) := by
  obtain ⟨k, h⟩ := h
  refine ⟨by simp, k, ?_⟩
  show bif' (plainOps ops && statOk ops) (drawnO ops (runOpsD P (acall P X k) ops ops.toList (clear s) [])) .fail = _
  rw [hp]
  show drawnO ops (runOpsD P (acall P X k) ops ops.toList (clear s) []) = _
  rw [h]
  show bif' (dynOk ops cls) (Out.norm s1) Out.fail = _
  rw [hd]; rfl
theorem Ro.nil {ops : Array Oper} : Ro P X ops [] s s := ⟨0, rfl⟩
/-- one operation, however it is done. -/
def So (P : Program) (X : Xt) (ops : Array Oper) (p : Oper) (s s' : St) : Prop := ∃ k, opStep P (acall P X k) ops p s = some s'
theorem Ro.cons {ops : Array Oper} {p : Oper} {l : List Oper} {s2 : St} (h1 : So P X ops p s s1) (h2 : Ro P X ops l s1 s2) : Ro P X ops (p :: l) s s2 := by
  obtain ⟨k1, h1⟩ := h1
  obtain ⟨k2, h2⟩ := h2
  refine ⟨max k1 k2, ?_⟩
  show (obind (opStep P (acall P X (max k1 k2)) ops p s) fun s => runOps P (acall P X (max k1 k2)) ops l s) = _
  rw [show opStep P (acall P X (max k1 k2)) ops p s = some s1 from opStep_mono (lv_mono k1 _ (Nat.le_max_left k1 k2)).1 h1]
  exact runOps_mono (lv_mono k2 _ (Nat.le_max_right k1 k2)).1 h2
theorem So.pur {ops : Array Oper} {p : Oper} {v : Value} (hw : wantA ops s p.guard = some true) (hd : deferC p.op = none) (h : ∀ cf, opR p.op P cf s = .pur v) : So P X ops p s (putO s p.dst v s.H) := by
  refine ⟨0, ?_⟩
  unfold opStep
  rw [hw]
  show doOp P _ p s = _
  unfold doOp
  rw [hd]
  show end3 p s (opR p.op P _ s) = _
  rw [h]; rfl
theorem So.mem {ops : Array Oper} {p : Oper} {v : Value} {H' : AHeap} (hw : wantA ops s p.guard = some true) (hd : deferC p.op = none) (h : ∀ cf, opR p.op P cf s = .mem v H') : So P X ops p s (putO s p.dst v H') := by
  refine ⟨0, ?_⟩
  unfold opStep
  rw [hw]
  show doOp P _ p s = _
  unfold doOp
  rw [hd]
  show end3 p s (opR p.op P _ s) = _
  rw [h]; rfl
theorem So.skip {ops : Array Oper} {p : Oper} (hw : wantA ops s p.guard = some false) : So P X ops p s (putO s p.dst undef s.H) := by
  refine ⟨0, ?_⟩
  unfold opStep
  rw [hw]; rfl
theorem So.call {ops : Array Oper} {p : Oper} {q : Call} {g : FuncId} {pre post : List Value} {v : Value} {H' : AHeap} (hw : wantA ops s p.guard = some true) (hop : p.op = .call q) (hb : isBuiltin q.callee = none) (hc : calleeOf q.callee P s = some (g, pre, post))
    (h : Ca P X g (app pre (app (mp (ev s) q.args.toList) post)) s.H v H') : So P X ops p s (putO s p.dst v H') := by
  obtain ⟨k, h⟩ := h
  refine ⟨k, ?_⟩
  unfold opStep
  rw [hw]
  show doOp P _ p s = _
  unfold doOp
  rw [show deferC p.op = none from by rw [hop]; rfl]
  show end3 p s (opR p.op P (acall P X k) s) = _
  have : opR p.op P (acall P X k) s = .mem v H' := by
    rw [hop]
    show callR q P (acall P X k) s = _
    unfold callR
    rw [hb]
    show rm (obind (calleeOf q.callee P s) fun z => acall P X k z.1 (app z.2.1 (app (mp (ev s) q.args.toList) z.2.2)) s.H) = _
    rw [hc]
    show rm (acall P X k g (app pre (app (mp (ev s) q.args.toList) post)) s.H) = _
    rw [h]; rfl
  rw [this]; rfl
/-- a call of a function that has a body. -/
theorem Ca.body {g : FuncId} {fn : Func} {c : Code} {args : List Value} {H : AHeap} {o : Out} {s1 : St} {vs : List Value} (hor : X.o g args H = none) (hg : nth P.funcs.toList g = some fn) (hb : fn.body = some c) (hl : Nat.ble (len args) fn.ntmps = true)
    (h : Ev P X c ⟨crossFn P g, fn.ntmps, [], Tr.ofL top args 0 .nil, [], H⟩ o) (ho : endS o = some s1) (hdf : Nat.beq (len s1.df) 0 = true) (hr : aresults P s1 fn.results.toList = some vs) : Ca P X g args H (tupled vs) s1.H := by
  obtain ⟨n1, k, h⟩ := h
  refine ⟨k + 1, ?_⟩
  show caStep P X (lv P X k) k g args H = _
  rw [caStep_none hor, hg]
  show caFn P (lv P X k) k g (X g) fn args H = _
  unfold caFn
  rw [hb]
  show (obind (gd (Nat.ble (len args) fn.ntmps) (endS (exN P X k c ⟨crossFn P g, fn.ntmps, [], Tr.ofL top args 0 .nil, [], H⟩))) fun s => caEnd P (lv P X k) k fn s) = _
  rw [hl, h, ho]
  show caEnd P (lv P X k) k fn s1 = _
  unfold caEnd
  rw [hdf, hr]; rfl
end rules
end mem
end Go.Ae

namespace Go.Ae

/-! ### functions without a Go body, one by one -/
def XAt (P : Program) (g : FuncId) (c : Nat) : Prop := ∀ (fn : Func) (args : List Value) (v : Value) (H H' : AHeap), P.funcs[g]? = some fn → aext P c fn.resultTypes.toList args H = some (v, H') →
  ∀ m w args', RH m H w → VRs m args args' → ∃ m' v' w', (callFunc g ⟨args'⟩).run P w = .ok (.value v') w' ∧ VR m' v v' ∧ RH m' H' w' ∧ Ex m m' H H' w w'
theorem XOk.of {P : Program} {X : Xt} (h : ∀ g, X g = 0 ∨ XAt P g (X g)) : XOk P X := by
  intro g fn args v H H' hg _ hx m w args' rh ha
  rcases h g with h0 | h1
  · rw [h0] at hx; cases hx
  · exact h1 fn args v H H' hg hx m w args' rh ha

section mem
variable {P : Program} {g : FuncId} {fn : Func}

theorem XAt.of_mem {c : Nat} {e : Array Value → Sem Value} (hg : P.funcs[g]? = some fn) (hname : (fn.name == "runtime.NumGoroutine") = false) (hb : fn.body.isNone = true) (hn : Extern.findNext fn = none) (he : Extern.find fn = some e)
    (h : ∀ (args : List Value) (v : Value) (H H' : AHeap), aext P c fn.resultTypes.toList args H = some (v, H') → ∀ m w args', RH m H w → VRs m args args' → MemOk P m H w (e ⟨args'⟩) v H') : XAt P g c := by
  intro fn' args v H H' hg' hx m w args' rh ha
  rw [hg] at hg'; cases hg'
  obtain ⟨m', v', w', h1, h2, h3, h4⟩ := h args v H H' hx m w args' rh ha
  refine ⟨m', v', w', ?_, h2, h3, h4⟩
  rw [run_callFunc_extern hg hname hb hn he, h1]
  rfl
theorem XAt.same (hg : P.funcs[g]? = some fn) (hname : (fn.name == "runtime.NumGoroutine") = false) (hb : fn.body.isNone = true) (hn : Extern.findNext fn = none) (he : Extern.find fn = some Extern.AbiNoEscape.same) : XAt P g 1 := by
  refine XAt.of_mem hg hname hb hn he ?_
  intro args v H H' h m w args' rh ha
  replace h : (gd (Nat.beq (len args) 1) (obind (nth args 0) fun x => some (x, H))) = some (v, H') := h
  (replace h := gd_eq h; obtain ⟨hl, h⟩ := h)
  (replace h := obind_eq h; obtain ⟨x, hx, h⟩ := h)
  cases h
  rw [nth_eq] at hx
  rw [len_eq] at hl
  obtain ⟨v', h1, h2⟩ := same_ok (P := P) (w := w) (Nat.eq_of_beq_eq_true hl) hx ha
  exact ⟨m, v', w, h2, h1, rh, Ex.refl _ _ _⟩
theorem XAt.index (hg : P.funcs[g]? = some fn) (hname : (fn.name == "runtime.NumGoroutine") = false) (hb : fn.body.isNone = true) (hn : Extern.findNext fn = none) (he : Extern.find fn = some Extern.BytealgIndexByte.indexByte) : XAt P g 3 := by
  refine XAt.of_mem hg hname hb hn he ?_
  intro args v H H' h m w args' rh ha
  replace h : (obind (xByte args) fun x => some (optI (findB x.2 x.1.data.toList 0), H)) = some (v, H') := h
  (replace h := obind_eq h; obtain ⟨q, hq, h⟩ := h)
  cases h
  obtain ⟨h1, h2⟩ := indexByte_ok (P := P) (w := w) hq ha
  exact ⟨m, _, w, h2, h1, rh, Ex.refl _ _ _⟩
theorem XAt.count (hg : P.funcs[g]? = some fn) (hname : (fn.name == "runtime.NumGoroutine") = false) (hb : fn.body.isNone = true) (hn : Extern.findNext fn = none) (he : Extern.find fn = some Extern.BytealgCount.count) : XAt P g 4 := by
  refine XAt.of_mem hg hname hb hn he ?_
  intro args v H H' h m w args' rh ha
  replace h : (obind (xByte args) fun x => some (Value.int .i64 (.ofNat (countB x.2 x.1.data.toList)), H)) = some (v, H') := h
  (replace h := obind_eq h; obtain ⟨q, hq, h⟩ := h)
  cases h
  obtain ⟨h1, h2⟩ := countByte_ok (P := P) (w := w) hq ha
  exact ⟨m, _, w, h2, h1, rh, Ex.refl _ _ _⟩
theorem XAt.room (hg : P.funcs[g]? = some fn) (hname : (fn.name == "runtime.NumGoroutine") = false) (hb : fn.body.isNone = true) (hn : Extern.findNext fn = none) (he : Extern.find fn = some (Extern.BytealgMakeNoZero.makeNoZero fn.params fn.resultTypes)) : XAt P g 2 := by
  refine XAt.of_mem hg hname hb hn he ?_
  intro args v H H' h m w args' rh ha
  replace h : (gd (Nat.beq (len args) 1) (obind (nth args 0) fun x => obind (vInt x) fun p => obind (iNat p.2) fun n => obind (nth fn.resultTypes.toList 0) fun t => obind (tSl P t) fun q =>
        gd (isI64 p.1 && Nat.ble n 16777216 && Nat.beq q.2 1) (some (Value.slice (some ⟨H.next, 0, none⟩) n (capU 1), H.new (.row ⟨q.1, .nil, n, false, 0⟩))))) = some (v, H') := h
  (replace h := gd_eq h; obtain ⟨hl, h⟩ := h)
  (replace h := obind_eq h; obtain ⟨x, hx, h⟩ := h)
  (replace h := obind_eq h; obtain ⟨p, hp, h⟩ := h)
  (replace h := obind_eq h; obtain ⟨n, hn', h⟩ := h)
  (replace h := obind_eq h; obtain ⟨t, ht, h⟩ := h)
  (replace h := obind_eq h; obtain ⟨q, hq, h⟩ := h)
  (replace h := gd_eq h; obtain ⟨hgg, h⟩ := h)
  cases h
  simp only [Bool.and_eq_true] at hgg
  obtain ⟨⟨g1, g2⟩, g3⟩ := hgg
  rw [nth_eq] at hx ht
  rw [len_eq] at hl
  have hl := Nat.eq_of_beq_eq_true hl
  obtain ⟨x', h1, h2⟩ := ha.get 0 hx
  have he' : args' = [.int .i64 n] := by
    have hl' : args'.length = 1 := by rw [← ha.length, hl]
    rw [vInt_eq hp, isI64_eq g1, iNat_eq hn'] at h2
    match args', hl', h1 with
    | [y], _, h0 => cases h0; rw [h2.of_int]
  subst he'
  have := noZero_ok (P := P) (pt := fn.params.toList) rh ht hq (Nat.eq_of_beq_eq_true g3) (Nat.le_of_ble_eq_true g2)
  simpa using this
end mem
end Go.Ae

namespace Go.Ae

/-! ### tables that the text lays -/
noncomputable def tabRow (ty : TypeId) (k : IntKind) (l : List Nat) : AObj := .row ⟨ty, Tr.ofL top (mp (fun n => Value.int k (Int.ofNat n)) l) 0 .nil, len l, true, 0⟩
/-- the object is not known, or a table that lies there. -/
def TabAt (w : World) (o : AObj) (r : Nat) : Prop := o = .dead ∨ ∃ (ty : TypeId) (k : IntKind) (l : List Nat) (cs : Array Value) (fr : Nat × Nat), o = tabRow ty k l ∧ w.heap[r]? = some (.cells cs ty fr) ∧ ∀ (i z : Nat), l[i]? = some z → cs[i]? = some (Value.int k (z : Nat))
def objN : AObj → Nat
  | .row R => R.n
  | _ => 0
def cellsN (w : World) (r : Nat) : Nat := match w.heap[r]? with | some (.cells cs _ _) => cs.size | _ => 0
noncomputable def tmap (w : World) (H : AHeap) : Mp := fun r => if r < H.next then some ⟨r, 0, 0, cellsN w r, objN (H.obj r)⟩ else none

section mem
variable {P : Program}

theorem tmap_gl (w : World) (H : AHeap) : Gl H.next (tmap w H) := fun g hg => ⟨⟨g, 0, 0, cellsN w g, objN (H.obj g)⟩, by unfold tmap; rw [if_pos hg], rfl, rfl, rfl⟩
theorem tmap_rh {w : World} {H : AHeap} (h : H.next ≤ w.heap.size) (ht : ∀ r, r < H.next → TabAt w (H.obj r) r) : RH (tmap w H) H w := by
  refine ⟨?_, ?_, ?_⟩
  · intro r l hr
    unfold tmap at hr
    split at hr
    · next h1 => exact h1
    · cases hr
  · intro r l hr
    unfold tmap at hr
    split at hr
    · next h1 =>
      cases hr
      refine ⟨w.heap[r]'(by omega), Array.getElem?_eq_getElem (i := r) (by omega), ?_⟩
      rcases ht r h1 with h2 | ⟨ty, k, l, cs, fr, h2, h3, h4⟩
      · rw [h2]; trivial
      · have hcn : cellsN w r = cs.size := by unfold cellsN; rw [h3]
        have hget : w.heap[r]'(by omega) = .cells cs ty fr := by
          have := Array.getElem?_eq_getElem (xs := w.heap) (i := r) (by omega)
          rw [h3] at this; injection this with this; exact this.symm
        rw [hget, h2]
        show ObjOk _ _ (tabRow ty k l) _
        have hlen : ∀ i, i < l.length → i < cs.size := by
          intro i hi
          exact (Array.getElem?_eq_some_iff.1 (h4 i _ (List.getElem?_eq_getElem hi))).1
        have hle : l.length ≤ cs.size := by
          rcases Nat.lt_or_ge cs.size l.length with h5 | h5
          · have := hlen cs.size h5; omega
          · exact h5
        refine ⟨⟨rfl, rfl⟩, rfl, hcn.symm, Nat.zero_le _, ?_, ?_, ?_⟩
        · show 0 + (len l - 0) ≤ cellsN w r
          rw [hcn, len_eq]; omega
        · intro hse; cases hse
        · intro i _ hi
          have hi : i < len l := hi
          rw [len_eq] at hi
          refine ⟨.int k (l[i] : Nat), ?_, ?_⟩
          · simp only [Nat.zero_add, Nat.sub_zero]
            exact h4 i _ (List.getElem?_eq_getElem hi)
          · show VR _ ((Tr.ofL top (mp (fun n => Value.int k (Int.ofNat n)) l) 0 .nil).get top i) _
            rw [Tr.get_ofL, mp_eq, if_pos (by simp; omega)]
            rw [List.getD_eq_getElem?_getD]
            simp [hi]
            exact .sc _ rfl
    · cases hr
  · intro r r' l l' hr hr' _ _ hc
    unfold tmap at hr hr'
    split at hr
    · split at hr'
      · cases hr; cases hr'; exact hc
      · cases hr'
    · cases hr

/-- a call over plain values, where nothing that was there is turned; tables may be read. -/
theorem table_call {X : Xt} {k : Nat} {H : AHeap} (hmo : P.follows .mixedOrders = true) (hP : FnsOk P H.next) (hX : XOk P X) (hO : OrOk P X H.next) {g : FuncId} {fn : Func} (hg : P.funcs[g]? = some fn) (hb : fn.body.isSome = true)
    {args : List Value} {v : Value} {H' : AHeap} (h : acall P X k g args H = some (v, H')) (hlow : H.next ≤ H'.low) (hv : scal v = true) (ha : args.all scal = true) {w : World} (hw : H.next ≤ w.heap.size)
    (ht : ∀ r, r < H.next → TabAt w (H.obj r) r) :
    Calls P g ⟨args⟩ w fun e w' => e = .returned v ∧ Go.RowKit.Below w.heap.size w w' := by
  refine (levels hmo hP hX hO k g args v _ H' fn h hg hb (tmap w H) w args (tmap_rh hw ht) (tmap_gl w H) (VRs.scal ha)).mono ?_
  rintro e w' ⟨m', v', rfl, h1, h2, h3⟩
  rw [h1.of_scal hv]
  refine ⟨rfl, ⟨h3.os, h3.tape, h3.output, h3.size, fun c hc => h3.keep c hc ?_⟩⟩
  intro r l hr _
  unfold tmap at hr
  split at hr
  · next h4 => exact Nat.lt_of_lt_of_le h4 hlow
  · cases hr

/-- did it come to that, with nothing turned? -/
noncomputable def okRun (n : Nat) (b : Bool) (o : Option (Value × AHeap)) : Bool := @Option.rec (Value × AHeap) (fun _ => Bool) false (fun p => (@Option.rec Bool (fun _ => Bool) false (fun x => bEq x b) (vBool p.1)) && Nat.ble n p.2.low) o
theorem okRun_eq {n : Nat} {b : Bool} {o : Option (Value × AHeap)} (h : okRun n b o = true) : ∃ H', o = some (.bool b, H') ∧ n ≤ H'.low := by
  cases o with
  | none => cases h
  | some p =>
    replace h : ((@Option.rec Bool (fun _ => Bool) false (fun x => bEq x b) (vBool p.1)) && Nat.ble n p.2.low) = true := h
    rw [Bool.and_eq_true] at h
    cases hb : vBool p.1 with
    | none => rw [hb] at h; cases h.1
    | some x =>
      rw [hb] at h
      have h1 : bEq x b = true := h.1
      rw [bEq_eq, beq_iff_eq] at h1
      exact ⟨p.2, by rw [← h1, ← vBool_eq hb], Nat.le_of_ble_eq_true h.2⟩
end mem
end Go.Ae
