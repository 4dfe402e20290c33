/-
  Adding to slices; regions whose order is drawn, step by step. No condition.
-/
import Derived.Test.YtnhfokplkmlibaaGreatDoorW5
set_option linter.unusedVariables false
set_option linter.unusedSimpArgs false
namespace Go.Ae
variable {S : List Nat}

/-! ### a slice that is written out -/
noncomputable def bS (e : TypeId) (z : List Value) (es n : Nat) (ps : List (Nat × Value)) (H : AHeap) : Option (Value × AHeap) :=
  gd (Nat.ble (Nat.mul n es) 16777216) (obind (afill (fun k => some (Nat.mul k es, es)) ps (repL z n)) fun cs => some (.slice (some ⟨H.next, 0, none⟩) n n, H.new (rowOf e cs)))
/-- a struct that is written out. -/
noncomputable def bld (pl : List (Nat × Nat)) (z : List Value) (ps : List (Nat × Value)) : Option Value := obind (afill (nth pl) ps z) fun cs => some (.agg ⟨cs⟩)
theorem PU.of {o : Option Value} {v : Value} {K : Value → Prop} (h : o = some v) (k : K v) : PU o K := by rw [h]; exact k
theorem ME.of {o : Option (Value × AHeap)} {v : Value} {H : AHeap} {K : Value → AHeap → Prop} (h : o = some (v, H)) (k : K v H) : ME o K := by rw [h]; exact k
theorem setL_all : ∀ (vs : List Value) (k : Nat) (cs : List Value), k + vs.length ≤ cs.length → setL vs k cs = splice cs k vs := by
  intro vs
  induction vs with
  | nil =>
    intro k cs h
    show cs = _
    unfold splice; simp
  | cons v vs ih =>
    intro k cs h
    have hset : ∀ (k : Nat) (cs : List Value), setAt v k cs = cs.set k v := by
      intro k
      induction k with
      | zero => intro cs; cases cs <;> rfl
      | succ k ihk => intro cs; cases cs with
        | nil => rfl
        | cons c cs => exact congrArg (c :: ·) (ihk cs)
    show setL vs (Nat.succ k) (setAt v k cs) = _
    simp only [List.length_cons] at h
    rw [hset, ih (k + 1) _ (by simp; omega)]
    apply List.ext_getElem?
    intro i
    rw [splice_get (by simp; omega), splice_get (by simp; omega), List.getElem?_set]
    by_cases h1 : i = k
    · subst h1
      rw [if_neg (by omega), if_pos rfl, if_pos (by omega), if_pos ⟨Nat.le_refl _, by simp⟩]
      simp
    · by_cases h2 : k + 1 ≤ i ∧ i < k + 1 + vs.length
      · rw [if_pos h2, if_pos (by simp; omega), show i - k = (i - (k + 1)) + 1 by omega]; simp
      · rw [if_neg h2, if_neg (fun e => h1 e.symm), if_neg (by simp only [List.length_cons]; omega)]
theorem splice_whole (cs vs : List Value) (h : cs.length = vs.length) : splice cs 0 vs = vs := by
  unfold splice
  rw [List.drop_of_length_le (by omega)]; simp
/-- a slice of one element. -/
theorem bS_one {e : TypeId} {z : List Value} {es : Nat} {v : Value} {H : AHeap} (hz : z.length = es) (hv : notTop v = true) (hc : (cellsL v).length = es) (he : es ≤ 16777216) :
    bS e z es 1 [(0, v)] H = some (.slice (some ⟨H.next, 0, none⟩) 1 1, H.new (rowOf e (cellsL v))) := by
  have hr : repL z 1 = z := by show app z [] = z; rw [app_eq, List.append_nil]
  unfold bS
  rw [Nat.ble_eq_true_of_le (by show 1 * es ≤ _; omega), hr]
  show (obind (gd (notTop v && Nat.beq (len (cellsL v)) es && Nat.ble (Nat.add (Nat.mul 0 es) es) (len z)) (some (setL (cellsL v) (Nat.mul 0 es) z))) fun cs => some (Value.slice (some ⟨H.next, 0, none⟩) 1 1, H.new (rowOf e cs))) = _
  have e0 : Nat.mul 0 es = 0 := Nat.zero_mul es
  rw [hv, len_eq, hc, Nat.beq_refl, len_eq, hz, e0]
  rw [show Nat.ble (Nat.add 0 es) es = true from Nat.ble_eq_true_of_le (by show 0 + es ≤ es; omega), setL_all _ _ _ (by omega), splice_whole _ _ (by omega)]
  rfl

/-! ### adding -/
theorem appended_bk {H : AHeap} {r es k c : Nat} {ty : TypeId} {xs : List Value} (h : Bk H r ty xs) (hk : xs.length = k * es) : appended H es (.slice (some ⟨r, 0, none⟩) k c) = some (k, xs) := by
  show (obind (H.read r 0 (Nat.mul k es)) fun l => some (k, l)) = _
  have : H.read r 0 (Nat.mul k es) = some xs := by
    rw [h.read (by show 0 + k * es ≤ _; omega)]
    simp only [List.drop_zero]
    rw [List.take_of_length_le (by show xs.length ≤ k * es; omega)]
  rw [this]; rfl
/-- to nothing: a new block. -/
theorem apA_nil {H : AHeap} {e : TypeId} {es k : Nat} {x : Value} {xs : List Value} (ha : appended H es x = some (k + 1, xs)) (hk : k + 1 ≤ 16777216) :
    apA e es (.slice none 0 0) x H = some (.slice (some ⟨H.next, 0, none⟩) (k + 1) (capU es), H.new (rowOf e xs)) := by
  unfold apA
  show (obind (appended H es x) fun r => gd (Nat.ble r.1 16777216) (appTo (e, es) (.slice none 0 0) (none, 0, 0) r.1 r.2 H)) = _
  rw [ha]
  show gd (Nat.ble (k + 1) 16777216) _ = _
  rw [Nat.ble_eq_true_of_le hk]; rfl
theorem wcapU_not (es : Nat) : knownCap (capU es) = false := by
  show Nat.ble (18446744073709551616 + es) 9223372036854775807 = false
  rw [← Bool.not_eq_true]; intro h; have := Nat.le_of_ble_eq_true h; omega
/-- to a block of its own: it grows, or what lies behind is written over. -/
theorem apA_own {H : AHeap} {e : TypeId} {es k n r : Nat} {x : Value} {cs junk xs : List Value} (he : 0 < es) (hb : Bk H r e (cs ++ junk)) (hr : r < H.next) (hn : cs.length = n * es) (ha : appended H es x = some (k + 1, xs)) (hx : xs.length = (k + 1) * es) (hok : all' okCell xs = true) (hk : k + 1 ≤ 16777216) (hnn : n ≤ 16777216) :
    ∃ r' H' junk', apA e es (.slice (some ⟨r, 0, none⟩) n (capU es)) x H = some (.slice (some ⟨r', 0, none⟩) (n + (k + 1)) (capU es), H') ∧ Bk H' r' e (cs ++ xs ++ junk') ∧ (r' = r ∨ r' = H.next) ∧ r' < H'.next ∧ Ex' [r] H H' ∧ (H'.low ≤ r) := by
  have hap : apA e es (.slice (some ⟨r, 0, none⟩) n (capU es)) x H = appUnknown (e, es) ⟨r, 0, none⟩ n (capU es) (k + 1) xs H := by
    unfold apA
    show (obind (appended H es x) fun q => gd (Nat.ble q.1 16777216) (appTo (e, es) (.slice (some ⟨r, 0, none⟩) n (capU es)) (some ⟨r, 0, none⟩, n, capU es) q.1 q.2 H)) = _
    rw [ha]
    show gd (Nat.ble (k + 1) 16777216) (gd (Nat.ble n 16777216) (bif' (knownCap (capU es)) _ (gd (Nat.beq (capU es) (capU es)) (appUnknown (e, es) ⟨r, 0, none⟩ n (capU es) (k + 1) xs H)))) = _
    rw [Nat.ble_eq_true_of_le hk, Nat.ble_eq_true_of_le hnn, wcapU_not, Nat.beq_refl]; rfl
  rw [hap]
  obtain ⟨R, h1, h2, h3, h4, h5, h6⟩ := id hb
  have hmul : (n + (k + 1)) * es = n * es + (k + 1) * es := Nat.add_mul ..
  have hlen : (cs ++ junk).length = n * es + junk.length := by rw [List.length_append, hn]
  have hun : appUnknown (e, es) ⟨r, 0, none⟩ n (capU es) (k + 1) xs H = bif' (Nat.ble (Nat.add 0 (Nat.mul (Nat.add n (k + 1)) es)) R.n)
      (obind (H.write r (Nat.add 0 (Nat.mul n es)) xs) fun H' => some (Value.slice (some ⟨r, 0, none⟩) (Nat.add n (k + 1)) (capU es), H'))
      (gd (Nat.ble (Nat.add 0 (Nat.mul n es)) R.n && Nat.ble R.fz (Nat.add 0 (Nat.mul n es)) && all' okCell xs)
        (some (Value.slice (some ⟨H.next, 0, none⟩) (Nat.add n (k + 1)) (capU es),
            (H.put r .dead).new (.row ⟨R.ty, Tr.ofL top xs (Nat.add 0 (Nat.mul n es)) R.cells, Nat.add 0 (Nat.mul (Nat.add n (k + 1)) es), false, R.fz⟩)))) := by
    unfold appUnknown
    show (obind (oRow (H.obj r)) _) = _
    rw [h1]
    show gd (Nat.beq R.ty e && !R.sealed') _ = _
    rw [h2, Nat.beq_refl, h4]; rfl
  rw [hun]
  have e1 : Nat.add 0 (Nat.mul n es) = n * es := Nat.zero_add _
  have e2 : Nat.add 0 (Nat.mul (Nat.add n (k + 1)) es) = n * es + (k + 1) * es := (Nat.zero_add _).trans hmul
  rw [e1, e2, h3, hlen]
  by_cases hc : n * es + (k + 1) * es ≤ n * es + junk.length
  · rw [Nat.ble_eq_true_of_le hc, bif_true]
    obtain ⟨H1, w1, w2, w3, w4, w5⟩ := hb.write (o := n * es) (vs := xs) (by rw [hlen]; omega) hok
    rw [w1]
    have hlow : H1.low ≤ r := by
      rcases w5 with w5 | w5
      · omega
      · -- xs is not empty: the write turns the block
        cases xs with
        | nil =>
          have h0 : 0 < (k + 1) * es := Nat.mul_pos (by omega) he
          rw [← hx] at h0; cases h0
        | cons v vs' =>
          have : H.write r (n * es) (v :: vs') = some (H.put r (.row ⟨R.ty, Tr.ofL top (v :: vs') (n * es) R.cells, R.n, false, R.fz⟩)) := by
            show (obind (oRow (H.obj r)) fun w => gd (!w.sealed' && Nat.ble (Nat.add (n * es) (len (v :: vs'))) w.n && Nat.ble w.fz (n * es) && all' okCell (v :: vs')) (some (H.put r (.row ⟨w.ty, Tr.ofL top (v :: vs') (n * es) w.cells, w.n, false, w.fz⟩)))) = _
            rw [h1]
            show gd (!R.sealed' && Nat.ble (Nat.add (n * es) (len (v :: vs'))) R.n && Nat.ble R.fz (n * es) && all' okCell (v :: vs')) _ = _
            rw [hok, h4, h3, h5, len_eq, Nat.ble_eq_true_of_le (by show n * es + (v :: vs').length ≤ _; rw [hlen]; omega), Nat.ble_eq_true_of_le (Nat.zero_le _)]; rfl
          rw [this] at w1
          cases w1
          rw [wlow_put]; omega
    refine ⟨r, H1, junk.drop xs.length, rfl, ?_, .inl rfl, by omega, ⟨by omega, fun q _ hq => w4 q (fun e => hq (by simp [e])), fun b hl _ hb => by
      have := hb r (by simp)
      rcases w5 with w5 | w5 <;> omega, fun h => by rcases w5 with w5 | w5 <;> omega⟩, hlow⟩
    have : splice (cs ++ junk) (n * es) xs = cs ++ xs ++ junk.drop xs.length := by
      unfold splice
      rw [← hn, List.take_left, List.drop_append, List.drop_of_length_le (by omega), List.nil_append, Nat.add_sub_cancel_left]
    rw [← this]; exact w2
  · have hb' : Nat.ble (n * es + (k + 1) * es) (n * es + junk.length) = false := by
      rw [← Bool.not_eq_true]; intro h; exact hc (Nat.le_of_ble_eq_true h)
    rw [hb', bif_false, Nat.ble_eq_true_of_le (by omega : n * es ≤ n * es + junk.length), h5, Nat.ble_eq_true_of_le (Nat.zero_le _), hok]
    refine ⟨H.next, _, [], rfl, ?_, .inr rfl, Nat.lt_succ_self _, ⟨Nat.le_succ _, fun q hq hn' => ?_, fun b hl hn' hb => ?_, fun h => ?_⟩, ?_⟩
    · refine ⟨⟨R.ty, Tr.ofL top xs (n * es) R.cells, n * es + (k + 1) * es, false, R.fz⟩, by rw [wobj_new, if_pos (show H.next = (H.put r AObj.dead).next from rfl), h5], h2, by simp; omega, rfl, h5, fun i hi => ?_⟩
      show (Tr.ofL top xs (n * es) R.cells).get top i = _
      rw [Tr.get_ofL]
      have hi' : i < n * es + (k + 1) * es := by simp at hi; omega
      by_cases hc' : n * es ≤ i ∧ i < n * es + xs.length
      · rw [if_pos hc', List.getD_eq_getElem?_getD, List.getElem?_eq_getElem (by omega)]
        simp only [List.append_nil, Option.getD_some]
        rw [List.getElem_append_right (by omega)]
        congr 1; omega
      · rw [if_neg hc']
        have hin : i < n * es := by omega
        rw [h6 i (by rw [hlen]; omega)]
        simp only [List.append_nil]
        rw [List.getElem_append_left (by omega), List.getElem_append_left (by omega)]
    · rw [wobj_new, if_neg (by show q ≠ H.next; omega), wobj_put, if_neg (fun e => hn' (by simp [e]))]
    · show b ≤ (H.put r AObj.dead).low
      rw [wlow_put]; have := hb r (by simp); omega
    · show (H.put r AObj.dead).low ≤ H.next + 1
      rw [wlow_put]; omega
    · show (H.put r AObj.dead).low ≤ r
      rw [wlow_put]; omega

/-! ### steps where the order is drawn -/
section steps
variable {H0 H : AHeap} {L : List Blk} {K : Value → AHeap → Prop}
theorem SH.calm (hS : SH S H0 H L) : SH S H0 (hM H (Go.Ae.hN H)) L := by rw [hM_hN hS.wf]; exact hS
theorem SH.ldD (hS : SH S H0 H L) (i : Nat) {r o : Nat} {ty : TypeId} {cs : List Value} {v : Value} (hi : L[i]? = some (r, ty, cs)) (hv : cs[o]? = some v) (k : SH S H0 (hM H (Go.Ae.hN H)) L → K v (Go.Ae.hN H)) : ME (ldW none (.pointer (some ⟨r, o, none⟩)) (Go.Ae.hN H)) K :=
  ME.ld (H := Go.Ae.hN H) ((hS.get i hi).cell hv) (k hS.calm)
theorem SH.ldND (hS : SH S H0 H L) (i : Nat) {r o n : Nat} {ty : TypeId} {cs : List Value} (hi : L[i]? = some (r, ty, cs)) (hn : o + n ≤ cs.length) (k : SH S H0 (hM H (Go.Ae.hN H)) L → K (.agg ⟨(cs.drop o).take n⟩) (Go.Ae.hN H)) : ME (ldW (some n) (.pointer (some ⟨r, o, none⟩)) (Go.Ae.hN H)) K :=
  ME.ldN (H := Go.Ae.hN H) ((hS.get i hi).read hn) (k hS.calm)
theorem SH.ldOD (hS : SH [] H0 H L) {r o : Nat} {v : Value} (h : H0.cell r o = some v) (hr : r < H0.next) (k : SH [] H0 (hM H (Go.Ae.hN H)) L → K v (Go.Ae.hN H)) : ME (ldW none (.pointer (some ⟨r, o, none⟩)) (Go.Ae.hN H)) K :=
  ME.ld (H := Go.Ae.hN H) ((hS.old hr).trans h) (k hS.calm)
theorem SH.ldNOD (hS : SH [] H0 H L) {r o n : Nat} {vs : List Value} (h : H0.read r o n = some vs) (hr : r < H0.next) (k : SH [] H0 (hM H (Go.Ae.hN H)) L → K (.agg ⟨vs⟩) (Go.Ae.hN H)) : ME (ldW (some n) (.pointer (some ⟨r, o, none⟩)) (Go.Ae.hN H)) K :=
  ME.ldN (H := Go.Ae.hN H) ((read_of_obj (hS.ext.obj r hr (by simp)) o n).trans h) (k hS.calm)
theorem SH.growD (hS : SH S H0 H L) (ty : TypeId) (cs : List Value) : SH S H0 (hM H ((Go.Ae.hN H).new (rowOf ty cs))) ((H.next, ty, cs) :: L) := by
  have hx : Ext (Go.Ae.hN H) ((Go.Ae.hN H).new (rowOf ty cs)) := Ext.new _ _
  refine SH.turn (A := []) (A' := [(H.next, ty, cs)]) hS hx.draw (fun e he => ?_) (List.pairwise_singleton _ _)
  rw [List.mem_singleton] at he
  subst he
  exact ⟨Bk.new (Go.Ae.hN H) ty cs, .inr (Nat.le_refl _), Nat.lt_succ_self _⟩
theorem SH.bSD (hS : SH S H0 H L) {e : TypeId} {z : List Value} {es : Nat} {v : Value} (hz : z.length = es) (hv : notTop v = true) (hc : (cellsL v).length = es) (he : es ≤ 16777216)
    (k : ∀ H1 r, SH S H0 (hM H H1) ((r, e, cellsL v) :: L) → clF H H1 = cl 5 → K (.slice (some ⟨r, 0, none⟩) 1 1) H1) : ME (bS e z es 1 [(0, v)] (Go.Ae.hN H)) K := by
  rw [bS_one hz hv hc he]
  exact k _ _ (hS.growD e _) (clF_new (Ext.new _ _))
theorem SH.bS (hS : SH S H0 H L) {e : TypeId} {z : List Value} {es : Nat} {v : Value} (hz : z.length = es) (hv : notTop v = true) (hc : (cellsL v).length = es) (he : es ≤ 16777216)
    (k : ∀ H1 r, SH S H0 H1 ((r, e, cellsL v) :: L) → K (.slice (some ⟨r, 0, none⟩) 1 1) H1) : ME (Go.Ae.bS e z es 1 [(0, v)] H) K := by
  rw [bS_one hz hv hc he]
  exact k _ _ (hS.grow e _)
end steps
end Go.Ae
