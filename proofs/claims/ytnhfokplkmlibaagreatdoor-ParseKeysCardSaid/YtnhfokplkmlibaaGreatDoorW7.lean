/-
  Slices that grow, with their blocks. No condition.
-/
import Derived.Test.YtnhfokplkmlibaaGreatDoorW6
set_option linter.unusedVariables false
set_option linter.unusedSimpArgs false
namespace Go.Ae
variable {S : List Nat}

/-- a slice that grows: nil, or the head of a block of its own. -/
def GB (ty : TypeId) (es : Nat) (v : Value) (cs : List Value) (gb : List Blk) : Prop :=
  (v = .slice none 0 0 ∧ cs = [] ∧ gb = []) ∨ ∃ r n junk, v = .slice (some ⟨r, 0, none⟩) n (capU es) ∧ cs.length = n * es ∧ gb = [(r, ty, cs ++ junk)]
theorem GB.nil (ty : TypeId) (es : Nat) : GB ty es (.slice none 0 0) [] [] := .inl ⟨rfl, rfl, rfl⟩
section steps
variable {H0 H : AHeap} {L : List Blk} {K : Value → AHeap → Prop} {ty : TypeId} {es : Nat} {v : Value} {cs xs : List Value} {gb : List Blk} {rx : Nat}
theorem clC_two {H H' : AHeap} (h : H'.low < H.next) : clC H H' = ⟨2, 0, 0, 0, H, H'⟩ := by
  show bif' (Nat.ble H.next H'.low) _ _ = _
  rw [show Nat.ble H.next H'.low = false from by rw [← Bool.not_eq_true]; intro g; have := Nat.le_of_ble_eq_true g; omega]; rfl
theorem GB.app (hg : GB ty es v cs gb) (hS : SH S H0 H ((rx, ty, xs) :: (gb ++ L))) {m : Nat} (he : 0 < es) (hx : xs.length = (m + 1) * es) (hok : all' okCell xs = true) (hm : m + 1 ≤ 16777216) (hc : cs.length ≤ 16777216) {cx : Nat} :
    ∃ v' H1 gb', apA ty es v (.slice (some ⟨rx, 0, none⟩) (m + 1) cx) H = some (v', H1) ∧ GB ty es v' (cs ++ xs) gb' ∧ SH S H0 H1 (gb' ++ L) ∧ Ex' (gb.map (·.1)) H H1 := by
  have hbx := hS.get 0 rfl
  have ha := appended_bk (k := m + 1) (c := cx) hbx hx
  have hS1 : SH S H0 H (gb ++ L) := SH.drop (A := [(rx, ty, xs)]) hS
  rcases hg with ⟨rfl, rfl, rfl⟩ | ⟨r, n, junk, rfl, hn, rfl⟩
  · refine ⟨_, _, [(H.next, ty, xs)], apA_nil ha hm, .inr ⟨H.next, m + 1, [], rfl, hx, by simp⟩, hS1.grow ty xs, Ext.new _ _⟩
  · have hb := hS1.get 0 rfl
    have hr := (hS1.lo _ (List.mem_cons_self ..)).2
    have hnn : n ≤ 16777216 := by
      have : n * 1 ≤ n * es := Nat.mul_le_mul_left n he
      omega
    obtain ⟨r', H1, junk', h1, h2, h3, h4, h5, h6⟩ := apA_own he hb hr hn ha hx hok hm hnn
    refine ⟨_, H1, [(r', ty, cs ++ xs ++ junk')], h1, .inr ⟨r', n + (m + 1), junk', rfl, ?_, rfl⟩, ?_, h5⟩
    · rw [List.length_append, hn, hx, ← Nat.add_mul]
    · refine SH.turn (A := [(r, ty, cs ++ junk)]) hS1 h5 (fun e he' => ?_) (List.pairwise_singleton _ _)
      rw [List.mem_singleton] at he'
      subst he'
      refine ⟨h2, ?_, h4⟩
      rcases h3 with h3 | h3
      · exact .inl (by simp [h3])
      · exact .inr (by show H.next ≤ r'; omega)
/-- one step of adding. -/
theorem GB.add (hg : GB ty es v cs gb) (hS : SH S H0 H ((rx, ty, xs) :: (gb ++ L))) (he : 0 < es) (hx : xs.length = es) (hok : all' okCell xs = true) (hc : cs.length ≤ 16777216) {cx : Nat}
    (k : ∀ v' H1 gb', GB ty es v' (cs ++ xs) gb' → SH S H0 H1 (gb' ++ L) → Ex' (gb.map (·.1)) H H1 → K v' H1) : ME (apA ty es v (.slice (some ⟨rx, 0, none⟩) 1 cx) H) K := by
  obtain ⟨v', H1, gb', h1, h2, h3, h4⟩ := hg.app (m := 0) (cx := cx) hS he (by omega) hok (by omega) hc
  rw [h1]
  exact k v' H1 gb' h2 h3 h4
theorem SH.of_hN (hS : SH S H0 H L) : SH S (Go.Ae.hN H0) (Go.Ae.hN H) L :=
  ⟨⟨hS.ext.next, hS.ext.obj, fun b hl hn _ => Nat.le_trans hn hS.ext.next, fun _ => Nat.le_refl _⟩, hS.bk, hS.lo, hS.ne, Nat.le_refl _⟩
/-- the same where the order is drawn. -/
theorem GB.addD (hg : GB ty es v cs gb) (hS : SH S H0 H ((rx, ty, xs) :: (gb ++ L))) (he : 0 < es) (hx : xs.length = es) (hok : all' okCell xs = true) (hc : cs.length ≤ 16777216) {cx : Nat}
    (k : ∀ v' H1 gb', GB ty es v' (cs ++ xs) gb' → SH S H0 (hM H H1) (gb' ++ L) → Ex' (gb.map (·.1)) H (hM H H1) → (∀ r, r < H.next → r ∉ gb.map (·.1) → H1.obj r = H.obj r) → (clC H H1 = cl 1 ∨ clC H H1 = ⟨2, 0, 0, 0, H, H1⟩) → K v' H1) : ME (apA ty es v (.slice (some ⟨rx, 0, none⟩) 1 cx) (Go.Ae.hN H)) K := by
  have hS' : SH [] (Go.Ae.hN H) (Go.Ae.hN H) [] := SH.refl (Nat.le_refl _)
  have hbx := hS.get 0 rfl
  have ha : appended (Go.Ae.hN H) es (.slice (some ⟨rx, 0, none⟩) (0 + 1) cx) = some (0 + 1, xs) := appended_bk (H := Go.Ae.hN H) (k := 0 + 1) hbx (by omega)
  have hS1 : SH S H0 H (gb ++ L) := SH.drop (A := [(rx, ty, xs)]) hS
  have hcls : ∀ H1 : AHeap, clC H H1 = cl 1 ∨ clC H H1 = ⟨2, 0, 0, 0, H, H1⟩ := by
    intro H1
    show bif' (Nat.ble H.next H1.low) _ _ = _ ∨ bif' (Nat.ble H.next H1.low) _ _ = _
    cases Nat.ble H.next H1.low with
    | true => exact .inl rfl
    | false => exact .inr rfl
  rcases hg with ⟨rfl, rfl, rfl⟩ | ⟨r, n, junk, rfl, hn, rfl⟩
  · rw [show apA ty es (.slice none 0 0) (.slice (some ⟨rx, 0, none⟩) 1 cx) (Go.Ae.hN H) = _ from apA_nil ha (by omega)]
    have hx' : Ext (Go.Ae.hN H) ((Go.Ae.hN H).new (rowOf ty xs)) := Ext.new _ _
    exact k _ _ [(H.next, ty, xs)] (.inr ⟨H.next, 1, [], rfl, by simp; omega, by simp⟩) (hS1.growD ty xs) hx'.draw (fun q hq hn' => hx'.obj q hq (by simp)) (hcls _)
  · have hb : Bk (Go.Ae.hN H) r ty (cs ++ junk) := hS1.get 0 rfl
    have hr := (hS1.lo _ (List.mem_cons_self ..)).2
    have hnn : n ≤ 16777216 := by
      have : n * 1 ≤ n * es := Nat.mul_le_mul_left n he
      omega
    obtain ⟨r', H1, junk', h1, h2, h3, h4, h5, h6⟩ := apA_own he hb hr hn ha (by omega) hok (by omega) hnn
    rw [show apA ty es (.slice (some ⟨r, 0, none⟩) n (capU es)) (.slice (some ⟨rx, 0, none⟩) 1 cx) (Go.Ae.hN H) = _ from h1]
    refine k _ H1 [(r', ty, cs ++ xs ++ junk')] (.inr ⟨r', n + (0 + 1), junk', rfl, ?_, rfl⟩) ?_ h5.draw (fun q hq hn' => h5.obj q hq hn') (hcls _)
    · rw [List.length_append, hn, hx, Nat.add_mul]; omega
    · refine SH.turn (A := [(r, ty, cs ++ junk)]) hS1 h5.draw (fun e he' => ?_) (List.pairwise_singleton _ _)
      rw [List.mem_singleton] at he'
      subst he'
      refine ⟨h2, ?_, h4⟩
      rcases h3 with h3 | h3
      · exact .inl (by simp [h3])
      · exact .inr (by show H.next ≤ r'; rw [h3]; exact Nat.le_refl _)
/-- what a grown slice reads as. -/
theorem GB.fl (hg : GB ty es v cs gb) (hS : SH S H0 H (gb ++ L)) : ∃ a n c, v = .slice a n c ∧ cs.length = n * es ∧ Fl H a n es cs := by
  rcases hg with ⟨rfl, rfl, rfl⟩ | ⟨r, n, junk, rfl, hn, rfl⟩
  · exact ⟨none, 0, 0, rfl, by simp, Fl.nil _ _ _⟩
  · refine ⟨_, n, _, rfl, hn, hn, fun i x hi => ⟨r, 0, rfl, (hS.lo _ (List.mem_cons_self ..)).2, ?_⟩⟩
    rw [Nat.zero_add]
    refine (hS.get 0 rfl).cell ?_
    rw [List.getElem?_append_left (List.getElem?_eq_some_iff.1 hi).1]; exact hi
theorem GB.okCell (hg : GB ty es v cs gb) : all' Go.Ae.okCell (cellsL v) = true ∧ (cellsL v).length = 1 ∧ cellsL v = [v] := by
  rcases hg with ⟨rfl, _, _⟩ | ⟨r, n, junk, rfl, _, _⟩ <;> exact ⟨rfl, rfl, rfl⟩
end steps
/-- what is read twice alike. -/
theorem sameAt_of {A B : AHeap} {r off n : Nat} {vs : List Value} (ha : A.read r off n = some vs) (hb : B.read r off n = some vs) (hs : sameL vs vs = true) : sameAt A B r off n = true := by
  unfold sameAt
  rw [ha, hb]
  show oIsSome (gd (sameL vs vs) (some ())) = true
  rw [hs]; rfl
end Go.Ae
