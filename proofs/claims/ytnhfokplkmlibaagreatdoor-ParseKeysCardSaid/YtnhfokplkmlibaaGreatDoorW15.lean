/-
  Slices that grow from a room that was asked for. No condition.
-/
import Derived.Test.YtnhfokplkmlibaaGreatDoorW14
set_option linter.unusedVariables false
set_option linter.unusedSimpArgs false
namespace Go.Ae
variable {S : List Nat}
/-- a slice that grows, or one with room of its own. -/
def GK (ty : TypeId) (es : Nat) (v : Value) (cs : List Value) (gb : List Blk) : Prop :=
  GB ty es v cs gb ∨ ∃ r n m junk, v = .slice (some ⟨r, 0, none⟩) n m ∧ m ≤ 16777216 ∧ cs.length = n * es ∧ (cs ++ junk).length = m * es ∧ gb = [(r, ty, cs ++ junk)]
theorem knownCap_small {m : Nat} (h : m ≤ 16777216) : knownCap m = true := Nat.ble_eq_true_of_le (by omega)
section steps
variable {H0 H : AHeap} {L : List Blk} {K : Value → AHeap → Prop} {ty : TypeId} {es : Nat} {v : Value} {cs xs : List Value} {gb : List Blk} {rx : Nat}
theorem GK.app (hg : GK ty es v cs gb) (hS : SH S H0 H ((rx, ty, xs) :: (gb ++ L))) {m : Nat} (he : 0 < es) (hx : xs.length = (m + 1) * es) (hok : all' okCell xs = true) (hm : m + 1 ≤ 16777216) (hc : cs.length ≤ 16777216) {cx : Nat} :
    ∃ v' H1 gb', apA ty es v (.slice (some ⟨rx, 0, none⟩) (m + 1) cx) H = some (v', H1) ∧ GK ty es v' (cs ++ xs) gb' ∧ SH S H0 H1 (gb' ++ L) ∧ Ex' (gb.map (·.1)) H H1 := by
  rcases hg with hg | ⟨r, n, mm, junk, rfl, hmm, hn, hj, rfl⟩
  · obtain ⟨v', H1, gb', h1, h2, h3, h4⟩ := hg.app (cx := cx) hS he hx hok hm hc
    exact ⟨v', H1, gb', h1, .inl h2, h3, h4⟩
  have hbx := hS.get 0 rfl
  have ha := appended_bk (k := m + 1) (c := cx) hbx hx
  have hS1 : SH S H0 H ([(r, ty, cs ++ junk)] ++ L) := SH.drop (A := [(rx, ty, xs)]) hS
  have hb := hS1.get 0 rfl
  have hnn : n ≤ 16777216 := by
    have : n * 1 ≤ n * es := Nat.mul_le_mul_left n he
    omega
  have hap : apA ty es (.slice (some ⟨r, 0, none⟩) n mm) (.slice (some ⟨rx, 0, none⟩) (m + 1) cx) H = appKnown (ty, es) ⟨r, 0, none⟩ n mm (m + 1) xs H := by
    unfold apA
    rw [ha]
    show gd (Nat.ble (m + 1) 16777216) (gd (Nat.ble n 16777216) (bif' (knownCap mm) (appKnown (ty, es) ⟨r, 0, none⟩ n mm (m + 1) xs H) _)) = _
    rw [Nat.ble_eq_true_of_le hm, Nat.ble_eq_true_of_le hnn, knownCap_small hmm]; rfl
  rw [hap]
  unfold appKnown
  show ∃ v' H1 gb', bif' (Nat.ble (n + (m + 1)) mm) (obind (H.write r (Nat.add 0 (n * es)) xs) fun H' => some (Value.slice (some ⟨r, 0, none⟩) (n + (m + 1)) mm, H')) (obind (H.read r 0 (n * es)) fun old => some (growTo ty es (n + (m + 1)) (Go.Ae.app old xs) H)) = some (v', H1) ∧ _
  rw [show Nat.add 0 (n * es) = n * es from Nat.zero_add _]
  have hmul : (n + (m + 1)) * es = n * es + (m + 1) * es := Nat.add_mul ..
  by_cases hfit : n + (m + 1) ≤ mm
  · rw [Nat.ble_eq_true_of_le hfit, bif_true]
    have hle : (n + (m + 1)) * es ≤ mm * es := Nat.mul_le_mul_right es hfit
    obtain ⟨H1, h1, h2, h3⟩ := hS1.writeAt (vs := xs) (o := n * es) 0 rfl (by omega) hok
    rw [h1]
    have hs : splice (cs ++ junk) (n * es) xs = cs ++ xs ++ junk.drop xs.length := by
      unfold splice
      rw [← hn, List.take_left, List.drop_append, List.drop_of_length_le (by omega), List.nil_append, Nat.add_sub_cancel_left]
    rw [hs] at h2
    refine ⟨_, H1, [(r, ty, cs ++ xs ++ junk.drop xs.length)], rfl, .inr ⟨r, n + (m + 1), mm, junk.drop xs.length, rfl, hmm, ?_, ?_, rfl⟩, h2, h3⟩
    · rw [List.length_append, hn, hx, hmul]
    · rw [← hs, splice_length (by omega)]; exact hj
  · rw [show Nat.ble (n + (m + 1)) mm = false from by rw [← Bool.not_eq_true]; intro h; exact hfit (Nat.le_of_ble_eq_true h), bif_false]
    have hrd : H.read r 0 (n * es) = some cs := by
      rw [hb.read (by simp; omega)]
      simp only [List.drop_zero]
      rw [← hn, List.take_left]
    rw [hrd]
    show ∃ v' H1 gb', some (growTo ty es (n + (m + 1)) (Go.Ae.app cs xs) H) = some (v', H1) ∧ _
    rw [app_eq]
    refine ⟨_, _, [(H.next, ty, cs ++ xs)], rfl, .inl (.inr ⟨H.next, n + (m + 1), [], rfl, ?_, by simp⟩), ?_, (Ext.new _ _).weaken (fun _ h => nomatch h)⟩
    · rw [List.length_append, hn, hx, hmul]
    · exact (SH.drop (A := [(r, ty, cs ++ junk)]) hS1).grow ty (cs ++ xs)
theorem GK.fl (hg : GK ty es v cs gb) (hS : SH S H0 H (gb ++ L)) : ∃ a n c, v = .slice a n c ∧ cs.length = n * es ∧ Fl H a n es cs := by
  rcases hg with hg | ⟨r, n, m, junk, rfl, hmm, hn, hj, rfl⟩
  · exact hg.fl hS
  · refine ⟨_, n, _, rfl, hn, hn, fun i x hi => ⟨r, 0, rfl, (hS.lo _ (List.mem_cons_self ..)).2, ?_⟩⟩
    rw [Nat.zero_add]
    refine (hS.get 0 rfl).cell ?_
    rw [List.getElem?_append_left (List.getElem?_eq_some_iff.1 hi).1]; exact hi
end steps
end Go.Ae
