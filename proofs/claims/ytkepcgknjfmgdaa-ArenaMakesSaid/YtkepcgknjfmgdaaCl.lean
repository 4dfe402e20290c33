/-
  Maker.Shut and slices.Clone at numbers: what they leave. Condition: fewer than 2^20 nodes.
-/
import Derived.Test.YtkepcgknjfmgdaaAd
import Derived.Deep.QuietTactic
import Derived.BigQuiet
import Derived.Test.YtkepcgknjfmgdaaLy
set_option linter.unusedVariables false
set_option linter.unusedSimpArgs false
namespace Go.Proofs.Ar
open Go.RowKit Go.Lib Go.Sort Go.Shelf

theorem ints_one (ks : List Nat) : ∀ u ∈ ints ks, u.oneCell' = true := by
  intro u hu
  unfold ints at hu
  rw [List.mem_map] at hu
  obtain ⟨k, _, rfl⟩ := hu
  rfl
theorem ints_length (ks : List Nat) : (ints ks).length = ks.length := by unfold ints; simp

/-- a clone of numbers reads as they do. -/
theorem clone_ints (ks : List Nat) (v : Value) (w : World) (h : Sees w w.heap.size v ks) (hk : ks.length < 1048576) :
    Calls Try.prog 24 #[v] w fun e w' => ∃ v', e = .returned v' ∧ (∀ b o, b < w.heap.size → w'.cell? ⟨b, o, none⟩ = w.cell? ⟨b, o, none⟩) ∧ Sees w' w'.heap.size v' ks ∧ (∀ g, v'.ownBlock = some g → w.heap.size ≤ g) ∧ Below w.heap.size w w' := by
  rcases h with ⟨rfl, rfl⟩ | ⟨g, cap, rfl, hg, hc⟩
  · refine (AnyE.slices_Clone_nil Try.lays24 0 0 w).mono ?_
    rintro e w' ⟨rfl, rfl⟩
    exact ⟨_, rfl, fun _ _ _ => rfl, .inl ⟨rfl, rfl⟩, fun g hg => by simp [Value.ownBlock] at hg, Below.refl _ _⟩
  · refine (AnyE.slices_Clone Try.lays24 i3 (.int .i64 0) 1 8 info3 zero3 size3 bytes3 (by rfl) (by omega) Try.sizeOf3 g 0 ks.length cap (ints ks) w (by rw [ints_length, Nat.mul_one]) (by unfold maxLen; omega) (by omega) ?_ (ints_one ks)).mono ?_
    · intro j u hu
      rw [ints_get] at hu
      cases hj : ks[j]? with
      | none => rw [hj] at hu; cases hu
      | some k =>
        rw [hj] at hu
        cases hu
        rw [Nat.zero_add]
        exact hc j k hj
    · rintro e w' ⟨v', rfl, h1, h2, h3⟩
      refine ⟨v', rfl, fun b o hb => h3.cell (p := ⟨b, o, none⟩) hb, ?_, fun g hg => (h1.lt g hg).1, h3⟩
      rcases h1.2 with ⟨e1, _⟩ | ⟨g', cap', cur, rfl, hb, hg', _⟩
      · exact absurd e1 h2
      · refine .inr ⟨g', cap', rfl, (Array.getElem?_eq_some_iff.1 hg').1, fun j k hj => ?_⟩
        have hjl : j < ks.length := (List.getElem?_eq_some_iff.1 hj).1
        rw [h1.cellAt j (by omega), ints_get, hj]
        rfl
end Go.Proofs.Ar
