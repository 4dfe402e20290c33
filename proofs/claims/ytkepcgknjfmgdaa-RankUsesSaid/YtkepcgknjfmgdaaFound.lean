/-
  One more use: who is used once more is found no further behind. Plain, but for the floats' order that is not asked here. Condition: the uses stay below 1000001.
-/
import Derived.Test.YtkepcgknjfmgdaaSort
set_option linter.unusedVariables false
set_option linter.unusedSimpArgs false
namespace Go.Proofs.Rk
open Go.Sort Go.Rk

def more (x : En) : En := { x with uses := max 0 (min x.uses 1073741824) + 1 }
theorem weight_more (x : En) (h : max 0 (min x.uses 1073741824) + 1 ≤ 1000000) : weight (more x) = weight x + 16 := by
  unfold weight more
  simp only
  omega

theorem get_toList (d : Array En) (i : Nat) (h : i < d.size) : d[i]! = d.toList[i]'(by simpa using h) := by
  rw [getElem!_pos d i h]; simp

theorem found (dx : Array En) (k : Nat) (hk : k < dx.size) (hs : SortedIn ahead 0 dx.size dx) (hu : max 0 (min (dx[k]!).uses 1073741824) + 1 ≤ 1000000) :
    ∃ i, i ≤ k ∧ (stable ahead dx.size (dx.setIfInBounds k (more dx[k]!)))[i]! = more dx[k]! := by
  obtain ⟨x, hx⟩ : ∃ x, x = dx[k]! := ⟨_, rfl⟩
  rw [← hx] at hu ⊢
  obtain ⟨m, hm⟩ : ∃ m, m = more x := ⟨_, rfl⟩
  have hw : weight m = weight x + 16 := by rw [hm]; exact weight_more x hu
  rw [← hm]
  obtain ⟨dm, hdm⟩ : ∃ d, d = dx.setIfInBounds k m := ⟨_, rfl⟩
  rw [← hdm]
  have hsz : dm.size = dx.size := by rw [hdm]; simp
  obtain ⟨⟨q1, _, q3⟩, q4, _⟩ := stable_ok swo_ahead dm
  rw [hsz] at q3 q4 q1
  obtain ⟨z, hz⟩ : ∃ z, z = stable ahead dx.size dm := ⟨_, rfl⟩
  rw [← hz] at q1 q3 q4 ⊢
  have hperm : z.toList.Perm dm.toList := by
    have e1 : (z.extract 0 dx.size).toList = z.toList := by rw [← q1]; simp
    have e2 : (dm.extract 0 dx.size).toList = dm.toList := by rw [← hsz]; simp
    rwa [e1, e2] at q3
  have hlz : z.toList.length = dx.size := by simpa using q1
  have hlm : dm.toList.length = dx.size := by simpa using hsz
  have gm : ∀ j (h : j < dx.size), dm.toList[j]'(by omega) = if j = k then m else dx[j]! := by
    intro j h
    have e : dm.toList[j]'(by omega) = dm[j]! := (get_toList dm j (by omega)).symm
    rw [e, hdm]
    by_cases c : j = k
    · subst c; rw [if_pos rfl, getElem!_set_same dx j m h]
    · rw [if_neg c, getElem!_set_other dx k j m c]
  apply Classical.byContradiction
  intro hno
  have hno2 : ∀ i, i ≤ k → z[i]! ≠ m := fun i hi he => hno ⟨i, hi, he⟩
  let p : En → Bool := fun e => !(ahead m e) && decide (e ≠ m)
  have c1 : dm.toList.countP p ≤ k := by
    rw [← List.take_append_drop k dm.toList, List.countP_append]
    have d0 : (dm.toList.drop k).countP p = 0 := by
      rw [List.countP_eq_zero]
      intro e he
      obtain ⟨j, hj, rfl⟩ := List.getElem_of_mem he
      rw [List.length_drop] at hj
      rw [List.getElem_drop, gm (k + j) (by omega)]
      by_cases c : j = 0
      · subst c; simp [p]
      · rw [if_neg (by omega)]
        have h1 := hs k (k + j) (Nat.zero_le _) (by omega) (by omega)
        have h2 : ahead m dx[k + j]! = true := by
          rw [← hx] at h1
          unfold ahead at h1 ⊢
          simp at h1 ⊢
          left
          omega
        simp [p, h2]
    have d1 : (dm.toList.take k).countP p ≤ k := Nat.le_trans (List.countP_le_length) (by rw [List.length_take]; omega)
    omega
  have c2 : z.toList.countP p ≤ k := by rw [hperm.countP_eq]; exact c1
  have hmem : m ∈ z.toList := by
    rw [hperm.mem_iff]
    have := gm k hk
    rw [if_pos rfl] at this
    rw [← this]
    exact List.getElem_mem _
  obtain ⟨q, hq, hqm⟩ := List.getElem_of_mem hmem
  have hqk : k < q := by
    apply Classical.byContradiction
    intro hle
    exact hno2 q (by omega) (by rw [get_toList z q (by omega)]; exact hqm)
  have c3 : k + 1 ≤ z.toList.countP p := by
    rw [← List.take_append_drop (k + 1) z.toList, List.countP_append]
    have : (z.toList.take (k + 1)).countP p = k + 1 := by
      rw [List.countP_eq_length.2, List.length_take]
      · omega
      · intro e he
        obtain ⟨j, hj, rfl⟩ := List.getElem_of_mem he
        rw [List.length_take] at hj
        rw [List.getElem_take]
        have h1 := q4 j q (Nat.zero_le _) (by omega) (by omega)
        rw [get_toList z q (by omega), hqm, get_toList z j (by omega)] at h1
        have h2 := hno2 j (by omega)
        rw [get_toList z j (by omega)] at h2
        show (!(ahead m z.toList[j]) && decide (z.toList[j] ≠ m)) = true
        rw [h1, decide_eq_true h2]
        rfl
    omega
  omega
end Go.Proofs.Rk
