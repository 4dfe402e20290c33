/-
  rank.Sort: the slice that it hands back. Condition: at least one entry, at most 2^20 of them.
-/
import Derived.Test.YtkepcgknjfmgdaaAhead
import Derived.Shelf.SlicesE.Clone
import Derived.Test.YtkepcgknjfmgdaaShelf
import Derived.Ground.SlgnProg
set_option linter.unusedVariables false
set_option linter.unusedSimpArgs false
namespace Go.Proofs.Rk
open Go.Shelf Go.RowKit Go.Lib Go.Sort Go.Rk

theorem swo_ahead : SWO ahead := by
  refine ⟨fun x => ?_, fun x y z h1 h2 => ?_, fun x y z h1 h2 => ?_⟩
  · simp [ahead]
  · unfold ahead at *
    generalize weight x = a at *; generalize weight y = b at *; generalize weight z = c at *
    generalize second x = a' at *; generalize second y = b' at *; generalize second z = c' at *
    simp at *
    omega
  · unfold ahead at *
    generalize weight x = a at *; generalize weight y = b at *; generalize weight z = c at *
    generalize second x = a' at *; generalize second y = b' at *; generalize second z = c' at *
    simp at *
    omega
theorem ltOf_cfE : ltOf cfE = ahead := by
  funext x y
  unfold ltOf cfE
  cases ahead x y with
  | true => rfl
  | false => cases ahead y x <;> rfl
theorem cmp_lays (blk off size : Nat) (w : World) : CmpLays Try.prog 21 #[] encE 6 cfE blk off size w := by
  intro m os dk _ x y
  exact (cmp_calls x y _).mono fun _ _ ⟨he, q, os', hq⟩ => ⟨he, q, os', hq⟩
theorem rowK_of {w : World} {g : Nat} {d : Array En} (h : HoldsK encE 6 w g 0 d) (hg : g < w.heap.size) : RowK encE 6 w g 0 d :=
  ⟨fun _ => rfl, by intro x v hv; simp [encE] at hv; rcases hv with rfl | rfl | rfl | rfl | rfl | rfl <;> rfl, h, hg⟩

theorem enter21 : ∀ args w, (callFunc 21 args).run Try.prog w = .ok (.enter 21 args) w := enters_of Try.func21 (by kernel_rfl) rfl

theorem stableFunc_calls (g cap : Nat) (d : Array En) (w : World) (hH : HoldsK encE 6 w g 0 d) (hg : g < w.heap.size) (hsz : d.size < 1048576) :
    Calls Try.prog 20 #[.slice (some ⟨g, 0, none⟩) d.size cap, .func (.func 21) #[] #[]] w fun e w' => e = .returned (.tuple #[]) ∧ SWK encE 6 w g 0 (stable ahead d.size d) w' := by
  have hc := stable_calls lay encE cfE 21 #[] g 0 cap d d w w enter21 (cmp_lays g 0 d.size w) (rowK_of hH hg) rfl (SWK.start hH) (by rw [ltOf_cfE]; exact swo_ahead) (by omega) (ins_at encE cfE 21 #[] g 0 cap d w enter21 (cmp_lays g 0 d.size w) (rowK_of hH hg) (by rw [ltOf_cfE]; exact swo_ahead) (by omega))
  rw [ltOf_cfE] at hc
  obtain ⟨D, hD⟩ : ∃ D, D = stable ahead d.size d := ⟨_, rfl⟩
  rw [← hD] at hc ⊢
  clear hD hH hg
  go_enter Try.func20, Try.ntmps20
  go_wp2_with (go_at_call 33; refine hc.mono ?_; rintro ee w1 ⟨rfl, S2⟩; have S3 : Aside _ := S2; clear S2)
  go_end0
  exact ⟨rfl, S3.out⟩


theorem SWK.below {w W : World} {g B : Nat} {d : Array En} (h : SWK encE 6 w g 0 d W) (hB : B ≤ g) (hBs : B ≤ w.heap.size) : Below B w W := by
  obtain ⟨n, os, rfl⟩ := h
  refine ⟨rfl, rfl, rfl, by rw [show (sortWorldK encE 6 w g 0 n d os).heap.size = (putRowK encE 6 (Sort.ahead w n) g 0 d).heap.size + os.size from size_grow _ _, size_putRowK]; exact Nat.le_add_right _ _, ?_⟩
  intro k hk
  show ((w.heap.modify g _) ++ os)[k]? = _
  rw [Array.getElem?_append_left (by simp; omega), Array.getElem?_modify, if_neg (by omega)]

/-- cells, one behind the other. -/
def flatE (d : Array En) : List Value := (flatK encE 6 d).toList
theorem flatE_length (d : Array En) : (flatE d).length = d.size * 6 := by unfold flatE; simp
theorem flatE_get (d : Array En) (j : Nat) (h : j < d.size * 6) : (flatE d)[j]? = some (flatK encE 6 d)[j]! := by
  unfold flatE
  have h' : j < (flatK encE 6 d).size := by simpa using h
  rw [Array.getElem?_toList, Array.getElem?_eq_getElem h', getElem!_pos (flatK encE 6 d) j h']
theorem flatE_one (d : Array En) : ∀ u ∈ flatE d, u.oneCell' = true := by
  intro u hu
  obtain ⟨j, hj, rfl⟩ := List.getElem_of_mem hu
  rw [flatE_length] at hj
  have h1 := flatE_get d j hj
  rw [List.getElem?_eq_getElem (by rw [flatE_length]; exact hj)] at h1
  injection h1 with h1
  rw [h1, get_flatK _ _ _ _ hj]
  have h6 : j % 6 < 6 := Nat.mod_lt _ (by omega)
  generalize j % 6 = r at h6
  generalize d[j / 6]! = x
  have : r = 0 ∨ r = 1 ∨ r = 2 ∨ r = 3 ∨ r = 4 ∨ r = 5 := by omega
  rcases this with rfl | rfl | rfl | rfl | rfl | rfl <;> rfl
/-- a row that the call owns. -/
theorem holds_of_owns {w : World} {base g n cap : Nat} {d : Array En} {v : Value} (h : w.ownsRow base 26 6 v n (flatE d)) (hv : v ≠ .slice none 0 0) (hn : n = d.size) :
    ∃ g cap, v = .slice (some ⟨g, 0, none⟩) d.size cap ∧ base ≤ g ∧ g < w.heap.size ∧ HoldsK encE 6 w g 0 d ∧ d.size ≤ cap ∧ cap ≤ maxLen := by
  obtain ⟨hl, h | ⟨g, cap, cur, rfl, hb, hg, hcap, hmax, hsz, htk⟩⟩ := h
  · exact absurd h.1 hv
  · subst hn
    refine ⟨g, cap, rfl, hb, (Array.getElem?_eq_some_iff.1 hg).1, ?_, hcap, hmax⟩
    intro j hj
    have hj' : j < d.size * 6 := by simpa using hj
    constructor
    · have h1 := flatE_get d j hj'
      rw [← htk, List.getElem?_take, if_pos hj', Array.getElem?_toList] at h1
      simp only [World.cell?, hg]
      simpa using h1
    · simp [World.frozen?, hg]

noncomputable def i26 : TypeInfo := (Try.prog.info? 26).getD default
noncomputable def z26 : Value := i26.zero.getD undef
theorem info26 : Try.prog.info? 26 = some i26 := by kernel_rfl
theorem zero26 : i26.zero = some z26 := by kernel_rfl
theorem size26 : i26.size = 6 := by kernel_rfl
theorem zcells26 : z26.cells.size = 6 := by kernel_rfl
theorem bytes26 : i26.bytes = 48 := by kernel_rfl

/-- the cells of a slice, at a place that may lie anywhere. -/
def Cells (w : World) (b off : Nat) (d : Array En) : Prop := ∀ j u, (flatE d)[j]? = some u → w.cell? ⟨b, off + j, none⟩ = some u
theorem Cells.of_holds {w : World} {g : Nat} {d : Array En} (h : HoldsK encE 6 w g 0 d) : Cells w g 0 d := by
  intro j u hu
  have hj : j < d.size * 6 := by
    have := (List.getElem?_eq_some_iff.1 hu).1
    rwa [flatE_length] at this
  rw [flatE_get d j hj] at hu
  cases hu
  exact (h j (by simpa using hj)).1

theorem clone_calls (b off c : Nat) (d : Array En) (w : World) (hsz : d.size < 1048576) (hc : Cells w b off d) :
    Calls Try.prog 19 #[.slice (some ⟨b, off, none⟩) d.size c] w fun e w' => ∃ g cap, e = .returned (.slice (some ⟨g, 0, none⟩) d.size cap) ∧ w.heap.size ≤ g ∧ g < w'.heap.size ∧ HoldsK encE 6 w' g 0 d ∧ d.size ≤ cap ∧ cap ≤ maxLen ∧ Below w.heap.size w w' := by
  refine (AnyE.slices_Clone Try.lays19 i26 z26 6 48 info26 zero26 size26 bytes26 zcells26 (by omega) Try.sizeOf26 b off d.size c (flatE d) w (flatE_length d) (by unfold maxLen; omega) (by omega) hc (flatE_one d)).mono ?_
  rintro e w' ⟨v', rfl, h1, h2, h3⟩
  obtain ⟨g, cap, rfl, a1, a2, a3, a4, a5⟩ := holds_of_owns (g := 0) (cap := 0) h1 h2 rfl
  exact ⟨g, cap, rfl, a1, a2, a3, a4, a5, h3⟩

theorem sort_calls (b off c : Nat) (d : Array En) (w : World) (hsz : d.size < 1048576) (hc : Cells w b off d) :
    Calls Try.prog 6 #[.slice (some ⟨b, off, none⟩) d.size c] w fun e w' => ∃ g cap, e = .returned (.slice (some ⟨g, 0, none⟩) d.size cap) ∧ w.heap.size ≤ g ∧ g < w'.heap.size ∧ HoldsK encE 6 w' g 0 (stable ahead d.size d) ∧ d.size ≤ cap ∧ cap ≤ maxLen ∧ Below w.heap.size w w' := by
  have h1 := clone_calls b off c d w hsz hc
  have h2 : ∀ (g cap : Nat) (w1 : World), HoldsK encE 6 w1 g 0 d → g < w1.heap.size → Calls Try.prog 20 #[.slice (some ⟨g, 0, none⟩) d.size cap, .func (.func 21) #[] #[]] w1 fun e w' => e = .returned (.tuple #[]) ∧ SWK encE 6 w1 g 0 (stable ahead d.size d) w' :=
    fun g cap w1 a b => stableFunc_calls g cap d w1 a b hsz
  have hss := (stable_ok swo_ahead d).1.1
  obtain ⟨D, hD⟩ : ∃ D, D = stable ahead d.size d := ⟨_, rfl⟩
  rw [← hD] at h2 hss ⊢
  have H2 : Aside _ := h2
  have HSS : Hid _ := hss
  clear hD hc h2 hss
  go_enter Try.func6, Try.ntmps6
  go_wp2_with (first | (go_at_call 19; refine h1.mono ?_; rintro ee w1 ⟨g, cap, rfl, b1, b2, b3, b4, b5, b6⟩; have B1 := Lib.hid b1; have B2 := Lib.hid b2; have B3 := Lib.hid b3; have B4 := Lib.hid b4; have B5 := Lib.hid b5; have B6 := Lib.hid b6; clear b1 b2 b3 b4 b5 b6) | (go_at_call 20; refine (H2.out _ _ _ B3.out B2.out).mono ?_; rintro ee w2 ⟨rfl, S2⟩; have S3 := Lib.hid S2; clear S2))
  go_ret
  refine ⟨g, cap, rfl, B1.out, S3.out.lt B2.out, S3.out.holds B2.out B3.out HSS.out, B4.out, B5.out, ?_⟩
  exact B6.out.trans (SWK.below S3.out B1.out B6.out.size)
end Go.Proofs.Rk
