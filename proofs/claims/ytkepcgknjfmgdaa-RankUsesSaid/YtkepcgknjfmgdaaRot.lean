/-
  rotate over a row of six-celled elements: what it leaves. Condition: a < m < b, within the row.
-/
import Derived.Test.YtkepcgknjfmgdaaSwap
set_option linter.unusedVariables false
set_option linter.unusedSimpArgs false
namespace Go.Proofs.Rk
open Go.Shelf Go.RowKit Go.Lib Go.Sort Go.Rk
variable {P : Program} {α : Type} [Inhabited α]

set_option maxHeartbeats 4000000 in
set_option maxRecDepth 1000000 in
theorem rotate_calls {k : Nat} (L : Lay P k) (enc : α → List Value) (g : Nat) (cb : Array Value) (blk off cap a m b : Nat) (d0 d : Array α) (w0 w : World)
    (R : RowK enc k w0 blk off d0) (hs : d0.size = d.size) (S : SWK enc k w0 blk off d w) (ham : a < m) (hmb : m < b) (hb : b ≤ d.size) (hsz : d.size < 4611686018427387904) :
    Calls P 42 #[.slice (some ⟨blk, off, none⟩) d.size cap, .int .i64 a, .int .i64 m, .int .i64 b, .func (.func g) #[] cb] w fun e w' => e = .returned (.tuple #[]) ∧ SWK enc k w0 blk off (rot m (m - a) (b - m) d) w' := by
  have mixed := L.mixed; have aE := L.aE; have zE := L.zE; have t0 := L.t0; have a0 := L.a0; have z0 := L.z0; have v0 := L.v0; have t3 := L.t3; have a3 := L.a3; have z3 := L.z3; have v3 := L.v3; have t4 := L.t4; have a4 := L.a4; have z4 := L.z4; have v4 := L.v4; have t22 := L.t22; have a22 := L.a22; have z22 := L.z22; have v22 := L.v22; have t53 := L.t53; have a53 := L.a53; have z53 := L.z53; have v53 := L.v53
  have e44 : ∀ args w, (callFunc 44 args).run P w = .ok (.enter 44 args) w := enters_of L.f44 (by kernel_rfl) rfl
  have S0 : Aside (SWK enc k w0 blk off d w) := S
  clear S
  go_enter L.f42, Try.ntmps42
  go_wp2
  go_loopg [10, 11] (b - a) (fun kx s10 s11 wr => ∃ (i j : Nat) (dk : Array α), s10 = .int .i64 i ∧ s11 = .int .i64 j ∧ 0 < i ∧ 0 < j ∧ i + j ≤ kx ∧ i ≤ m ∧ m + j ≤ d.size ∧ dk.size = d.size ∧ Aside (SWK enc k w0 blk off dk wr) ∧ Hid (rot m i j dk = rot m (m - a) (b - m) d))
  case atStart => exact ⟨m - a, b - m, d, by congr 1; omega, by congr 1; omega, by omega, by omega, by omega, by omega, by omega, rfl, S0, rfl⟩
  case round =>
    clear S0
    obtain ⟨i, j, dk, rfl, rfl, hi, hj, hkx, him, hmj, hds, S1, heq⟩ := hrel
    have c1 : (m : Int) - (i : Int) = ((m - i : Nat) : Int) := by omega
    by_cases hne : i = j
    · subst hne
      have hd : ((i : Int) != (i : Int)) = false := by simp
      have hc : Calls P 44 #[.slice (some ⟨blk, off, none⟩) d.size cap, .int .i64 ((m - i : Nat) : Int), .int .i64 (m : Int), .int .i64 (i : Int), .func (.func g) #[] cb] wr fun e w' => e = .returned (.tuple #[]) ∧ SWK enc k w0 blk off (swapRange (m - i) m i dk) w' := by
        have := swapRange_calls L enc g cb blk off cap (m - i) m i d0 dk w0 wr R (by omega) S1.out (by omega) (by omega) (by omega)
        rwa [hds] at this
      go_wp2_with (go_at_fn 44; refine hc.mono ?_; rintro e w1 ⟨rfl, S2⟩; have S3 : Aside _ := S2; clear S2)
      go_end0
      refine ⟨rfl, ?_⟩
      have := heq.out
      rw [← this, rot, if_neg (by omega), if_pos rfl]
      exact S3.out
    · have hd : ((i : Int) != (j : Int)) = true := by simp; omega
      by_cases hlt : j < i
      · have hltz : (j : Int) < (i : Int) := by omega
        have hc : Calls P 44 #[.slice (some ⟨blk, off, none⟩) d.size cap, .int .i64 ((m - i : Nat) : Int), .int .i64 (m : Int), .int .i64 (j : Int), .func (.func g) #[] cb] wr fun e w' => e = .returned (.tuple #[]) ∧ SWK enc k w0 blk off (swapRange (m - i) m j dk) w' := by
          have := swapRange_calls L enc g cb blk off cap (m - i) m j d0 dk w0 wr R (by omega) S1.out (by omega) (by omega) (by omega)
          rwa [hds] at this
        go_wp2_with (go_at_fn 44; refine hc.mono ?_; rintro e w1 ⟨rfl, S2⟩; have S3 : Aside _ := S2; clear S2)
        go_roundg (i - j + j)
        case measure => omega
        case rel =>
          refine ⟨i - j, j, swapRange (m - i) m j dk, by congr 1; omega, rfl, by omega, hj, by omega, by omega, by omega, by rw [swapRange, swapFrom_size]; exact hds, S3, ?_⟩
          show _ = _
          rw [← heq.out, rot.eq_def m i j, if_neg (by omega), if_neg hne, if_pos hlt]
      · have hltz : ¬ (j : Int) < (i : Int) := by omega
        have c2 : (m : Int) + (j : Int) - (i : Int) = ((m + j - i : Nat) : Int) := by omega
        have hc : Calls P 44 #[.slice (some ⟨blk, off, none⟩) d.size cap, .int .i64 ((m - i : Nat) : Int), .int .i64 ((m + j - i : Nat) : Int), .int .i64 (i : Int), .func (.func g) #[] cb] wr fun e w' => e = .returned (.tuple #[]) ∧ SWK enc k w0 blk off (swapRange (m - i) (m + j - i) i dk) w' := by
          have := swapRange_calls L enc g cb blk off cap (m - i) (m + j - i) i d0 dk w0 wr R (by omega) S1.out (by omega) (by omega) (by omega)
          rwa [hds] at this
        go_wp2_with (go_at_fn 44; refine hc.mono ?_; rintro e w1 ⟨rfl, S2⟩; have S3 : Aside _ := S2; clear S2)
        go_roundg (i + (j - i))
        case measure => omega
        case rel =>
          refine ⟨i, j - i, swapRange (m - i) (m + j - i) i dk, rfl, by congr 1; omega, hi, by omega, by omega, by omega, by omega, by rw [swapRange, swapFrom_size]; exact hds, S3, ?_⟩
          show _ = _
          rw [← heq.out, rot.eq_def m i j, if_neg (by omega), if_neg hne, if_neg hlt]
end Go.Proofs.Rk
