/-
  The stable sort's body: blocks by insertion, then merged. Condition: the row is shorter than 2^61.
-/
import Derived.Test.YtkepcgknjfmgdaaSymE
set_option linter.unusedVariables false
set_option linter.unusedSimpArgs false
namespace Go.Proofs.Rk
open Go.Shelf Go.RowKit Go.Lib Go.Sort Go.Rk
variable {P : Program} {α : Type} [Inhabited α]

/-- what insertionSortCmpFunc is asked for. -/
def InsAt (P : Program) (enc : α → List Value) (k : Nat) (cf : α → α → Int) (g : Nat) (cb : Array Value) (blk off cap : Nat) (d0 : Array α) (w0 : World) : Prop :=
  ∀ (a b : Nat) (d : Array α) (w : World), d0.size = d.size → SWK enc k w0 blk off d w → a ≤ b → b ≤ d.size →
    Calls P 39 #[.slice (some ⟨blk, off, none⟩) d.size cap, .int .i64 a, .int .i64 b, .func (.func g) #[] cb] w fun e w' => e = .returned (.tuple #[]) ∧ SWK enc k w0 blk off (Sort.insertionSort (ltOf cf) d a b) w'

theorem ins_at (enc : α → List Value) (cf : α → α → Int) (g : Nat) (cb : Array Value) (blk off cap : Nat) (d0 : Array α) (w0 : World)
    (eg : ∀ args w, (callFunc g args).run Try.prog w = .ok (.enter g args) w) (hcmp : CmpLays Try.prog g cb enc 6 cf blk off d0.size w0) (R : RowK enc 6 w0 blk off d0) (hO : SWO (ltOf cf)) (hsz : d0.size < 4611686018427387904) :
    InsAt Try.prog enc 6 cf g cb blk off cap d0 w0 := by
  intro a b d w hs S hab hb
  have hs' : (Sort.insertionSort (ltOf cf) d a b).size = d.size := (insertionSort_holds hO d a b hab hb).1.1
  have hC : CmpLays Try.prog g cb enc 6 cf blk off d.size w := fun m os dk hdk x y => by
    obtain ⟨n0, os0, rfl⟩ := S
    rw [sortWorldK_on enc 6 w0 blk off n0 m d dk os0 os R.hblk hdk]
    exact hcmp _ _ dk (by omega) x y
  refine (AnyQ.insertionSortCmpFunc Try.lays39 6 Try.isAgg26 Try.sizeOf26 enc R.hk R.h1 cf g cb blk off cap a b d w eg hC (S.holds R.hblk R.hH hs.symm) (S.lt R.hblk) hab hb (by omega)).mono ?_
  rintro e w' ⟨rfl, n, os, rfl⟩
  exact ⟨rfl, S.on R.hblk n _ os hs'⟩
theorem insB_go {lt : α → α → Bool} {n a : Nat} {d : Array α} (h : a + 20 ≤ n) : insB lt n a d = insB lt n (a + 20) (insertionSort lt d a (a + 20)) := by rw [insB, if_pos h]
theorem insB_end {lt : α → α → Bool} {n a : Nat} {d : Array α} (h : ¬ a + 20 ≤ n) : insB lt n a d = insertionSort lt d a n := by rw [insB, if_neg h]
theorem mrgB_go {lt : α → α → Bool} {n s a : Nat} {d : Array α} (hs : 0 < s) (h : a + 2 * s ≤ n) : mrgB lt n s a d = mrgB lt n s (a + 2 * s) (symMerge lt n a (a + s) (a + 2 * s) d) := by rw [mrgB, if_pos ⟨hs, h⟩]
theorem mrgB_end {lt : α → α → Bool} {n s a : Nat} {d : Array α} (h : ¬ a + 2 * s ≤ n) : mrgB lt n s a d = if a + s < n then symMerge lt n a (a + s) n d else d := by rw [mrgB, if_neg (by omega)]
theorem passes_go {lt : α → α → Bool} {n s : Nat} {d : Array α} (hs : 0 < s) (h : s < n) : passes lt n s d = passes lt n (2 * s) (mrgB lt n s 0 d) := by rw [passes, if_pos ⟨hs, h⟩]
theorem passes_end {lt : α → α → Bool} {n s : Nat} {d : Array α} (h : ¬ s < n) : passes lt n s d = d := by rw [passes, if_neg (by omega)]
theorem insS_size {lt : α → α → Bool} (hO : SWO lt) (d : Array α) (a b : Nat) (hab : a ≤ b) (hb : b ≤ d.size) : (insertionSort lt d a b).size = d.size := (insertionSort_holds hO d a b hab hb).1.1

set_option maxHeartbeats 8000000 in
set_option maxRecDepth 1000000 in
theorem stable_calls {k : Nat} (L : Lay P k) (enc : α → List Value) (cf : α → α → Int) (g : Nat) (cb : Array Value) (blk off cap : Nat) (d0 d : Array α) (w0 w : World)
    (eg : ∀ args w, (callFunc g args).run P w = .ok (.enter g args) w) (hcmp : CmpLays P g cb enc k cf blk off d0.size w0) (R : RowK enc k w0 blk off d0) (hs : d0.size = d.size) (S : SWK enc k w0 blk off d w) (hO : SWO (ltOf cf)) (hsz : d.size < 1152921504606846976)
    (hI : InsAt P enc k cf g cb blk off cap d0 w0) :
    Calls P 33 #[.slice (some ⟨blk, off, none⟩) d.size cap, .int .i64 d.size, .func (.func g) #[] cb] w fun e w' => e = .returned (.tuple #[]) ∧ SWK enc k w0 blk off (stable (ltOf cf) d.size d) w' := by
  have mixed := L.mixed; have aE := L.aE; have zE := L.zE; have t0 := L.t0; have a0 := L.a0; have z0 := L.z0; have v0 := L.v0; have t3 := L.t3; have a3 := L.a3; have z3 := L.z3; have v3 := L.v3; have t4 := L.t4; have a4 := L.a4; have z4 := L.z4; have v4 := L.v4; have t22 := L.t22; have a22 := L.a22; have z22 := L.z22; have v22 := L.v22; have t53 := L.t53; have a53 := L.a53; have z53 := L.z53; have v53 := L.v53
  have e39 : ∀ args w, (callFunc 39 args).run P w = .ok (.enter 39 args) w := enters_of L.f39 (by kernel_rfl) rfl
  have e40 : ∀ args w, (callFunc 40 args).run P w = .ok (.enter 40 args) w := enters_of L.f40 (by kernel_rfl) rfl
  have HC : Aside _ := hcmp
  have HI : Aside _ := hI
  have HM : Aside _ := symMerge_calls L enc cf g cb blk off cap d0 w0 eg hcmp R (by omega)
  have HO : Aside _ := hO
  have S0 : Aside (SWK enc k w0 blk off d w) := S
  obtain ⟨D, hD⟩ : ∃ D, D = stable (ltOf cf) d.size d := ⟨_, rfl⟩
  rw [← hD]
  have HD : Hid _ := hD
  obtain ⟨N, hN⟩ : ∃ N, N = d.size := ⟨_, rfl⟩
  have HN : Hid _ := hN
  have hNz : N < 1152921504606846976 := by omega
  rw [← hN]
  have HD0 : Hid (d0.size = N) := by show _ = _; omega
  clear hcmp S hI hO hD hN hs hsz
  go_enter L.f33, Try.ntmps33
  go_wp2
  go_loopg [7, 8] N (fun kx s7 s8 wr => ∃ (a : Nat) (dk : Array α), s7 = .int .i64 a ∧ s8 = .int .i64 ((a : Int) + 20) ∧ a ≤ N ∧ N - a ≤ kx ∧ Hid (dk.size = N) ∧ Aside (SWK enc k w0 blk off dk wr) ∧ Hid (insB (ltOf cf) N a dk = insB (ltOf cf) N 0 d))
  case atStart => exact ⟨0, d, rfl, rfl, Nat.zero_le _, Nat.le_refl _, HN.out.symm, S0, rfl⟩
  case round =>
    clear S0
    obtain ⟨a, dk, rfl, rfl, haN, hkx, hds, S1, heq⟩ := hrel
    by_cases hlt : a + 20 ≤ N
    · have hltz : (a : Int) + 20 ≤ (N : Int) := by omega
      have hc := HI.out a (a + 20) dk wr (by rw [hds.out, HD0.out]) S1.out (by omega) (by rw [hds.out]; exact hlt)
      rw [hds.out, show ((a + 20 : Nat) : Int) = (a : Int) + 20 by omega] at hc
      go_wp2_with (go_at_fn 39; refine hc.mono ?_; rintro ee w1 ⟨rfl, S2⟩; have S3 : Aside _ := S2; clear S2)
      go_roundg (N - (a + 20))
      case measure => omega
      case rel =>
        exact ⟨a + 20, insertionSort (ltOf cf) dk a (a + 20), by (congr 1 <;> omega), by (congr 1 <;> omega), hlt, Nat.le_refl _, (show _ = _ by rw [insS_size HO.out dk a (a + 20) (by omega) (by rw [hds.out]; exact hlt)]; exact hds.out), S3, (show _ = _ by rw [← heq.out, insB_go hlt])⟩
    · have hltz : ¬ (a : Int) + 20 ≤ (N : Int) := by omega
      have hc := HI.out a N dk wr (by rw [hds.out, HD0.out]) S1.out haN (by rw [hds.out]; exact Nat.le_refl _)
      rw [hds.out] at hc
      obtain ⟨di, hdi⟩ : ∃ di, di = insertionSort (ltOf cf) dk a N := ⟨_, rfl⟩
      rw [← hdi] at hc
      have HDI : Hid (D = passes (ltOf cf) N 20 di) := by
        show _ = _
        rw [HD.out, hdi, ← insB_end hlt, heq.out, stable, ← HN.out]
      have HSI : Hid (di.size = N) := by
        show _ = _
        rw [hdi, insS_size HO.out dk a N haN (by rw [hds.out]; exact Nat.le_refl _)]
        exact hds.out
      clear hdi heq hds S1
      go_wp2_with (go_at_fn 39; refine hc.mono ?_; rintro ee w1 ⟨rfl, S2⟩; have S3 : Aside _ := S2; clear S2)
      clear hc
      go_loopg [6] N (fun kx s6 wr => ∃ (s : Nat) (dk : Array α), s6 = .int .i64 s ∧ 0 < s ∧ s ≤ 2 * N + 20 ∧ N - s ≤ kx ∧ Hid (dk.size = N) ∧ Aside (SWK enc k w0 blk off dk wr) ∧ Hid (D = passes (ltOf cf) N s dk))
      case atStart => exact ⟨20, di, rfl, by omega, by omega, by omega, HSI, S3, HDI⟩
      case round =>
        clear S3 HSI HDI
        obtain ⟨s, dk, rfl, hs0, hsb, hkx2, hds, S1, HD1⟩ := hrel
        by_cases hsn : s < N
        · have hsz : (s : Int) < (N : Int) := by omega
          go_wp2_with fail
          go_loopg [7, 8] N (fun ky s7 s8 wr => ∃ (a : Nat) (dj : Array α), s7 = .int .i64 a ∧ s8 = .int .i64 ((a : Int) + 2 * (s : Int)) ∧ a ≤ N ∧ N - a ≤ ky ∧ Hid (dj.size = N) ∧ Aside (SWK enc k w0 blk off dj wr) ∧ Hid (mrgB (ltOf cf) N s a dj = mrgB (ltOf cf) N s 0 dk))
          case atStart => exact ⟨0, dk, rfl, by (congr 1; omega), Nat.zero_le _, Nat.le_refl _, hds, S1, rfl⟩
          case round =>
            clear S1
            obtain ⟨a, dj, rfl, rfl, haN, hky, hdj, S1, heq⟩ := hrel
            by_cases hlt : a + 2 * s ≤ N
            · have hltz : (a : Int) + 2 * (s : Int) ≤ (N : Int) := by omega
              have hc := HM.out N a (a + s) (a + 2 * s) dj _ (by omega) (by omega) (by rw [hdj.out]; exact hlt) (by omega) (by rw [hdj.out, HD0.out]) S1.out
              rw [hdj.out, show ((a + 2 * s : Nat) : Int) = (a : Int) + 2 * (s : Int) by omega, show ((a + s : Nat) : Int) = (a : Int) + (s : Int) by omega] at hc
              go_wp2_with (go_at_fn 40; refine hc.mono ?_; rintro ee w1 ⟨rfl, S2⟩; have S3 : Aside _ := S2; clear S2)
              go_roundg (N - (a + 2 * s))
              case measure => omega
              case rel =>
                exact ⟨a + 2 * s, symMerge (ltOf cf) N a (a + s) (a + 2 * s) dj, by (congr 1 <;> omega), by (congr 1 <;> omega), hlt, Nat.le_refl _, (show _ = _ by rw [symMerge_size]; exact hdj.out), S3, (show _ = _ by rw [← heq.out, mrgB_go hs0 hlt])⟩
            · have hltz : ¬ (a : Int) + 2 * (s : Int) ≤ (N : Int) := by omega
              by_cases hm : a + s < N
              · have hmz : (a : Int) + (s : Int) < (N : Int) := by omega
                have hc := HM.out N a (a + s) N dj _ (by omega) hm (by rw [hdj.out]; exact Nat.le_refl _) (by omega) (by rw [hdj.out, HD0.out]) S1.out
                rw [hdj.out, show ((a + s : Nat) : Int) = (a : Int) + (s : Int) by omega] at hc
                go_wp2_with (go_at_fn 40; refine hc.mono ?_; rintro ee w1 ⟨rfl, S2⟩; have S3 : Aside _ := S2; clear S2)
                go_roundg (N - 2 * s)
                case measure => omega
                case rel =>
                  exact ⟨2 * s, symMerge (ltOf cf) N a (a + s) N dj, by (congr 1; omega), by omega, by omega, Nat.le_refl _, (show _ = _ by rw [symMerge_size]; exact hdj.out), S3, (show _ = _ by rw [HD1.out, passes_go hs0 hsn, ← heq.out, mrgB_end hlt, if_pos hm])⟩
              · have hmz : ¬ (a : Int) + (s : Int) < (N : Int) := by omega
                go_wp2_with fail
                go_roundg (N - 2 * s)
                case measure => omega
                case rel =>
                  exact ⟨2 * s, dj, by (congr 1; omega), by omega, by omega, Nat.le_refl _, hdj, S1, (show _ = _ by rw [HD1.out, passes_go hs0 hsn, ← heq.out, mrgB_end hlt, if_neg hm])⟩
        · have hsz : ¬ (s : Int) < (N : Int) := by omega
          go_wp2
          go_end0
          refine ⟨rfl, ?_⟩
          rw [HD1.out, passes_end hsn]
          exact S1.out
end Go.Proofs.Rk
