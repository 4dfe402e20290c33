/-
  symMerge where one of the two parts is of one element. Condition: a < m < b, within the row.
-/
import Derived.Test.YtkepcgknjfmgdaaRot
set_option linter.unusedVariables false
set_option linter.unusedSimpArgs false
namespace Go.Proofs.Rk
open Go.Shelf Go.RowKit Go.Lib Go.Sort Go.Rk
variable {P : Program} {α : Type} [Inhabited α]

theorem bs_go {p : Nat → Bool} {i j : Nat} (h : i < j) (hp : p ((i + j) / 2) = true) : bs p i j = bs p ((i + j) / 2 + 1) j := by rw [bs, if_pos h, if_pos hp]
theorem bs_stay {p : Nat → Bool} {i j : Nat} (h : i < j) (hp : p ((i + j) / 2) = false) : bs p i j = bs p i ((i + j) / 2) := by rw [bs, if_pos h, if_neg (by rw [hp]; simp)]
theorem bs_end {p : Nat → Bool} {i j : Nat} (h : ¬ i < j) : bs p i j = i := by rw [bs, if_neg h]

set_option maxHeartbeats 4000000 in
set_option maxRecDepth 1000000 in
theorem symMerge_first {k : Nat} (L : Lay P k) (enc : α → List Value) (cf : α → α → Int) (g : Nat) (cb : Array Value) (blk off cap a m b : Nat) (d0 d : Array α) (w0 w : World)
    (eg : ∀ args w, (callFunc g args).run P w = .ok (.enter g args) w) (hcmp : CmpLays P g cb enc k cf blk off d0.size w0)
    (R : RowK enc k w0 blk off d0) (hs : d0.size = d.size) (S : SWK enc k w0 blk off d w) (ham : m = a + 1) (hmb : m < b) (hb : b ≤ d.size) (hsz : d.size < 4611686018427387904) :
    Calls P 40 #[.slice (some ⟨blk, off, none⟩) d.size cap, .int .i64 a, .int .i64 m, .int .i64 b, .func (.func g) #[] cb] w fun e w' => e = .returned (.tuple #[]) ∧ SWK enc k w0 blk off (up a (bs (fun h => ltOf cf d[h]! d[a]!) m b - 1 - a) d) w' := by
  have mixed := L.mixed; have aE := L.aE; have zE := L.zE; have t0 := L.t0; have a0 := L.a0; have z0 := L.z0; have v0 := L.v0; have t3 := L.t3; have a3 := L.a3; have z3 := L.z3; have v3 := L.v3; have t4 := L.t4; have a4 := L.a4; have z4 := L.z4; have v4 := L.v4; have t22 := L.t22; have a22 := L.a22; have z22 := L.z22; have v22 := L.v22; have t53 := L.t53; have a53 := L.a53; have z53 := L.z53; have v53 := L.v53; have t85 := L.t85; have a85 := L.a85; have z85 := L.z85; have v85 := L.v85
  have HC : Aside _ := hcmp
  have S0 : Aside (SWK enc k w0 blk off d w) := S
  clear hcmp S
  have hm1 : (m : Int) - (a : Int) = 1 := by omega
  have HM : Hid (m = a + 1) := ham
  have hm2 : a + 1 ≤ m := by omega
  clear ham
  go_enter L.f40, Try.ntmps40
  go_wp2
  clear hm1
  go_loopg [10, 11] (b - m) (fun kx s10 s11 wr => ∃ (i j : Nat), s10 = .int .i64 i ∧ s11 = .int .i64 j ∧ m ≤ i ∧ i ≤ j ∧ j ≤ b ∧ j - i ≤ kx ∧ Aside (SWK enc k w0 blk off d wr) ∧ Hid (bs (fun h => ltOf cf d[h]! d[a]!) i j = bs (fun h => ltOf cf d[h]! d[a]!) m b))
  case atStart => exact ⟨m, b, rfl, rfl, Nat.le_refl _, by omega, Nat.le_refl _, Nat.le_refl _, S0, rfl⟩
  case round =>
    clear S0
    obtain ⟨i, j, rfl, rfl, hi, hij, hjb, hkx, S1, heq⟩ := hrel
    by_cases hlt : i < j
    · have hltz : (i : Int) < (j : Int) := by omega
      obtain ⟨h, hh⟩ : ∃ h : Nat, h = (i + j) / 2 := ⟨_, rfl⟩
      have hb1 : i ≤ h ∧ h < j := by omega
      obtain ⟨hb1, hb2⟩ := hb1
      have HH : Hid (h = (i + j) / 2) := hh
      have eh : ((i : Int) + (j : Int)) / 2 = (h : Int) := by omega
      clear hh
      go_wp2_with fail
      clear eh
      cases hL : ltOf cf d[h]! d[a]! with
      | true =>
        have ea5 : ((h : Nat) : Int).toNat = h := by omega
        have pa5 : (0 : Int) ≤ ((h : Nat) : Int) := by omega
        have ba5 : ((h : Nat) : Int) < (d.size : Int) := by omega
        have ec5 : ((a : Nat) : Int).toNat = a := by omega
        have pc5 : (0 : Int) ≤ ((a : Nat) : Int) := by omega
        have bc5 : ((a : Nat) : Int) < (d.size : Int) := by omega
        obtain ⟨x5, hx5⟩ : ∃ x, x = d[h]! := ⟨_, rfl⟩
        obtain ⟨y5, hy5⟩ : ∃ x, x = d[a]! := ⟨_, rfl⟩
        have l5a := S1.out.ld R (by omega) P (h) (by omega)
        have l5b := S1.out.ld R (by omega) P (a) (by omega)
        rw [← hx5] at l5a
        rw [← hy5] at l5b
        have hc5 := S1.out.cmp HC.out (by omega) x5 y5
        have hv5 : cf x5 y5 < 0 := by rw [hx5, hy5]; exact of_decide_eq_true hL
        have hd5 : decide (cf x5 y5 < 0) = true := decide_eq_true hv5
        have hL' : Hid _ := hL
        clear hx5 hy5 hL
        go_wp2_with fail
        go_quiet_grown (first | (go_at_fn g; refine Calls.grown_of (hc5 _ _)))
        have S2 : Aside (SWK enc k w0 blk off d (grow (wr.drewN nq) osq)) := S1.out.grown nq osq
        clear l5a l5b hc5 S1
        generalize grow (wr.drewN nq) osq = w2 at S2 ⊢
        clear nq osq
        go_wp2_with fail
        go_roundg (j - (h + 1))
        case measure => omega
        case rel => exact ⟨h + 1, j, by go_num, rfl, by omega, by omega, by omega, by omega, S2, (show _ = _ by rw [← heq.out, bs_go hlt (by rw [← HH.out]; exact hL'.out), HH.out])⟩
      | false =>
        have ea5 : ((h : Nat) : Int).toNat = h := by omega
        have pa5 : (0 : Int) ≤ ((h : Nat) : Int) := by omega
        have ba5 : ((h : Nat) : Int) < (d.size : Int) := by omega
        have ec5 : ((a : Nat) : Int).toNat = a := by omega
        have pc5 : (0 : Int) ≤ ((a : Nat) : Int) := by omega
        have bc5 : ((a : Nat) : Int) < (d.size : Int) := by omega
        obtain ⟨x5, hx5⟩ : ∃ x, x = d[h]! := ⟨_, rfl⟩
        obtain ⟨y5, hy5⟩ : ∃ x, x = d[a]! := ⟨_, rfl⟩
        have l5a := S1.out.ld R (by omega) P (h) (by omega)
        have l5b := S1.out.ld R (by omega) P (a) (by omega)
        rw [← hx5] at l5a
        rw [← hy5] at l5b
        have hc5 := S1.out.cmp HC.out (by omega) x5 y5
        have hv5 : ¬ cf x5 y5 < 0 := by rw [hx5, hy5]; exact of_decide_eq_false hL
        have hd5 : decide (cf x5 y5 < 0) = false := decide_eq_false hv5
        have hL' : Hid _ := hL
        clear hx5 hy5 hL
        go_wp2_with fail
        go_quiet_grown (first | (go_at_fn g; refine Calls.grown_of (hc5 _ _)))
        have S2 : Aside (SWK enc k w0 blk off d (grow (wr.drewN nq) osq)) := S1.out.grown nq osq
        clear l5a l5b hc5 S1
        generalize grow (wr.drewN nq) osq = w2 at S2 ⊢
        clear nq osq
        go_wp2_with fail
        go_roundg (h - i)
        case measure => omega
        case rel => exact ⟨i, h, rfl, rfl, by omega, by omega, by omega, by omega, S2, (show _ = _ by rw [← heq.out, bs_stay hlt (by rw [← HH.out]; exact hL'.out), HH.out])⟩
    · have hltz : ¬ (i : Int) < (j : Int) := by omega
      obtain ⟨q, hq⟩ : ∃ q : Nat, q = bs (fun h => ltOf cf d[h]! d[a]!) m b := ⟨_, rfl⟩
      have hqi : i = q := by rw [hq, ← heq.out, bs_end hlt]
      subst hqi
      have HQ : Hid _ := hq
      clear hq heq
      go_wp2
      go_loopg [13] (i - 1 - a) (fun ky s13 wr => ∃ (c : Nat) (dk : Array α), s13 = .int .i64 c ∧ a ≤ c ∧ c ≤ i - 1 ∧ i - 1 - c ≤ ky ∧ dk.size = d.size ∧ Aside (SWK enc k w0 blk off dk wr) ∧ Hid (up c (i - 1 - c) dk = up a (i - 1 - a) d))
      case atStart => exact ⟨a, d, rfl, Nat.le_refl _, by omega, Nat.le_refl _, rfl, S1, rfl⟩
      case round =>
        clear S1
        obtain ⟨c, dk, rfl, hac, hci, hky, hds, S1, heq⟩ := hrel
        by_cases hc : c < i - 1
        · have hcz : (c : Int) < (i : Int) - 1 := by omega
          go_wp2_with fail
          obtain ⟨y, hy⟩ : ∃ y : Nat, y = c + 1 := ⟨_, rfl⟩
          have HY : Hid (y = c + 1) := hy
          have ray : IntKind.i64.wrap ((c : Int) + 1) = (y : Int) := by rw [IntKind.wrap_i64]; omega
          have hyb : y < d.size := by omega
          clear hy
          have ea11 : ((c : Nat) : Int).toNat = c := by omega
          have pa11 : (0 : Int) ≤ ((c : Nat) : Int) := by omega
          have ba11 : ((c : Nat) : Int) < (d.size : Int) := by omega
          have ec11 : ((y : Nat) : Int).toNat = y := by omega
          have pc11 : (0 : Int) ≤ ((y : Nat) : Int) := by omega
          have bc11 : ((y : Nat) : Int) < (d.size : Int) := by omega
          have S2 : Aside (SWK enc k w0 blk off (swp dk c y) ((wr.drew.setCells blk (off + c * k) (enc dk[y]!)).setCells blk (off + y * k) (enc dk[c]!))) := S1.out.swapped R c y (by omega) (by omega)
          have l11a := S1.out.ld1 R (by omega) P c (by omega)
          have l11b := S1.out.ld1 R (by omega) P y (by omega)
          have s11a := S1.out.st1 R (by omega) P c (by omega) dk[y]!
          have s11b := S1.out.st2 R (by omega) P c y (by omega) (by omega) dk[y]! dk[c]!
          have n11a : (enc dk[c]!).length = k := R.hk _
          have n11b : (enc dk[y]!).length = k := R.hk _
          generalize enc dk[c]! = cI11 at S2 l11a s11b n11a
          generalize enc dk[y]! = cJ11 at S2 l11b s11a s11b n11b
          clear S1
          go_wp2_with fail
          go_big_region_o
          clear l11a l11b s11a s11b
          generalize (wr.drew.setCells blk (off + c * k) cJ11).setCells blk (off + y * k) cI11 = w2 at S2 ⊢
          go_wp2
          go_roundg (i - 1 - (c + 1))
          case measure => have := HY.out; omega
          case rel => exact ⟨c + 1, swp dk c (c + 1), by (first | rw [HY.out] | (have hy := HY.out; congr 1; omega)), by omega, by omega, by omega, by rw [size_swp]; exact hds, (by rw [HY.out] at S2; exact S2), (show _ = _ by rw [← heq.out, show i - 1 - c = i - 1 - (c + 1) + 1 by omega, up])⟩
        · have hcz : ¬ (c : Int) < (i : Int) - 1 := by omega
          go_wp2
          (try simp only [Exit.inBlock, Exit.then])
          refine bodyPost_ret (results_none rfl _ _ _) rfl ?_
          refine ⟨rfl, ?_⟩
          rw [← HQ.out]
          have e : i - 1 - c = 0 := by omega
          have := heq.out
          rw [e] at this
          rw [← this]
          exact S1.out
end Go.Proofs.Rk
