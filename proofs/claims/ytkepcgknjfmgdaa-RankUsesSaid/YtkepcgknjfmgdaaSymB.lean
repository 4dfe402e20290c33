/-
  symMerge: the other ways, and the whole. Condition: a < m < b, within the row.
-/
import Derived.Test.YtkepcgknjfmgdaaSymA
import Derived.Deep.CutRange
set_option linter.unusedVariables false
set_option linter.unusedSimpArgs false
namespace Go.Proofs.Rk
open Go.Shelf Go.RowKit Go.Lib Go.Sort Go.Rk
variable {P : Program} {α : Type} [Inhabited α]

theorem symMerge_size {lt : α → α → Bool} : ∀ (f a m b : Nat) (d : Array α), (symMerge lt f a m b d).size = d.size := by
  intro f
  induction f with
  | zero => intro a m b d; rfl
  | succ f ih =>
    intro a m b d
    have ht : (turned lt a m b d).size = d.size := by
      unfold turned
      simp only
      split
      · exact rot_size _ _ _ _ _ (Nat.le_refl _)
      · rfl
    rw [symMerge]
    split
    · exact up_size _ _ _
    · split
      · exact down_size _ _ _
      · simp only
        split
        · rw [ih]
          split
          · rw [ih]; exact ht
          · exact ht
        · split
          · rw [ih]; exact ht
          · exact ht

set_option maxHeartbeats 4000000 in
set_option maxRecDepth 1000000 in
theorem symMerge_last {k : Nat} (L : Lay P k) (enc : α → List Value) (cf : α → α → Int) (g : Nat) (cb : Array Value) (blk off cap a m b : Nat) (d0 d : Array α) (w0 w : World)
    (eg : ∀ args w, (callFunc g args).run P w = .ok (.enter g args) w) (hcmp : CmpLays P g cb enc k cf blk off d0.size w0)
    (R : RowK enc k w0 blk off d0) (hs : d0.size = d.size) (S : SWK enc k w0 blk off d w) (ham : a + 1 < m) (hmb : b = m + 1) (hb : b ≤ d.size) (hsz : d.size < 4611686018427387904) :
    Calls P 40 #[.slice (some ⟨blk, off, none⟩) d.size cap, .int .i64 a, .int .i64 m, .int .i64 b, .func (.func g) #[] cb] w fun e w' => e = .returned (.tuple #[]) ∧ SWK enc k w0 blk off (down m (m - bs (fun h => !ltOf cf d[m]! d[h]!) a m) d) w' := by
  have mixed := L.mixed; have aE := L.aE; have zE := L.zE; have t0 := L.t0; have a0 := L.a0; have z0 := L.z0; have v0 := L.v0; have t3 := L.t3; have a3 := L.a3; have z3 := L.z3; have v3 := L.v3; have t4 := L.t4; have a4 := L.a4; have z4 := L.z4; have v4 := L.v4; have t22 := L.t22; have a22 := L.a22; have z22 := L.z22; have v22 := L.v22; have t53 := L.t53; have a53 := L.a53; have z53 := L.z53; have v53 := L.v53; have t85 := L.t85; have a85 := L.a85; have z85 := L.z85; have v85 := L.v85
  have HC : Aside _ := hcmp
  have S0 : Aside (SWK enc k w0 blk off d w) := S
  clear hcmp S
  have hm1 : ((m : Int) - (a : Int) == 1) = false := by simp; omega
  have hm2 : (b : Int) - (m : Int) = 1 := by omega
  have hms : m < d.size := by omega
  clear hmb
  obtain ⟨D, hD⟩ : ∃ D, D = down m (m - bs (fun h => !ltOf cf d[m]! d[h]!) a m) d := ⟨_, rfl⟩
  rw [← hD]
  have HD : Hid _ := hD
  clear hD
  go_enter L.f40, Try.ntmps40
  go_wp2
  clear hm1 hm2
  go_loopg [14, 15] (m - a) (fun kx s10 s11 wr => ∃ (i j : Nat), s10 = .int .i64 i ∧ s11 = .int .i64 j ∧ a ≤ i ∧ i ≤ j ∧ j ≤ m ∧ j - i ≤ kx ∧ Aside (SWK enc k w0 blk off d wr) ∧ Hid (bs (fun h => !ltOf cf d[m]! d[h]!) i j = bs (fun h => !ltOf cf d[m]! d[h]!) a m))
  case atStart => exact ⟨a, m, rfl, rfl, Nat.le_refl _, by omega, Nat.le_refl _, Nat.le_refl _, S0, rfl⟩
  case round =>
    clear S0
    obtain ⟨i, j, rfl, rfl, hi, hij, hjb, hkx, S1, heq⟩ := hrel
    by_cases hlt : i < j
    · have hltz : (i : Int) < (j : Int) := by omega
      obtain ⟨h, hh⟩ : ∃ h : Nat, h = (i + j) / 2 := ⟨_, rfl⟩
      have hb1 : i ≤ h ∧ h < j := by omega
      obtain ⟨hb1, hb2⟩ := hb1
      have HH : Hid (h = (i + j) / 2) := hh
      have eh : ((i : Int) + (j : Int)) / 2 = (h : Int) := by omega
      clear hh
      go_wp2_with fail
      clear eh
      cases hL : ltOf cf d[m]! d[h]! with
      | true =>
        have ea17 : ((m : Nat) : Int).toNat = m := by omega
        have pa17 : (0 : Int) ≤ ((m : Nat) : Int) := by omega
        have ba17 : ((m : Nat) : Int) < (d.size : Int) := by omega
        have ec17 : ((h : Nat) : Int).toNat = h := by omega
        have pc17 : (0 : Int) ≤ ((h : Nat) : Int) := by omega
        have bc17 : ((h : Nat) : Int) < (d.size : Int) := by omega
        obtain ⟨x17, hx17⟩ : ∃ x, x = d[m]! := ⟨_, rfl⟩
        obtain ⟨y17, hy17⟩ : ∃ x, x = d[h]! := ⟨_, rfl⟩
        have l17a := S1.out.ld R (by omega) P (m) (by omega)
        have l17b := S1.out.ld R (by omega) P (h) (by omega)
        rw [← hx17] at l17a
        rw [← hy17] at l17b
        have hc17 := S1.out.cmp HC.out (by omega) x17 y17
        have hv17 : cf x17 y17 < 0 := by rw [hx17, hy17]; exact of_decide_eq_true hL
        have hd17 : decide (cf x17 y17 < 0) = true := decide_eq_true hv17
        have hL' : Hid _ := hL
        clear hx17 hy17 hL
        go_wp2_with fail
        go_quiet_grown (first | (go_at_fn g; refine Calls.grown_of (hc17 _ _)))
        have S2 : Aside (SWK enc k w0 blk off d (grow (wr.drewN nq) osq)) := S1.out.grown nq osq
        clear l17a l17b hc17 S1
        generalize grow (wr.drewN nq) osq = w2 at S2 ⊢
        clear nq osq
        go_wp2_with fail
        go_roundg (h - i)
        case measure => omega
        case rel => exact ⟨i, h, rfl, rfl, by omega, by omega, by omega, by omega, S2, (show _ = _ by rw [← heq.out, bs_stay hlt (by rw [← HH.out, hL'.out]; rfl), HH.out])⟩
      | false =>
        have ea17 : ((m : Nat) : Int).toNat = m := by omega
        have pa17 : (0 : Int) ≤ ((m : Nat) : Int) := by omega
        have ba17 : ((m : Nat) : Int) < (d.size : Int) := by omega
        have ec17 : ((h : Nat) : Int).toNat = h := by omega
        have pc17 : (0 : Int) ≤ ((h : Nat) : Int) := by omega
        have bc17 : ((h : Nat) : Int) < (d.size : Int) := by omega
        obtain ⟨x17, hx17⟩ : ∃ x, x = d[m]! := ⟨_, rfl⟩
        obtain ⟨y17, hy17⟩ : ∃ x, x = d[h]! := ⟨_, rfl⟩
        have l17a := S1.out.ld R (by omega) P (m) (by omega)
        have l17b := S1.out.ld R (by omega) P (h) (by omega)
        rw [← hx17] at l17a
        rw [← hy17] at l17b
        have hc17 := S1.out.cmp HC.out (by omega) x17 y17
        have hv17 : ¬ cf x17 y17 < 0 := by rw [hx17, hy17]; exact of_decide_eq_false hL
        have hd17 : decide (cf x17 y17 < 0) = false := decide_eq_false hv17
        have hL' : Hid _ := hL
        clear hx17 hy17 hL
        go_wp2_with fail
        go_quiet_grown (first | (go_at_fn g; refine Calls.grown_of (hc17 _ _)))
        have S2 : Aside (SWK enc k w0 blk off d (grow (wr.drewN nq) osq)) := S1.out.grown nq osq
        clear l17a l17b hc17 S1
        generalize grow (wr.drewN nq) osq = w2 at S2 ⊢
        clear nq osq
        go_wp2_with fail
        go_roundg (j - (h + 1))
        case measure => omega
        case rel => exact ⟨h + 1, j, by go_num, rfl, by omega, by omega, by omega, by omega, S2, (show _ = _ by rw [← heq.out, bs_go hlt (by rw [← HH.out, hL'.out]; rfl), HH.out])⟩
    · have hltz : ¬ (i : Int) < (j : Int) := by omega
      obtain ⟨q, hq⟩ : ∃ q : Nat, q = bs (fun h => !ltOf cf d[m]! d[h]!) a m := ⟨_, rfl⟩
      have hqi : i = q := by rw [hq, ← heq.out, bs_end hlt]
      subst hqi
      have HQ : Hid _ := hq
      clear hq heq
      go_wp2
      go_loopg [17] (m - i) (fun ky s13 wr => ∃ (c : Nat) (dk : Array α), s13 = .int .i64 c ∧ i ≤ c ∧ c ≤ m ∧ c - i ≤ ky ∧ dk.size = d.size ∧ Aside (SWK enc k w0 blk off dk wr) ∧ Hid (down c (c - i) dk = down m (m - i) d))
      case atStart => exact ⟨m, d, rfl, by omega, Nat.le_refl _, Nat.le_refl _, rfl, S1, rfl⟩
      case round =>
        clear S1
        obtain ⟨c, dk, rfl, hac, hci, hky, hds, S1, heq⟩ := hrel
        by_cases hc : i < c
        · have hcz : (i : Int) < (c : Int) := by omega
          go_wp2_with fail
          obtain ⟨y, hy⟩ : ∃ y : Nat, y = c - 1 := ⟨_, rfl⟩
          have HY : Hid (y = c - 1) := hy
          have ray : IntKind.i64.wrap ((c : Int) - 1) = (y : Int) := by rw [IntKind.wrap_i64]; omega
          have hyb : y < d.size := by omega
          have ryy : (c : Int) - 1 = (y : Int) := by omega
          clear hy
          have ea23 : ((c : Nat) : Int).toNat = c := by omega
          have pa23 : (0 : Int) ≤ ((c : Nat) : Int) := by omega
          have ba23 : ((c : Nat) : Int) < (d.size : Int) := by omega
          have ec23 : ((y : Nat) : Int).toNat = y := by omega
          have pc23 : (0 : Int) ≤ ((y : Nat) : Int) := by omega
          have bc23 : ((y : Nat) : Int) < (d.size : Int) := by omega
          have S2 : Aside (SWK enc k w0 blk off (swp dk c y) ((wr.drew.setCells blk (off + c * k) (enc dk[y]!)).setCells blk (off + y * k) (enc dk[c]!))) := S1.out.swapped R c y (by omega) (by omega)
          have l23a := S1.out.ld1 R (by omega) P c (by omega)
          have l23b := S1.out.ld1 R (by omega) P y (by omega)
          have s23a := S1.out.st1 R (by omega) P c (by omega) dk[y]!
          have s23b := S1.out.st2 R (by omega) P c y (by omega) (by omega) dk[y]! dk[c]!
          have n23a : (enc dk[c]!).length = k := R.hk _
          have n23b : (enc dk[y]!).length = k := R.hk _
          generalize enc dk[c]! = cI23 at S2 l23a s23b n23a
          generalize enc dk[y]! = cJ23 at S2 l23b s23a s23b n23b
          clear S1
          go_wp2_with fail
          go_big_region_o
          clear l23a l23b s23a s23b
          generalize (wr.drew.setCells blk (off + c * k) cJ23).setCells blk (off + y * k) cI23 = w2 at S2 ⊢
          go_wp2
          go_roundg (c - 1 - i)
          case measure => have := HY.out; omega
          case rel => exact ⟨c - 1, swp dk c (c - 1), by (first | rw [HY.out] | (have hy := HY.out; congr 1; omega)), by omega, by omega, by omega, by rw [size_swp]; exact hds, (by rw [HY.out] at S2; exact S2), (show _ = _ by rw [← heq.out, show c - i = c - 1 - i + 1 by omega, down])⟩
        · have hcz : ¬ (i : Int) < (c : Int) := by omega
          go_wp2
          (try simp only [Exit.inBlock, Exit.then])
          refine bodyPost_ret (results_none rfl _ _ _) rfl ?_
          refine ⟨rfl, ?_⟩
          rw [HD.out, ← HQ.out]
          have e : c - i = 0 := by omega
          have := heq.out
          rw [e] at this
          rw [← this]
          exact S1.out
end Go.Proofs.Rk
