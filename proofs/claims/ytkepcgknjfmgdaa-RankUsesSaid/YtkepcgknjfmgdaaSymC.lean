/-
  symMerge, the general way (the middle in the left part). Condition: a < m < b, within the row.
-/
import Derived.Test.YtkepcgknjfmgdaaSymB
set_option linter.unusedVariables false
set_option linter.unusedSimpArgs false
namespace Go.Proofs.Rk
open Go.Shelf Go.RowKit Go.Lib Go.Sort Go.Rk
variable {P : Program} {α : Type} [Inhabited α]

set_option maxHeartbeats 8000000 in
set_option maxRecDepth 1000000 in
theorem symMerge_gen1 {k : Nat} (L : Lay P k) (enc : α → List Value) (cf : α → α → Int) (g : Nat) (cb : Array Value) (blk off cap a m b mid : Nat) (d0 d : Array α) (w0 w : World)
    (eg : ∀ args w, (callFunc g args).run P w = .ok (.enter g args) w) (hcmp : CmpLays P g cb enc k cf blk off d0.size w0)
    (R : RowK enc k w0 blk off d0) (hs : d0.size = d.size) (S : SWK enc k w0 blk off d w) (ham : a + 1 < m) (hmb : m + 1 < b) (hmid : mid = (a + b) / 2) (hcase : mid < m) (hb : b ≤ d.size) (hsz : d.size < 4611686018427387904) (f : Nat)
    (IH : ∀ (a' m' b' : Nat) (d' : Array α) (w' : World), a' < m' → m' < b' → b' ≤ d'.size → b' - a' + 1 ≤ b - a → d'.size = d.size → SWK enc k w0 blk off d' w' →
      Calls P 40 #[.slice (some ⟨blk, off, none⟩) d.size cap, .int .i64 a', .int .i64 m', .int .i64 b', .func (.func g) #[] cb] w' fun e w'' => e = .returned (.tuple #[]) ∧ SWK enc k w0 blk off (symMerge (ltOf cf) f a' m' b' d') w'') :
    Calls P 40 #[.slice (some ⟨blk, off, none⟩) d.size cap, .int .i64 a, .int .i64 m, .int .i64 b, .func (.func g) #[] cb] w fun e w' => e = .returned (.tuple #[]) ∧ SWK enc k w0 blk off (symMerge (ltOf cf) (f + 1) a m b d) w' := by
  have mixed := L.mixed; have aE := L.aE; have zE := L.zE; have t0 := L.t0; have a0 := L.a0; have z0 := L.z0; have v0 := L.v0; have t3 := L.t3; have a3 := L.a3; have z3 := L.z3; have v3 := L.v3; have t4 := L.t4; have a4 := L.a4; have z4 := L.z4; have v4 := L.v4; have t22 := L.t22; have a22 := L.a22; have z22 := L.z22; have v22 := L.v22; have t53 := L.t53; have a53 := L.a53; have z53 := L.z53; have v53 := L.v53; have t85 := L.t85; have a85 := L.a85; have z85 := L.z85; have v85 := L.v85
  have HC : Aside _ := hcmp
  have S0 : Aside (SWK enc k w0 blk off d w) := S
  clear hcmp S
  have e40 : ∀ args w, (callFunc 40 args).run P w = .ok (.enter 40 args) w := enters_of L.f40 (by kernel_rfl) rfl
  have e42 : ∀ args w, (callFunc 42 args).run P w = .ok (.enter 42 args) w := enters_of L.f42 (by kernel_rfl) rfl
  have IH0 : Aside _ := IH
  have R0 : Aside _ := R
  have L0 : Aside _ := L
  clear IH
  have hm1 : ((m : Int) - (a : Int) == 1) = false := by simp; omega
  have hm2 : ((b : Int) - (m : Int) == 1) = false := by simp; omega
  have hmi : ((a : Int) + (b : Int)) / 2 = (mid : Int) := by omega
  have hmb1 : a < mid := by omega
  have hmb2 : mid < b := by omega
  have HMID : Hid (mid = (a + b) / 2) := hmid
  obtain ⟨n, hn⟩ : ∃ n : Nat, n = mid + m := ⟨_, rfl⟩
  have hnz : (mid : Int) + (m : Int) = (n : Int) := by omega
  obtain ⟨pp, hpp⟩ : ∃ pp : Nat, pp = n - 1 := ⟨_, rfl⟩
  have hpz : (n : Int) - 1 = (pp : Int) := by omega
  obtain ⟨lo, hlo⟩ : ∃ lo : Nat, lo = (mid + m - b) := ⟨_, rfl⟩
  have hlz : (n : Int) - (b : Int) = (lo : Int) := by omega
  have hcz : (mid : Int) < (m : Int) := by omega
  obtain ⟨hi, hhi⟩ : ∃ hi : Nat, hi = mid := ⟨_, rfl⟩
  have hl1 : lo ≤ hi := by omega
  have hl2 : n ≤ b + lo := by omega
  have hl3 : hi ≤ n := by omega
  have hl4 : hi ≤ d.size := by omega
  have HN : Hid (n = mid + m) := hn
  have HP : Hid (pp = n - 1) := hpp
  have HLO : Hid (lo = (mid + m - b)) := hlo
  have HHI : Hid (hi = mid) := hhi
  have hnpos : 0 < n := by omega
  have hpn : pp + 1 = n := by omega
  have hpm : m ≤ n := by omega
  have hle : lo = lo ∧ hi = mid := ⟨by omega, by omega⟩
  clear hmid hn hpp hlo
  have ehi : Value.int .i64 (mid : Int) = Value.int .i64 (hi : Int) := by rw [HHI.out]
  have HPN : Hid (pp + 1 = n) := hpn
  clear hpn hhi
  have hle' : Hid _ := hle
  clear hle
  have HE : Hid _ := ehi
  clear ehi
  obtain ⟨D, hD⟩ : ∃ D, D = symMerge (ltOf cf) (f + 1) a m b d := ⟨_, rfl⟩
  rw [← hD]
  have HD : Hid _ := hD
  clear hD
  go_enter L0.out.f40, Try.ntmps40
  go_wp2
  clear hm1 hm2 hmi hcz
  go_loopg [20, 21] (hi - lo) (fun kx s10 s11 wr => ∃ (i j : Nat), s10 = .int .i64 i ∧ s11 = .int .i64 j ∧ lo ≤ i ∧ i ≤ j ∧ j ≤ hi ∧ j - i ≤ kx ∧ Aside (SWK enc k w0 blk off d wr) ∧ Hid (bs (fun c => !ltOf cf d[mid + m - 1 - c]! d[c]!) i j = bs (fun c => !ltOf cf d[mid + m - 1 - c]! d[c]!) lo hi))
  case atStart => exact ⟨lo, hi, rfl, HE.out, Nat.le_refl _, hl1, Nat.le_refl _, Nat.le_refl _, S0, rfl⟩
  case round =>
    clear S0
    obtain ⟨i, j, rfl, rfl, hi1, hij, hjb, hkx, S1, heq⟩ := hrel
    by_cases hlt : i < j
    · have hltz : (i : Int) < (j : Int) := by omega
      obtain ⟨h, hh⟩ : ∃ h : Nat, h = (i + j) / 2 := ⟨_, rfl⟩
      have hb1 : i ≤ h ∧ h < j := by omega
      obtain ⟨hb1, hb2⟩ := hb1
      have HH : Hid (h = (i + j) / 2) := hh
      have eh : ((i : Int) + (j : Int)) / 2 = (h : Int) := by omega
      clear hh
      go_wp2_with fail
      clear eh
      obtain ⟨y, hy⟩ : ∃ y : Nat, y = pp - h := ⟨_, rfl⟩
      have hyb : y < d.size := by have := HPN.out; omega
      have ray : IntKind.i64.wrap ((pp : Int) - (h : Int)) = (y : Int) := by have := HPN.out; rw [IntKind.wrap_i64]; omega
      have HY : Hid (mid + m - 1 - h = y) := by show _ = _; have h1 := HPN.out; have h2 := HN.out; omega
      clear hy
      cases hL : ltOf cf d[y]! d[h]! with
      | true =>
        have ea35 : ((y : Nat) : Int).toNat = y := by omega
        have pa35 : (0 : Int) ≤ ((y : Nat) : Int) := by omega
        have ba35 : ((y : Nat) : Int) < (d.size : Int) := by omega
        have ec35 : ((h : Nat) : Int).toNat = h := by omega
        have pc35 : (0 : Int) ≤ ((h : Nat) : Int) := by omega
        have bc35 : ((h : Nat) : Int) < (d.size : Int) := by omega
        obtain ⟨x35, hx35⟩ : ∃ x, x = d[y]! := ⟨_, rfl⟩
        obtain ⟨y35, hy35⟩ : ∃ x, x = d[h]! := ⟨_, rfl⟩
        have l35a := S1.out.ld R (by omega) P (y) (by omega)
        have l35b := S1.out.ld R (by omega) P (h) (by omega)
        rw [← hx35] at l35a
        rw [← hy35] at l35b
        have hc35 := S1.out.cmp HC.out (by omega) x35 y35
        have hv35 : cf x35 y35 < 0 := by rw [hx35, hy35]; exact of_decide_eq_true hL
        have hd35 : decide (cf x35 y35 < 0) = true := decide_eq_true hv35
        have hL' : Hid _ := hL
        clear hx35 hy35 hL
        go_wp2_with fail
        go_quiet_grown (first | (go_at_fn g; refine Calls.grown_of (hc35 _ _)))
        have S2 : Aside (SWK enc k w0 blk off d (grow (wr.drewN nq) osq)) := S1.out.grown nq osq
        clear l35a l35b hc35 S1
        generalize grow (wr.drewN nq) osq = w2 at S2 ⊢
        clear nq osq
        go_wp2_with fail
        go_roundg (h - i)
        case measure => omega
        case rel => exact ⟨i, h, rfl, rfl, by omega, by omega, by omega, by omega, S2, (show _ = _ by rw [← heq.out, bs_stay hlt (by rw [← HH.out, HY.out, hL'.out]; rfl), HH.out])⟩
      | false =>
        have ea35 : ((y : Nat) : Int).toNat = y := by omega
        have pa35 : (0 : Int) ≤ ((y : Nat) : Int) := by omega
        have ba35 : ((y : Nat) : Int) < (d.size : Int) := by omega
        have ec35 : ((h : Nat) : Int).toNat = h := by omega
        have pc35 : (0 : Int) ≤ ((h : Nat) : Int) := by omega
        have bc35 : ((h : Nat) : Int) < (d.size : Int) := by omega
        obtain ⟨x35, hx35⟩ : ∃ x, x = d[y]! := ⟨_, rfl⟩
        obtain ⟨y35, hy35⟩ : ∃ x, x = d[h]! := ⟨_, rfl⟩
        have l35a := S1.out.ld R (by omega) P (y) (by omega)
        have l35b := S1.out.ld R (by omega) P (h) (by omega)
        rw [← hx35] at l35a
        rw [← hy35] at l35b
        have hc35 := S1.out.cmp HC.out (by omega) x35 y35
        have hv35 : ¬ cf x35 y35 < 0 := by rw [hx35, hy35]; exact of_decide_eq_false hL
        have hd35 : decide (cf x35 y35 < 0) = false := decide_eq_false hv35
        have hL' : Hid _ := hL
        clear hx35 hy35 hL
        go_wp2_with fail
        go_quiet_grown (first | (go_at_fn g; refine Calls.grown_of (hc35 _ _)))
        have S2 : Aside (SWK enc k w0 blk off d (grow (wr.drewN nq) osq)) := S1.out.grown nq osq
        clear l35a l35b hc35 S1
        generalize grow (wr.drewN nq) osq = w2 at S2 ⊢
        clear nq osq
        go_wp2_with fail
        go_roundg (j - (h + 1))
        case measure => omega
        case rel => exact ⟨h + 1, j, by go_num, rfl, by omega, by omega, by omega, by omega, S2, (show _ = _ by rw [← heq.out, bs_go hlt (by rw [← HH.out, HY.out, hL'.out]; rfl), HH.out])⟩
    · have hltz : ¬ (i : Int) < (j : Int) := by omega
      have HCT : Hid (i = cutAt (ltOf cf) a m b d) := by
        show _ = _
        unfold cutAt
        simp only
        rw [← HMID.out, if_pos hcase]
        have h0 := heq.out
        rw [bs_end hlt] at h0
        rw [h0, HLO.out, HHI.out]
      obtain ⟨e, he⟩ : ∃ e : Nat, e = n - i := ⟨_, rfl⟩
      have hez : (n : Int) - (i : Int) = (e : Int) := by omega
      have heb : e ≤ b := by omega
      have HEN : Hid (e = n - i) := he
      clear he heq
      obtain ⟨d1, hd1⟩ : ∃ d1, d1 = turned (ltOf cf) a m b d := ⟨_, rfl⟩
      have HD1 : Hid _ := hd1
      clear hd1
      have tt : i < m → m < e → rot m (m - i) (e - m) d = d1 := by
        intro h1 h2
        rw [HD1.out]
        unfold turned
        simp only
        rw [← HCT.out, ← HMID.out, ← HN.out, ← HEN.out, if_pos ⟨h1, h2⟩]
      have tf : ¬ (i < m ∧ m < e) → d = d1 := by
        intro h1
        rw [HD1.out]
        unfold turned
        simp only
        rw [← HCT.out, ← HMID.out, ← HN.out, ← HEN.out, if_neg h1]
      have TT : Aside _ := tt
      have TF : Aside _ := tf
      have hd1s : d1.size = d.size := by
        rw [HD1.out]
        unfold turned
        simp only
        split
        · exact rot_size _ _ _ _ _ (Nat.le_refl _)
        · rfl
      have HS1 : Hid _ := hd1s
      clear tt tf hd1s
      obtain ⟨d2, hd2⟩ : ∃ d2, d2 = if a < i ∧ i < mid then symMerge (ltOf cf) f a i mid d1 else d1 := ⟨_, rfl⟩
      have t2t : a < i → i < mid → symMerge (ltOf cf) f a i mid d1 = d2 := fun h1 h2 => by rw [hd2, if_pos ⟨h1, h2⟩]
      have t2f : ¬ (a < i ∧ i < mid) → d1 = d2 := fun h1 => by rw [hd2, if_neg h1]
      have T2T : Aside _ := t2t
      have T2F : Aside _ := t2f
      have HD2 : Hid _ := hd2
      clear t2t t2f hd2
      have HS2 : Hid (d2.size = d.size) := by
        show _ = _
        rw [HD2.out]
        split
        · rw [(symMerge_size f _ _ _ _)]; exact HS1.out
        · exact HS1.out
      obtain ⟨B1, hB1⟩ : ∃ B, B = decide (i < m ∧ m < e) := ⟨_, rfl⟩
      have HB1 : Hid _ := hB1
      clear hB1
      go_upto_region 39 with fail
      go_cut [185] from 178 to 185 (fun s wx => s = .bool B1 ∧ Aside (SWK enc k w0 blk off d wx))
      case first =>
        by_cases c1 : i < m
        · have c1z : (i : Int) < (m : Int) := by omega
          by_cases c2 : m < e
          · have c2z : (m : Int) < (e : Int) := by omega
            go_wp2_with fail
            go_meet
            case rel => exact ⟨by rw [HB1.out]; simp [c1, c2], S1⟩
          · have c2z : ¬ (m : Int) < (e : Int) := by omega
            go_wp2_with fail
            go_meet
            case rel => exact ⟨by rw [HB1.out]; simp [c2], S1⟩
        · have c1z : ¬ (i : Int) < (m : Int) := by omega
          go_wp2_with fail
          go_meet
          case rel => exact ⟨by rw [HB1.out]; simp [c1], S1⟩
      case rest =>
      clear S1
      obtain ⟨rfl, S1⟩ := hcut
      go_upto_if 185 with fail
      go_cut [] from 186 to 191 (fun wx => Aside (SWK enc k w0 blk off d1 wx))
      case first =>
        cases B1 with
        | true =>
          have cc : i < m ∧ m < e := of_decide_eq_true HB1.out.symm
          obtain ⟨c1, c2⟩ := cc
          have hc := rotate_calls L0.out enc g cb blk off cap i m e d0 d w0 _ R0.out hs S1.out c1 c2 (by omega) hsz
          go_wp2_with (go_at_fn 42; refine hc.mono ?_; rintro ee w1 ⟨rfl, S2⟩; have S3 : Aside _ := S2; clear S2)
          go_meet
          case rel => rw [← TT.out c1 c2]; exact S3
        | false =>
          go_wp2_with fail
          go_meet
          case rel => rw [← TF.out (of_decide_eq_false HB1.out.symm)]; exact S1
      case rest =>
      clear S1
      have S1 := hcut
      clear hcut
      obtain ⟨B2, hB2⟩ : ∃ B, B = decide (a < i ∧ i < mid) := ⟨_, rfl⟩
      have HB2 : Hid _ := hB2
      clear hB2
      go_upto_region 41 with fail
      go_cut [199] from 192 to 199 (fun s wx => s = .bool B2 ∧ Aside (SWK enc k w0 blk off d1 wx))
      case first =>
        by_cases c1 : a < i
        · have c1z : (a : Int) < (i : Int) := by omega
          by_cases c2 : i < mid
          · have c2z : (i : Int) < (mid : Int) := by omega
            go_wp2_with fail
            go_meet
            case rel => exact ⟨by rw [HB2.out]; simp [c1, c2], S1⟩
          · have c2z : ¬ (i : Int) < (mid : Int) := by omega
            go_wp2_with fail
            go_meet
            case rel => exact ⟨by rw [HB2.out]; simp [c2], S1⟩
        · have c1z : ¬ (a : Int) < (i : Int) := by omega
          go_wp2_with fail
          go_meet
          case rel => exact ⟨by rw [HB2.out]; simp [c1], S1⟩
      case rest =>
      clear S1
      obtain ⟨rfl, S1⟩ := hcut
      go_upto_if 199 with fail
      go_cut [] from 200 to 205 (fun wx => Aside (SWK enc k w0 blk off d2 wx))
      case first =>
        cases B2 with
        | true =>
          have cc : a < i ∧ i < mid := of_decide_eq_true HB2.out.symm
          obtain ⟨c1, c2⟩ := cc
          have hc := IH0.out a i mid d1 _ c1 c2 (by have := HS1.out; omega) (by omega) HS1.out S1.out
          go_wp2_with (go_at_fn 40; refine hc.mono ?_; rintro ee w1 ⟨rfl, S2⟩; have S3 : Aside _ := S2; clear S2)
          go_meet
          case rel => rw [← T2T.out c1 c2]; exact S3
        | false =>
          go_wp2_with fail
          go_meet
          case rel => rw [← T2F.out (of_decide_eq_false HB2.out.symm)]; exact S1
      case rest =>
      clear S1
      have S1 := hcut
      clear hcut
      obtain ⟨B3, hB3⟩ : ∃ B, B = decide (mid < e ∧ e < b) := ⟨_, rfl⟩
      have HB3 : Hid _ := hB3
      clear hB3
      go_upto_region 43 with fail
      go_cut [213] from 206 to 213 (fun s wx => s = .bool B3 ∧ Aside (SWK enc k w0 blk off d2 wx))
      case first =>
        by_cases c1 : mid < e
        · have c1z : (mid : Int) < (e : Int) := by omega
          by_cases c2 : e < b
          · have c2z : (e : Int) < (b : Int) := by omega
            go_wp2_with fail
            go_meet
            case rel => exact ⟨by rw [HB3.out]; simp [c1, c2], S1⟩
          · have c2z : ¬ (e : Int) < (b : Int) := by omega
            go_wp2_with fail
            go_meet
            case rel => exact ⟨by rw [HB3.out]; simp [c2], S1⟩
        · have c1z : ¬ (mid : Int) < (e : Int) := by omega
          go_wp2_with fail
          go_meet
          case rel => exact ⟨by rw [HB3.out]; simp [c1], S1⟩
      case rest =>
      clear S1
      obtain ⟨rfl, S1⟩ := hcut
      have HF : Hid (D = if mid < e ∧ e < b then symMerge (ltOf cf) f mid e b d2 else d2) := by
        show _ = _
        rw [HD.out, symMerge, if_neg (by omega), if_neg (by omega)]
        simp only
        rw [← HCT.out, ← HD1.out, ← HMID.out, ← HN.out, ← HEN.out, ← HD2.out]
      cases B3 with
      | true =>
        have cc : mid < e ∧ e < b := of_decide_eq_true HB3.out.symm
        obtain ⟨c1, c2⟩ := cc
        have hc := IH0.out mid e b d2 _ c1 c2 (by have := HS2.out; omega) (by omega) HS2.out S1.out
        go_wp2_with (go_at_fn 40; refine hc.mono ?_; rintro ee w1 ⟨rfl, S2⟩; have S3 : Aside _ := S2; clear S2)
        go_end0
        refine ⟨rfl, ?_⟩
        rw [HF.out, if_pos ⟨c1, c2⟩]
        exact S3.out
      | false =>
        go_wp2_with fail
        go_end0
        refine ⟨rfl, ?_⟩
        rw [HF.out, if_neg (of_decide_eq_false HB3.out.symm)]
        exact S1.out
end Go.Proofs.Rk
