/-
  ParseKeys on the second machine: true. Conditions: numbers of 64 bits, slices of at most 2^47; the tables of utf8 lie there.
-/
import Derived.Test.YtnhfokplkmlibaaGreatDoorK1
set_option linter.unusedVariables false
set_option linter.unusedSimpArgs false
set_option maxRecDepth 100000
set_option maxHeartbeats 8000000
namespace Go.Proofs.Lk
open Go.Ae Go.Ae.Keys
variable {S : List Nat} {H0 H : AHeap} {L : List Blk}
theorem CallP.orc {P : Program} {X : Xt} {g : FuncId} {args : List Value} {v : Value} {H' : AHeap} {K : Value → AHeap → Prop} (h : X.o g args H = some (v, H')) (k : K v H') : CallP P X g args H K := ⟨v, H', ⟨1, caStep_some h⟩, k⟩
theorem idR_a (r : Nat) : idR 2 1 (.pointer (some ⟨r, 0, none⟩)) (.int .i64 0) = some (.pointer (some ⟨r, 0, none⟩)) := rfl
theorem idR_b (r : Nat) : idR 2 1 (.pointer (some ⟨r, 0, none⟩)) (.int .i64 1) = some (.pointer (some ⟨r, 1, none⟩)) := rfl
theorem IntsAt.n {v : Value} {l : List Int} (h : IntsAt H v l) : IntsAt (hN H) v l := h
theorem take_snoc_eq {a b : List Int} {i : Nat} (ha : i < a.length) (hb : i < b.length) : a.take (i + 1) = b.take (i + 1) ↔ a.take i = b.take i ∧ a[i] = b[i] := by
  rw [List.take_succ_eq_append_getElem ha, List.take_succ_eq_append_getElem hb]
  constructor
  · intro h
    have := List.append_inj h (by simp; omega)
    exact ⟨this.1, by simpa using this.2⟩
  · rintro ⟨h1, h2⟩; rw [h1, h2]
theorem law_spec (hw : Wf H) (hT : TabsAt H) {n0 n1 : Int} (hn0 : In n0) (hn1 : In n1) {va0 va1 vb0 vb1 : Value} {la0 la1 lb0 lb1 : List Int} (ha0 : IntsAt H va0 la0) (ha1 : IntsAt H va1 la1) (hb0 : IntsAt H vb0 lb0) (hb1 : IntsAt H vb1 lb1)
    (s0 : la0.length ≤ 140737488355328) (s1 : la1.length ≤ 140737488355328) (s2 : lb0.length ≤ 140737488355328) (s3 : lb1.length ≤ 140737488355328) :
    CallP Pg X N_souffleurlaw31_ParseKeys [.agg ⟨[vi n0, vi n1]⟩, .agg ⟨[va0, va1]⟩, .agg ⟨[vb0, vb1]⟩] H (Q1 (fun v _ => v = .bool true) H) := by
  obtain ⟨xa0, ca0, ea0, ha0'⟩ := id ha0
  obtain ⟨xa1, ca1, ea1, ha1'⟩ := id ha1
  obtain ⟨xb0, cb0, eb0, hb0'⟩ := id hb0
  obtain ⟨xb1, cb1, eb1, hb1'⟩ := id hb1
  have hS := SH.refl hw
  refine e_souffleurlaw31_ParseKeys (c_souffleurlaw31_ParseKeys ?_)
  refine hS.box rfl fun H1 r0 hS => ?_
  refine hS.box (by rw [ea0, ea1]; rfl) fun H1 ra hS => ?_
  refine hS.box (by rw [eb0, eb1]; rfl) fun H1 rb hS => ?_
  have hS : SH [] H H1 [(rb, 24, [vb0, vb1]), (ra, 24, [va0, va1]), (r0, 22, [vi n0, vi n1])] := hS
  try simp only [idR_a, idR_b]
  repeat (first | (simp only [PP, Nat.reduceBEq, hM_hN hS.wf]) | (refine PU.b1 rfl ?_) | (refine PU.b2 rfl ?_) | (refine PU.b3 rfl ?_) | (refine PU.b4 rfl ?_) | (refine PU.b5 rfl ?_) | (refine PU.b6 rfl ?_) | (refine PU.b7 rfl ?_) | (refine PU.b8 rfl ?_) | (refine PU.b9 rfl ?_) | (refine hS.ldC ?_) | (refine hS.ldNC ?_) | (refine hS.ldCQ ?_) | (refine hS.ldNCQ ?_) | (refine hS.stC fun Hn hS => ?_) | (refine hS.stCQ fun Hn hS => ?_) | (refine dynOk_qt (by simp only [clL_ld, clC_ext (Ext.refl (hN _))]; rfl) ?_))
  subst ea0 ea1 eb0 eb1
  repeat (first | (simp only [PP, Nat.reduceBEq, hM_hN hS.wf]) | (refine PU.b1 rfl ?_) | (refine PU.b2 rfl ?_) | (refine PU.b3 rfl ?_) | (refine PU.b4 rfl ?_) | (refine PU.b5 rfl ?_) | (refine PU.b6 rfl ?_) | (refine PU.b7 rfl ?_) | (refine PU.b8 rfl ?_) | (refine PU.b9 rfl ?_) | (refine hS.ldC ?_) | (refine hS.ldNC ?_) | (refine hS.ldCQ ?_) | (refine hS.ldNCQ ?_) | (refine hS.stC fun Hn hS => ?_) | (refine hS.stCQ fun Hn hS => ?_) | (refine dynOk_qt (by simp only [clL_ld, clC_ext (Ext.refl (hN _))]; rfl) ?_))
  rw [abin_add (by omega) (by omega)]
  repeat (first | (simp only [PP, Nat.reduceBEq, hM_hN hS.wf]) | (refine PU.b1 rfl ?_) | (refine PU.b2 rfl ?_) | (refine PU.b3 rfl ?_) | (refine PU.b4 rfl ?_) | (refine PU.b5 rfl ?_) | (refine PU.b6 rfl ?_) | (refine PU.b7 rfl ?_) | (refine PU.b8 rfl ?_) | (refine PU.b9 rfl ?_) | (refine hS.ldC ?_) | (refine hS.ldNC ?_) | (refine hS.ldCQ ?_) | (refine hS.ldNCQ ?_) | (refine hS.stC fun Hn hS => ?_) | (refine hS.stCQ fun Hn hS => ?_) | (refine dynOk_qt (by simp only [clL_ld, clC_ext (Ext.refl (hN _))]; rfl) ?_))
  rw [abin_add (by omega) (by omega)]
  repeat (first | (simp only [PP, Nat.reduceBEq, hM_hN hS.wf]) | (refine PU.b1 rfl ?_) | (refine PU.b2 rfl ?_) | (refine PU.b3 rfl ?_) | (refine PU.b4 rfl ?_) | (refine PU.b5 rfl ?_) | (refine PU.b6 rfl ?_) | (refine PU.b7 rfl ?_) | (refine PU.b8 rfl ?_) | (refine PU.b9 rfl ?_) | (refine hS.ldC ?_) | (refine hS.ldNC ?_) | (refine hS.ldCQ ?_) | (refine hS.ldNCQ ?_) | (refine hS.stC fun Hn hS => ?_) | (refine hS.stCQ fun Hn hS => ?_) | (refine dynOk_qt (by simp only [clL_ld, clC_ext (Ext.refl (hN _))]; rfl) ?_))
  rw [abin_add (by omega) (by omega)]
  repeat (first | (simp only [PP, Nat.reduceBEq, hM_hN hS.wf]) | (refine PU.b1 rfl ?_) | (refine PU.b2 rfl ?_) | (refine PU.b3 rfl ?_) | (refine PU.b4 rfl ?_) | (refine PU.b5 rfl ?_) | (refine PU.b6 rfl ?_) | (refine PU.b7 rfl ?_) | (refine PU.b8 rfl ?_) | (refine PU.b9 rfl ?_) | (refine hS.ldC ?_) | (refine hS.ldNC ?_) | (refine hS.ldCQ ?_) | (refine hS.ldNCQ ?_) | (refine hS.stC fun Hn hS => ?_) | (refine hS.stCQ fun Hn hS => ?_) | (refine dynOk_qt (by simp only [clL_ld, clC_ext (Ext.refl (hN _))]; rfl) ?_))
  refine cdW_cases (fun hc => ?_) (fun hc => ?_)
  · exact r_ret_souffleurlaw31_ParseKeys ⟨rfl, hS.ext⟩
  try simp only [idR_a, idR_b]
  repeat (first | (simp only [PP, Nat.reduceBEq, hM_hN hS.wf]) | (refine PU.b1 rfl ?_) | (refine PU.b2 rfl ?_) | (refine PU.b3 rfl ?_) | (refine PU.b4 rfl ?_) | (refine PU.b5 rfl ?_) | (refine PU.b6 rfl ?_) | (refine PU.b7 rfl ?_) | (refine PU.b8 rfl ?_) | (refine PU.b9 rfl ?_) | (refine hS.ldC ?_) | (refine hS.ldNC ?_) | (refine hS.ldCQ ?_) | (refine hS.ldNCQ ?_) | (refine hS.stC fun Hn hS => ?_) | (refine hS.stCQ fun Hn hS => ?_) | (refine dynOk_qt (by simp only [clL_ld, clC_ext (Ext.refl (hN _))]; rfl) ?_))
  refine CallP.mono (key_spec (wf_hN _) hn0 (ha0.ex hS.ext).n (hb0.ex hS.ext).n (by omega) true) ?_
  rintro v H2 ⟨rfl, hx1⟩
  have hS := hS.callD hx1
  try simp only [idR_a, idR_b]
  repeat (first | (simp only [PP, Nat.reduceBEq, hM_hN hS.wf]) | (refine PU.b1 rfl ?_) | (refine PU.b2 rfl ?_) | (refine PU.b3 rfl ?_) | (refine PU.b4 rfl ?_) | (refine PU.b5 rfl ?_) | (refine PU.b6 rfl ?_) | (refine PU.b7 rfl ?_) | (refine PU.b8 rfl ?_) | (refine PU.b9 rfl ?_) | (refine hS.ldC ?_) | (refine hS.ldNC ?_) | (refine hS.ldCQ ?_) | (refine hS.ldNCQ ?_) | (refine hS.stC fun Hn hS => ?_) | (refine hS.stCQ fun Hn hS => ?_) | (refine dynOk_qt (by simp only [clL_ld, clC_ext (Ext.refl (hN _))]; rfl) ?_))
  refine CallP.mono (key_spec (wf_hN _) hn1 (ha1.ex hS.ext).n (hb1.ex hS.ext).n (by omega) true) ?_
  rintro v H3 ⟨rfl, hx2⟩
  have hS := hS.callD hx2
  refine ⟨dynOk_quiet (by simp only [clL_ld, clC_ext hx1, clC_ext hx2]; rfl), ?_⟩
  repeat (first | (simp only [PP, Nat.reduceBEq, hM_hN hS.wf]) | (refine PU.b1 rfl ?_) | (refine PU.b2 rfl ?_) | (refine PU.b3 rfl ?_) | (refine PU.b4 rfl ?_) | (refine PU.b5 rfl ?_) | (refine PU.b6 rfl ?_) | (refine PU.b7 rfl ?_) | (refine PU.b8 rfl ?_) | (refine PU.b9 rfl ?_) | (refine hS.ldC ?_) | (refine hS.ldNC ?_) | (refine hS.ldCQ ?_) | (refine hS.ldNCQ ?_) | (refine hS.stC fun Hn hS => ?_) | (refine hS.stCQ fun Hn hS => ?_) | (refine dynOk_qt (by simp only [clL_ld, clC_ext (Ext.refl (hN _))]; rfl) ?_))
  -- what is asked at once
  have key : ∀ (b : Bool) rg H4, (b = true ↔ n0 = n1 ∧ la0.length = la1.length ∧ lb0.length = lb1.length) → SH [] H H4 [(rb, 24, [.slice xb0 lb0.length cb0, .slice xb1 lb1.length cb1]), (ra, 24, [.slice xa0 la0.length ca0, .slice xa1 la1.length ca1]), (r0, 22, [vi n0, vi n1])] →
      EvP Pg X (sub B_souffleurlaw31_ParseKeys [1, 1, 1, 1]) (st_souffleurlaw31_ParseKeys (.agg ⟨[vi n0, vi n1]⟩) (.agg ⟨[.slice xa0 la0.length ca0, .slice xa1 la1.length ca1]⟩) (.agg ⟨[.slice xb0 lb0.length cb0, .slice xb1 lb1.length cb1]⟩) (.pointer (some ⟨r0, 0, none⟩)) (.pointer (some ⟨ra, 0, none⟩)) (.pointer (some ⟨rb, 0, none⟩)) (.bool false) (.string (keyT true n0 la0 lb0)) (.string (keyT true n1 la1 lb1)) (.bool b) top top rg H4) (endK Pg [.tmp 6] (Q1 (fun v _ => v = .bool true) H)) := by
    intro b rg H4 hb hS
    with_reducible refine c_souffleurlaw31_ParseKeys_1111 ?_
    refine l_souffleurlaw31_ParseKeys_11110100 (I := fun m x9 x10 H' => ∃ (b : Bool) (i : Nat), x9 = .bool b ∧ x10 = vn i ∧ i + m = la0.length ∧ (b = true ↔ (n0 = n1 ∧ la0.length = la1.length ∧ lb0.length = lb1.length) ∧ la0.take i = la1.take i) ∧ SH [] H H' [(rb, 24, [.slice xb0 lb0.length cb0, .slice xb1 lb1.length cb1]), (ra, 24, [.slice xa0 la0.length ca0, .slice xa1 la1.length ca1]), (r0, 22, [vi n0, vi n1])]) ?_ la0.length ⟨b, 0, rfl, rfl, by omega, by simpa using hb, hS⟩
    clear hb hS
    rintro m x9 x10 rg H' ⟨b, i, rfl, rfl, him, hb, hS⟩
    refine EvP.nameK fun K hK => ?_
    have fin : ∀ rg, (b = true ↔ (n0 = n1 ∧ la0.length = la1.length ∧ lb0.length = lb1.length) ∧ la0 = la1) → K (.exit 0 (st_souffleurlaw31_ParseKeys (.agg ⟨[vi n0, vi n1]⟩) (.agg ⟨[.slice xa0 la0.length ca0, .slice xa1 la1.length ca1]⟩) (.agg ⟨[.slice xb0 lb0.length cb0, .slice xb1 lb1.length cb1]⟩) (.pointer (some ⟨r0, 0, none⟩)) (.pointer (some ⟨ra, 0, none⟩)) (.pointer (some ⟨rb, 0, none⟩)) (.bool false) (.string (keyT true n0 la0 lb0)) (.string (keyT true n1 la1 lb1)) (.bool b) (vn i) top rg H')) := by
      intro rg hb
      subst hK
      (try simp only [PP, Nat.reduceBEq])
      with_reducible refine c_souffleurlaw31_ParseKeys_11111 ?_
      refine l_souffleurlaw31_ParseKeys_111110100 (I := fun m x9 x11 H' => ∃ (b : Bool) (i : Nat), x9 = .bool b ∧ x11 = vn i ∧ i + m = lb0.length ∧ (b = true ↔ ((n0 = n1 ∧ la0.length = la1.length ∧ lb0.length = lb1.length) ∧ la0 = la1) ∧ lb0.take i = lb1.take i) ∧ SH [] H H' [(rb, 24, [.slice xb0 lb0.length cb0, .slice xb1 lb1.length cb1]), (ra, 24, [.slice xa0 la0.length ca0, .slice xa1 la1.length ca1]), (r0, 22, [vi n0, vi n1])]) ?_ lb0.length ⟨b, 0, rfl, rfl, by omega, by simpa using hb, hS⟩
      clear hb hS
      rintro m x9 x11 rg H' ⟨b, j, rfl, rfl, hjm, hb, hS⟩
      refine EvP.nameK fun K hK => ?_
      have fin : ∀ rg, (b = true ↔ ((n0 = n1 ∧ la0.length = la1.length ∧ lb0.length = lb1.length) ∧ la0 = la1) ∧ lb0 = lb1) → K (.exit 2 (st_souffleurlaw31_ParseKeys (.agg ⟨[vi n0, vi n1]⟩) (.agg ⟨[.slice xa0 la0.length ca0, .slice xa1 la1.length ca1]⟩) (.agg ⟨[.slice xb0 lb0.length cb0, .slice xb1 lb1.length cb1]⟩) (.pointer (some ⟨r0, 0, none⟩)) (.pointer (some ⟨ra, 0, none⟩)) (.pointer (some ⟨rb, 0, none⟩)) (.bool false) (.string (keyT true n0 la0 lb0)) (.string (keyT true n1 la1 lb1)) (.bool b) (vn i) (vn j) rg H')) := by
        intro rg hb
        subst hK
        (try simp only [PP, Nat.reduceBEq])
        with_reducible refine c_souffleurlaw31_ParseKeys_111111 ?_
        have hk : decide (keyT true n0 la0 lb0 = keyT true n1 la1 lb1) = b := by
          rw [Bool.eq_iff_iff, decide_eq_true_iff, keyT_inj, key_inj hn0 hn1 ha0'.2 hb0'.2 ha1'.2 hb1'.2 ⟨by omega, by omega⟩ ⟨by omega, by omega⟩, hb]
          constructor
          · rintro ⟨rfl, rfl, rfl⟩; exact ⟨⟨⟨rfl, rfl, rfl⟩, rfl⟩, rfl⟩
          · rintro ⟨⟨⟨rfl, _, _⟩, rfl⟩, rfl⟩; exact ⟨rfl, rfl, rfl⟩
        (try simp only [PP, Nat.reduceBEq])
        rw [hk]
        refine PU.of (v := .bool true) (by cases b <;> kernel_rfl) ?_
        (try simp only [PP, Nat.reduceBEq])
        try simp only [idR_a, idR_b]
        repeat (first | (simp only [PP, Nat.reduceBEq, hM_hN hS.wf]) | (refine PU.b1 rfl ?_) | (refine PU.b2 rfl ?_) | (refine PU.b3 rfl ?_) | (refine PU.b4 rfl ?_) | (refine PU.b5 rfl ?_) | (refine PU.b6 rfl ?_) | (refine PU.b7 rfl ?_) | (refine PU.b8 rfl ?_) | (refine PU.b9 rfl ?_) | (refine hS.ldC ?_) | (refine hS.ldNC ?_) | (refine hS.ldCQ ?_) | (refine hS.ldNCQ ?_) | (refine hS.stC fun Hn hS => ?_) | (refine hS.stCQ fun Hn hS => ?_) | (refine dynOk_qt (by simp only [clL_ld, clC_ext (Ext.refl (hN _))]; rfl) ?_))
        refine CallP.mono (key_spec hS.wf hn0 (ha0.ex hS.ext) (hb0.ex hS.ext) (by omega) false) ?_
        rintro v H5 ⟨rfl, hx⟩
        have hS := hS.call hx
        repeat (first | (simp only [PP, Nat.reduceBEq, hM_hN hS.wf]) | (refine PU.b1 rfl ?_) | (refine PU.b2 rfl ?_) | (refine PU.b3 rfl ?_) | (refine PU.b4 rfl ?_) | (refine PU.b5 rfl ?_) | (refine PU.b6 rfl ?_) | (refine PU.b7 rfl ?_) | (refine PU.b8 rfl ?_) | (refine PU.b9 rfl ?_) | (refine hS.ldC ?_) | (refine hS.ldNC ?_) | (refine hS.ldCQ ?_) | (refine hS.ldNCQ ?_) | (refine hS.stC fun Hn hS => ?_) | (refine hS.stCQ fun Hn hS => ?_) | (refine dynOk_qt (by simp only [clL_ld, clC_ext (Ext.refl (hN _))]; rfl) ?_))
        have hne : decide (keyT true n0 la0 lb0 = keyT false n0 la0 lb0) = false := by
          rw [decide_eq_false_iff_not, keyT_inj]
          exact key_ne
        rw [hne]
        (try simp only [PP, Nat.reduceBEq])
        refine CallP.orc (v := .bool true) (H' := H5) (orT_at (hT.ex hS.ext)) ?_
        exact r_ret_souffleurlaw31_ParseKeys ⟨rfl, hS.ext⟩
      have body : ∀ rg, b = true → j < lb0.length → EvP Pg X (sub B_souffleurlaw31_ParseKeys [1, 1, 1, 1, 1, 0, 1, 0, 0, 1]) (st_souffleurlaw31_ParseKeys (.agg ⟨[vi n0, vi n1]⟩) (.agg ⟨[.slice xa0 la0.length ca0, .slice xa1 la1.length ca1]⟩) (.agg ⟨[.slice xb0 lb0.length cb0, .slice xb1 lb1.length cb1]⟩) (.pointer (some ⟨r0, 0, none⟩)) (.pointer (some ⟨ra, 0, none⟩)) (.pointer (some ⟨rb, 0, none⟩)) (.bool false) (.string (keyT true n0 la0 lb0)) (.string (keyT true n1 la1 lb1)) (.bool b) (vn i) (vn j) rg H') K := by
        intro rg hbt hj
        subst hK
        have hbb := hb.1 hbt
        have hj1 : j < lb1.length := by have := hbb.1.1.2.2; omega
        with_reducible refine c_souffleurlaw31_ParseKeys_1111101001 ?_
        try simp only [idR_a, idR_b]
        obtain ⟨rx, ox, ex, hrx, hcx, _⟩ := hb0'.1.idx (c := cb0) (by omega) hj
        obtain ⟨ry, oy, ey, hry, hcy, _⟩ := hb1'.1.idx (c := cb1) (by omega) hj1
        repeat (first | (simp only [PP, Nat.reduceBEq, hM_hN hS.wf]) | (refine PU.b1 rfl ?_) | (refine PU.b2 rfl ?_) | (refine PU.b3 rfl ?_) | (refine PU.b4 rfl ?_) | (refine PU.b5 rfl ?_) | (refine PU.b6 rfl ?_) | (refine PU.b7 rfl ?_) | (refine PU.b8 rfl ?_) | (refine PU.b9 rfl ?_) | (refine hS.ldC ?_) | (refine hS.ldNC ?_) | (refine hS.ldCQ ?_) | (refine hS.ldNCQ ?_) | (refine hS.stC fun Hn hS => ?_) | (refine hS.stCQ fun Hn hS => ?_) | (refine dynOk_qt (by simp only [clL_ld, clC_ext (Ext.refl (hN _))]; rfl) ?_))
        rw [ex]
        repeat (first | (simp only [PP, Nat.reduceBEq, hM_hN hS.wf]) | (refine PU.b1 rfl ?_) | (refine PU.b2 rfl ?_) | (refine PU.b3 rfl ?_) | (refine PU.b4 rfl ?_) | (refine PU.b5 rfl ?_) | (refine PU.b6 rfl ?_) | (refine PU.b7 rfl ?_) | (refine PU.b8 rfl ?_) | (refine PU.b9 rfl ?_) | (refine hS.ldC ?_) | (refine hS.ldNC ?_) | (refine hS.ldCQ ?_) | (refine hS.ldNCQ ?_) | (refine hS.stC fun Hn hS => ?_) | (refine hS.stCQ fun Hn hS => ?_) | (refine dynOk_qt (by simp only [clL_ld, clC_ext (Ext.refl (hN _))]; rfl) ?_))
        refine hS.ldOQ (hcx 0 (vi lb0[j]) (by omega) (by simp [hj])) hrx ?_
        repeat (first | (simp only [PP, Nat.reduceBEq, hM_hN hS.wf]) | (refine PU.b1 rfl ?_) | (refine PU.b2 rfl ?_) | (refine PU.b3 rfl ?_) | (refine PU.b4 rfl ?_) | (refine PU.b5 rfl ?_) | (refine PU.b6 rfl ?_) | (refine PU.b7 rfl ?_) | (refine PU.b8 rfl ?_) | (refine PU.b9 rfl ?_) | (refine hS.ldC ?_) | (refine hS.ldNC ?_) | (refine hS.ldCQ ?_) | (refine hS.ldNCQ ?_) | (refine hS.stC fun Hn hS => ?_) | (refine hS.stCQ fun Hn hS => ?_) | (refine dynOk_qt (by simp only [clL_ld, clC_ext (Ext.refl (hN _))]; rfl) ?_))
        rw [ey]
        repeat (first | (simp only [PP, Nat.reduceBEq, hM_hN hS.wf]) | (refine PU.b1 rfl ?_) | (refine PU.b2 rfl ?_) | (refine PU.b3 rfl ?_) | (refine PU.b4 rfl ?_) | (refine PU.b5 rfl ?_) | (refine PU.b6 rfl ?_) | (refine PU.b7 rfl ?_) | (refine PU.b8 rfl ?_) | (refine PU.b9 rfl ?_) | (refine hS.ldC ?_) | (refine hS.ldNC ?_) | (refine hS.ldCQ ?_) | (refine hS.ldNCQ ?_) | (refine hS.stC fun Hn hS => ?_) | (refine hS.stCQ fun Hn hS => ?_) | (refine dynOk_qt (by simp only [clL_ld, clC_ext (Ext.refl (hN _))]; rfl) ?_))
        refine hS.ldOQ (hcy 0 (vi lb1[j]) (by omega) (by simp [hj1])) hry ?_
        repeat (first | (simp only [PP, Nat.reduceBEq, hM_hN hS.wf]) | (refine PU.b1 rfl ?_) | (refine PU.b2 rfl ?_) | (refine PU.b3 rfl ?_) | (refine PU.b4 rfl ?_) | (refine PU.b5 rfl ?_) | (refine PU.b6 rfl ?_) | (refine PU.b7 rfl ?_) | (refine PU.b8 rfl ?_) | (refine PU.b9 rfl ?_) | (refine hS.ldC ?_) | (refine hS.ldNC ?_) | (refine hS.ldCQ ?_) | (refine hS.ldNCQ ?_) | (refine hS.stC fun Hn hS => ?_) | (refine hS.stCQ fun Hn hS => ?_) | (refine dynOk_qt (by simp only [clL_ld, clC_ext (Ext.refl (hN _))]; rfl) ?_))
        refine PU.of (abin_add (by omega) (by omega)) ?_
        (try simp only [PP, Nat.reduceBEq])
        refine ⟨m - 1, by omega, _, _, _, _, rfl, decide (lb0[j] = lb1[j]), j + 1, rfl, rfl, by omega, ?_, hS⟩
        rw [decide_eq_true_iff, take_snoc_eq hj hj1]
        exact ⟨fun h => ⟨hbb.1, hbb.2, h⟩, fun h => h.2.2⟩
      with_reducible refine c_souffleurlaw31_ParseKeys_111110100 ?_
      (try simp only [PP, Nat.reduceBEq])
      refine cdW_b (fun hbt => ?_) (fun hbt => ?_)
      · try simp only [idR_a, idR_b]
        repeat (first | (simp only [PP, Nat.reduceBEq, hM_hN hS.wf]) | (refine PU.b1 rfl ?_) | (refine PU.b2 rfl ?_) | (refine PU.b3 rfl ?_) | (refine PU.b4 rfl ?_) | (refine PU.b5 rfl ?_) | (refine PU.b6 rfl ?_) | (refine PU.b7 rfl ?_) | (refine PU.b8 rfl ?_) | (refine PU.b9 rfl ?_) | (refine hS.ldC ?_) | (refine hS.ldNC ?_) | (refine hS.ldCQ ?_) | (refine hS.ldNCQ ?_) | (refine hS.stC fun Hn hS => ?_) | (refine hS.stCQ fun Hn hS => ?_) | (refine dynOk_qt (by simp only [clL_ld, clC_ext (Ext.refl (hN _))]; rfl) ?_))
        refine cdW_cases (fun hc => ?_) (fun hc => ?_)
        · exact body _ hbt (by omega)
        · obtain rfl : j = lb0.length := by omega
          refine fin _ ?_
          rw [hb, List.take_length]
          constructor
          · rintro ⟨h1, h2⟩
            refine ⟨h1, ?_⟩
            rw [h1.1.2.2, List.take_length] at h2
            exact h2
          · rintro ⟨h1, h2⟩
            refine ⟨h1, ?_⟩
            rw [← h2, List.take_length]
      · refine fin _ ?_
        have h1 : ¬ (((n0 = n1 ∧ la0.length = la1.length ∧ lb0.length = lb1.length) ∧ la0 = la1) ∧ lb0.take j = lb1.take j) := fun h => by rw [hb.2 h] at hbt; cases hbt
        constructor
        · intro h; rw [h] at hbt; cases hbt
        · rintro ⟨h2, h3⟩; exact absurd ⟨h2, by rw [h3]⟩ h1
    have body : ∀ rg, b = true → i < la0.length → EvP Pg X (sub B_souffleurlaw31_ParseKeys [1, 1, 1, 1, 0, 1, 0, 0, 1]) (st_souffleurlaw31_ParseKeys (.agg ⟨[vi n0, vi n1]⟩) (.agg ⟨[.slice xa0 la0.length ca0, .slice xa1 la1.length ca1]⟩) (.agg ⟨[.slice xb0 lb0.length cb0, .slice xb1 lb1.length cb1]⟩) (.pointer (some ⟨r0, 0, none⟩)) (.pointer (some ⟨ra, 0, none⟩)) (.pointer (some ⟨rb, 0, none⟩)) (.bool false) (.string (keyT true n0 la0 lb0)) (.string (keyT true n1 la1 lb1)) (.bool b) (vn i) top rg H') K := by
      intro rg hbt hi
      subst hK
      have hbb := hb.1 hbt
      have hi1 : i < la1.length := by have := hbb.1.2.1; omega
      with_reducible refine c_souffleurlaw31_ParseKeys_111101001 ?_
      try simp only [idR_a, idR_b]
      obtain ⟨rx, ox, ex, hrx, hcx, _⟩ := ha0'.1.idx (c := ca0) (by omega) hi
      obtain ⟨ry, oy, ey, hry, hcy, _⟩ := ha1'.1.idx (c := ca1) (by omega) hi1
      repeat (first | (simp only [PP, Nat.reduceBEq, hM_hN hS.wf]) | (refine PU.b1 rfl ?_) | (refine PU.b2 rfl ?_) | (refine PU.b3 rfl ?_) | (refine PU.b4 rfl ?_) | (refine PU.b5 rfl ?_) | (refine PU.b6 rfl ?_) | (refine PU.b7 rfl ?_) | (refine PU.b8 rfl ?_) | (refine PU.b9 rfl ?_) | (refine hS.ldC ?_) | (refine hS.ldNC ?_) | (refine hS.ldCQ ?_) | (refine hS.ldNCQ ?_) | (refine hS.stC fun Hn hS => ?_) | (refine hS.stCQ fun Hn hS => ?_) | (refine dynOk_qt (by simp only [clL_ld, clC_ext (Ext.refl (hN _))]; rfl) ?_))
      rw [ex]
      repeat (first | (simp only [PP, Nat.reduceBEq, hM_hN hS.wf]) | (refine PU.b1 rfl ?_) | (refine PU.b2 rfl ?_) | (refine PU.b3 rfl ?_) | (refine PU.b4 rfl ?_) | (refine PU.b5 rfl ?_) | (refine PU.b6 rfl ?_) | (refine PU.b7 rfl ?_) | (refine PU.b8 rfl ?_) | (refine PU.b9 rfl ?_) | (refine hS.ldC ?_) | (refine hS.ldNC ?_) | (refine hS.ldCQ ?_) | (refine hS.ldNCQ ?_) | (refine hS.stC fun Hn hS => ?_) | (refine hS.stCQ fun Hn hS => ?_) | (refine dynOk_qt (by simp only [clL_ld, clC_ext (Ext.refl (hN _))]; rfl) ?_))
      refine hS.ldOQ (hcx 0 (vi la0[i]) (by omega) (by simp [hi])) hrx ?_
      repeat (first | (simp only [PP, Nat.reduceBEq, hM_hN hS.wf]) | (refine PU.b1 rfl ?_) | (refine PU.b2 rfl ?_) | (refine PU.b3 rfl ?_) | (refine PU.b4 rfl ?_) | (refine PU.b5 rfl ?_) | (refine PU.b6 rfl ?_) | (refine PU.b7 rfl ?_) | (refine PU.b8 rfl ?_) | (refine PU.b9 rfl ?_) | (refine hS.ldC ?_) | (refine hS.ldNC ?_) | (refine hS.ldCQ ?_) | (refine hS.ldNCQ ?_) | (refine hS.stC fun Hn hS => ?_) | (refine hS.stCQ fun Hn hS => ?_) | (refine dynOk_qt (by simp only [clL_ld, clC_ext (Ext.refl (hN _))]; rfl) ?_))
      rw [ey]
      repeat (first | (simp only [PP, Nat.reduceBEq, hM_hN hS.wf]) | (refine PU.b1 rfl ?_) | (refine PU.b2 rfl ?_) | (refine PU.b3 rfl ?_) | (refine PU.b4 rfl ?_) | (refine PU.b5 rfl ?_) | (refine PU.b6 rfl ?_) | (refine PU.b7 rfl ?_) | (refine PU.b8 rfl ?_) | (refine PU.b9 rfl ?_) | (refine hS.ldC ?_) | (refine hS.ldNC ?_) | (refine hS.ldCQ ?_) | (refine hS.ldNCQ ?_) | (refine hS.stC fun Hn hS => ?_) | (refine hS.stCQ fun Hn hS => ?_) | (refine dynOk_qt (by simp only [clL_ld, clC_ext (Ext.refl (hN _))]; rfl) ?_))
      refine hS.ldOQ (hcy 0 (vi la1[i]) (by omega) (by simp [hi1])) hry ?_
      repeat (first | (simp only [PP, Nat.reduceBEq, hM_hN hS.wf]) | (refine PU.b1 rfl ?_) | (refine PU.b2 rfl ?_) | (refine PU.b3 rfl ?_) | (refine PU.b4 rfl ?_) | (refine PU.b5 rfl ?_) | (refine PU.b6 rfl ?_) | (refine PU.b7 rfl ?_) | (refine PU.b8 rfl ?_) | (refine PU.b9 rfl ?_) | (refine hS.ldC ?_) | (refine hS.ldNC ?_) | (refine hS.ldCQ ?_) | (refine hS.ldNCQ ?_) | (refine hS.stC fun Hn hS => ?_) | (refine hS.stCQ fun Hn hS => ?_) | (refine dynOk_qt (by simp only [clL_ld, clC_ext (Ext.refl (hN _))]; rfl) ?_))
      refine PU.of (abin_add (by omega) (by omega)) ?_
      (try simp only [PP, Nat.reduceBEq])
      refine ⟨m - 1, by omega, _, _, _, _, rfl, decide (la0[i] = la1[i]), i + 1, rfl, rfl, by omega, ?_, hS⟩
      rw [decide_eq_true_iff, take_snoc_eq hi hi1]
      exact ⟨fun h => ⟨hbb.1, hbb.2, h⟩, fun h => h.2.2⟩
    with_reducible refine c_souffleurlaw31_ParseKeys_11110100 ?_
    (try simp only [PP, Nat.reduceBEq])
    refine cdW_b (fun hbt => ?_) (fun hbt => ?_)
    · try simp only [idR_a, idR_b]
      repeat (first | (simp only [PP, Nat.reduceBEq, hM_hN hS.wf]) | (refine PU.b1 rfl ?_) | (refine PU.b2 rfl ?_) | (refine PU.b3 rfl ?_) | (refine PU.b4 rfl ?_) | (refine PU.b5 rfl ?_) | (refine PU.b6 rfl ?_) | (refine PU.b7 rfl ?_) | (refine PU.b8 rfl ?_) | (refine PU.b9 rfl ?_) | (refine hS.ldC ?_) | (refine hS.ldNC ?_) | (refine hS.ldCQ ?_) | (refine hS.ldNCQ ?_) | (refine hS.stC fun Hn hS => ?_) | (refine hS.stCQ fun Hn hS => ?_) | (refine dynOk_qt (by simp only [clL_ld, clC_ext (Ext.refl (hN _))]; rfl) ?_))
      refine cdW_cases (fun hc => ?_) (fun hc => ?_)
      · exact body _ hbt (by omega)
      · obtain rfl : i = la0.length := by omega
        refine fin _ ?_
        rw [hb, List.take_length]
        constructor
        · rintro ⟨h1, h2⟩
          refine ⟨h1, ?_⟩
          rw [h1.2.1, List.take_length] at h2
          exact h2
        · rintro ⟨h1, h2⟩
          refine ⟨h1, ?_⟩
          rw [← h2, List.take_length]
    · refine fin _ ?_
      have h1 : ¬ ((n0 = n1 ∧ la0.length = la1.length ∧ lb0.length = lb1.length) ∧ la0.take i = la1.take i) := fun h => by rw [hb.2 h] at hbt; cases hbt
      constructor
      · intro h; rw [h] at hbt; cases hbt
      · rintro ⟨h2, h3⟩; exact absurd ⟨h2, by rw [h3]⟩ h1
  try simp only [idR_a, idR_b]
  repeat (first | (simp only [PP, Nat.reduceBEq, hM_hN hS.wf]) | (refine PU.b1 rfl ?_) | (refine PU.b2 rfl ?_) | (refine PU.b3 rfl ?_) | (refine PU.b4 rfl ?_) | (refine PU.b5 rfl ?_) | (refine PU.b6 rfl ?_) | (refine PU.b7 rfl ?_) | (refine PU.b8 rfl ?_) | (refine PU.b9 rfl ?_) | (refine hS.ldC ?_) | (refine hS.ldNC ?_) | (refine hS.ldCQ ?_) | (refine hS.ldNCQ ?_) | (refine hS.stC fun Hn hS => ?_) | (refine hS.stCQ fun Hn hS => ?_) | (refine dynOk_qt (by simp only [clL_ld, clC_ext (Ext.refl (hN _))]; rfl) ?_))
  refine cdW_cases (fun h1 => ?_) (fun h1 => ?_)
  · try simp only [idR_a, idR_b]
    repeat (first | (simp only [PP, Nat.reduceBEq, hM_hN hS.wf]) | (refine PU.b1 rfl ?_) | (refine PU.b2 rfl ?_) | (refine PU.b3 rfl ?_) | (refine PU.b4 rfl ?_) | (refine PU.b5 rfl ?_) | (refine PU.b6 rfl ?_) | (refine PU.b7 rfl ?_) | (refine PU.b8 rfl ?_) | (refine PU.b9 rfl ?_) | (refine hS.ldC ?_) | (refine hS.ldNC ?_) | (refine hS.ldCQ ?_) | (refine hS.ldNCQ ?_) | (refine hS.stC fun Hn hS => ?_) | (refine hS.stCQ fun Hn hS => ?_) | (refine dynOk_qt (by simp only [clL_ld, clC_ext (Ext.refl (hN _))]; rfl) ?_))
    refine cdW_cases (fun h2 => ?_) (fun h2 => ?_)
    · try simp only [idR_a, idR_b]
      repeat (first | (simp only [PP, Nat.reduceBEq, hM_hN hS.wf]) | (refine PU.b1 rfl ?_) | (refine PU.b2 rfl ?_) | (refine PU.b3 rfl ?_) | (refine PU.b4 rfl ?_) | (refine PU.b5 rfl ?_) | (refine PU.b6 rfl ?_) | (refine PU.b7 rfl ?_) | (refine PU.b8 rfl ?_) | (refine PU.b9 rfl ?_) | (refine hS.ldC ?_) | (refine hS.ldNC ?_) | (refine hS.ldCQ ?_) | (refine hS.ldNCQ ?_) | (refine hS.stC fun Hn hS => ?_) | (refine hS.stCQ fun Hn hS => ?_) | (refine dynOk_qt (by simp only [clL_ld, clC_ext (Ext.refl (hN _))]; rfl) ?_))
      exact key _ _ _ (by rw [decide_eq_true_iff]; omega) hS
    · exact key _ _ _ (by constructor <;> intro h; cases h; omega) hS
  · exact key _ _ _ (by constructor <;> intro h; cases h; exact absurd h.1 h1) hS
end Go.Proofs.Lk
