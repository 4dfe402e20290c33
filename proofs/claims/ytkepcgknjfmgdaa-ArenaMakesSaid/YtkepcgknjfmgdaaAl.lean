/-
  ArenaMakes: whatever steps are made, the law returns true. No condition.
-/
import Derived.Test.YtkepcgknjfmgdaaJo
import Derived.Test.YtkepcgknjfmgdaaOl
import Derived.Test.YtkepcgknjfmgdaaAw
set_option linter.unusedVariables false
set_option linter.unusedSimpArgs false
namespace Go.Proofs.Ar
open Go.RowKit Go.Lib Go.Sort
variable {w : World} {base mb : Nat} {nv ov : Value} {ls : List (Nd × Value)} {op : List Nat} {tk : Nat}

set_option maxHeartbeats 2000000 in
theorem begin_does (w : World) : Calls Try.prog 8 #[] w fun e w' => ∃ mb, e = .returned (.pointer (some ⟨mb, 0, none⟩)) ∧ mb < w'.heap.size ∧ Leaves w w.heap.size mb [] [] 0 w' := by
  go_enter Try.func8, Try.ntmps8
  go_wp2
  go_ret
  refine ⟨_, rfl, by simp, .slice none 0 0, .slice none 0 0, ⟨heap_alloc_new w _, ⟨Nat.le_refl _, by simp⟩, World.ownsRow_nil _ _ _ _, World.ownsRow_nil _ _ _ _, fun i p h => by simp at h, by simp [Value.ownBlock], by simp [Value.ownBlock], fun i p h => by simp at h, .inl rfl, fun i p h => by simp at h, fun i j p q h => by simp at h⟩, (Below.refl _ w).alloc (Nat.le_refl _) _⟩

/-- steps as they lie there. -/
def ActsAt (w : World) (b off n : Nat) : Prop := ∀ i, i < n → ∃ kd ag : Int, w.cell? ⟨b, off + i * 2, none⟩ = some (.int .i64 kd) ∧ w.cell? ⟨b, off + i * 2 + 1, none⟩ = some (.int .i64 ag)

set_option maxHeartbeats 8000000 in
set_option maxRecDepth 1000000 in
theorem law_acts (b off n c : Nat) (w : World) (h0 : 0 < n) (hA : ActsAt w b off n) :
    Calls Try.prog 4 #[.slice (some ⟨b, off, none⟩) n c] w fun e w' => e = .returned (.bool true) ∧ Below w.heap.size w w' := by
  have HA := Lib.hid hA
  have HN0 := Lib.hid h0
  clear hA h0
  go_enter Try.func4, Try.ntmps4
  go_upto_region 5 with (go_at_call 8; refine (begin_does _).mono ?_; rintro ee w1 ⟨mb, rfl, hmb, hl⟩; have HMB := Lib.hid hmb; have HL := Lib.hid hl; clear hmb hl)
  go_loopg [5, 6, 7, 8] 40 (fun kx s5 s6 s7 s8 wr => ∃ (i : Nat) (ls : List (Nd × Value)) (op : List Nat) (tk o n6 : Nat), s5 = .int .i64 o ∧ s6 = .int .i64 n6 ∧ s7 = .int .i64 tk ∧ s8 = .int .i64 i ∧ i ≤ n ∧ i ≤ 40 ∧ 40 - i ≤ kx ∧ n6 ≤ i ∧ tk ≤ i ∧ o ≤ i ∧ Hid (n6 = ls.length ∧ o = op.length ∧ Leaves w w.heap.size mb ls op tk wr ∧ Inv (nodeAt ls) ls.length op tk))
  case atStart => exact ⟨0, [], [], 0, 0, 0, rfl, rfl, rfl, rfl, Nat.zero_le _, by omega, by omega, Nat.le_refl _, Nat.le_refl _, Nat.le_refl _, rfl, rfl, HL.out, Inv.zero _⟩
  case round =>
    clear HL
    obtain ⟨i, ls, op, tk, o, n6, rfl, rfl, rfl, rfl, hin, hi40, hkx, hn6, htk, ho, hH⟩ := hrel
    by_cases hlt : i < n ∧ i < 40
    · have hltz : (i : Int) < (n : Int) := by omega
      have hltw : (i : Int) < 40 := by omega
      obtain ⟨kd, ag, hk, ha⟩ := HA.out i hlt.1
      have hbl : b < w.heap.size := World.block_lt_of_cell? _ _ hk
      obtain ⟨nv, ov, hmk, hbel⟩ := hH.out.2.2.1
      have hk' : wr.cell? ⟨b, off + i * 2, none⟩ = some (.int .i64 kd) := by rw [hbel.cell (p := ⟨b, _, none⟩) hbl]; exact hk
      have ha' : wr.cell? ⟨b, off + i * 2 + 1, none⟩ = some (.int .i64 ag) := by rw [hbel.cell (p := ⟨b, _, none⟩) hbl]; exact ha
      have HMK := Lib.hid hmk
      have HBE := Lib.hid hbel
      clear hmk hbel hk ha hbl
      go_upto_region 9 with fail
      obtain ⟨W, hW⟩ : ∃ W, W = wr.alloc (.cells #[.int .i64 kd, .int .i64 ag] 33) := ⟨_, rfl⟩
      obtain ⟨xb, hxb⟩ : ∃ xb, xb = wr.heap.size := ⟨_, rfl⟩
      have b0 : W.cell? ⟨xb, 0, none⟩ = some (.int .i64 kd) := by rw [hW, hxb]; simp
      have b1 : W.cell? ⟨xb, 1, none⟩ = some (.int .i64 ag) := by rw [hW, hxb]; simp
      have hM := HMK.out.alloc (.cells #[.int .i64 kd, .int .i64 ag] 33)
      have hB := HBE.out.alloc HMK.out.lo.2 (.cells #[.int .i64 kd, .int .i64 ag] 33)
      rw [← hW] at hM hB
      rw [← hW, ← hxb]
      have HM := Lib.hid hM
      have HB := Lib.hid hB
      clear hM hB hW hxb HMK HBE hk' ha'
      rename_i aK
      have HK := Lib.hid aK
      clear aK
      go_wp2
      refine HK.out _ _ ?_
      clear HK
      go_cut [5, 6, 7, 10] from 31 to 77 (fun s5 s6 s7 s10 wx => ∃ (ls : List (Nd × Value)) (op : List Nat) (tk o n6 : Nat), s5 = .int .i64 o ∧ s6 = .int .i64 n6 ∧ s7 = .int .i64 tk ∧ n6 ≤ i + 1 ∧ tk ≤ i + 1 ∧ o ≤ i + 1 ∧ Hid (n6 = ls.length ∧ o = op.length ∧ Leaves w w.heap.size mb ls op tk wx ∧ Inv (nodeAt ls) ls.length op tk))
      case first =>
        obtain ⟨e6, eo, _, hI⟩ := hH.out
        have HI := Lib.hid hI
        have stay : Hid (n6 = ls.length ∧ o = op.length ∧ Leaves w w.heap.size mb ls op tk W ∧ Inv (nodeAt ls) ls.length op tk) := ⟨e6, eo, ⟨_, _, HM.out, HB.out⟩, hI⟩
        clear hI
        by_cases hk0 : kd = 0
        · subst hk0
          by_cases hr : 0 < n6 ∧ o = 0
          · obtain ⟨hr1, rfl⟩ := hr
            obtain rfl : op = [] := List.length_eq_zero_iff.1 eo.symm
            have hc : Calls Try.prog 9 #[.pointer (some ⟨mb, 0, none⟩), .int .i64 ag] W fun e w' => e = .returned (.int .i64 32) ∧ W = w' := open_none HM.out (by omega) ag
            have HC := Lib.hid hc
            have d1 : decide ((n6 : Int) > 0) = true := by simp; omega
            have d2 : (0 : Int) < (n6 : Int) := by omega
            clear hc e6 eo
            go_wp2_with (go_at_call 9; refine HC.out.mono ?_; rintro ee w3 ⟨rfl, rfl⟩)
            go_meet
            case rel => exact ⟨ls, [], tk, 0, n6, rfl, rfl, rfl, by omega, by omega, by omega, stay⟩
          · by_cases ha : ag < 0
            · have hc : Calls Try.prog 9 #[.pointer (some ⟨mb, 0, none⟩), .int .i64 ag] W fun e w' => e = .returned (.int .i64 2) ∧ W = w' := open_less HM.out (by omega) ag ha
              have HC := Lib.hid hc
              have hd : (decide ((n6 : Int) > 0) = false ∧ ¬ (0 : Int) < (n6 : Int)) ∨ (decide ((n6 : Int) > 0) = true ∧ (0 : Int) < (n6 : Int) ∧ ((o : Int) == 0) = false ∧ (o : Int) ≠ 0) := by
                by_cases hz : n6 = 0
                · left; simp; omega
                · right; refine ⟨by simp; omega, by omega, by simp; omega, by omega⟩
              clear hc e6 eo
              rcases hd with ⟨z1, z2⟩ | ⟨z1, z2, z3, z4⟩
              · go_wp2_with (go_at_call 9; refine HC.out.mono ?_; rintro ee w3 ⟨rfl, rfl⟩)
                go_meet
                case rel => exact ⟨ls, op, tk, _, n6, rfl, rfl, rfl, by omega, by omega, by omega, stay⟩
              · go_wp2_with (go_at_call 9; refine HC.out.mono ?_; rintro ee w3 ⟨rfl, rfl⟩)
                go_meet
                case rel => exact ⟨ls, op, tk, _, n6, rfl, rfl, rfl, by omega, by omega, by omega, stay⟩
            · have hc : Calls Try.prog 9 #[.pointer (some ⟨mb, 0, none⟩), .int .i64 ag] W fun e w' => e = .returned (.int .i64 0) ∧ ∃ l, l.length = ls.length + 1 ∧ Inv (nodeAt l) l.length (op ++ [ls.length]) tk ∧ Leaves W w.heap.size mb l (op ++ [ls.length]) tk w' := open_does HM.out HI.out (by omega) (by omega) (by omega) (by omega) ag (by omega)
              have HC := Lib.hid hc
              have hd : (decide ((n6 : Int) > 0) = false ∧ ¬ (0 : Int) < (n6 : Int)) ∨ (decide ((n6 : Int) > 0) = true ∧ (0 : Int) < (n6 : Int) ∧ ((o : Int) == 0) = false ∧ (o : Int) ≠ 0) := by
                by_cases hz : n6 = 0
                · left; simp; omega
                · right; refine ⟨by simp; omega, by omega, by simp; omega, by omega⟩
              have E6 := Lib.hid e6
              have EO := Lib.hid eo
              clear hc e6 eo
              have fin : ∀ w3, (∃ l, l.length = ls.length + 1 ∧ Inv (nodeAt l) l.length (op ++ [ls.length]) tk ∧ Leaves W w.heap.size mb l (op ++ [ls.length]) tk w3) → ∃ (ls : List (Nd × Value)) (op : List Nat), Hid (n6 + 1 = ls.length ∧ o + 1 = op.length ∧ Leaves w w.heap.size mb ls op tk w3 ∧ Inv (nodeAt ls) ls.length op tk) := by
                rintro w3 ⟨l, h1, h2, nv2, ov2, h3, h4⟩
                exact ⟨l, _, by rw [h1, E6.out], by rw [EO.out]; simp, ⟨nv2, ov2, h3, HB.out.trans h4⟩, h2⟩
              have FIN := Lib.hid fin
              clear fin
              rcases hd with ⟨z1, z2⟩ | ⟨z1, z2, z3, z4⟩
              · go_wp2_with (go_at_call 9; refine HC.out.mono ?_; rintro ee w3 ⟨rfl, hq0⟩; obtain ⟨l2, op2, hq⟩ := FIN.out _ hq0; clear hq0)
                go_meet
                case rel =>
                  exact ⟨l2, op2, tk, o + 1, n6 + 1, by go_num, by go_num, rfl, by omega, by omega, by omega, hq⟩
              · go_wp2_with (go_at_call 9; refine HC.out.mono ?_; rintro ee w3 ⟨rfl, hq0⟩; obtain ⟨l2, op2, hq⟩ := FIN.out _ hq0; clear hq0)
                go_meet
                case rel =>
                  exact ⟨l2, op2, tk, o + 1, n6 + 1, by go_num, by go_num, rfl, by omega, by omega, by omega, hq⟩
        · have k0 : (kd == 0) = false := by simp; omega
          by_cases hk1 : kd = 1
          · subst hk1
            by_cases hz : o = 0
            · subst hz
              obtain rfl : op = [] := List.length_eq_zero_iff.1 eo.symm
              have hc : Calls Try.prog 10 #[.pointer (some ⟨mb, 0, none⟩), .int .i64 ag] W fun e w' => e = .returned (.int .i64 32) ∧ W = w' := leaf_none HM.out ag
              have HC := Lib.hid hc
              clear hc e6 eo
              go_wp2_with (go_at_call 10; refine HC.out.mono ?_; rintro ee w3 ⟨rfl, rfl⟩)
              go_meet
              case rel => exact ⟨ls, [], tk, 0, n6, rfl, rfl, rfl, by omega, by omega, by omega, stay⟩
            · have z3 : ((o : Int) == 0) = false := by simp; omega
              have z4 : (o : Int) ≠ 0 := by omega
              by_cases ha : ag < 0
              · have hc : Calls Try.prog 10 #[.pointer (some ⟨mb, 0, none⟩), .int .i64 ag] W fun e w' => e = .returned (.int .i64 2) ∧ W = w' := leaf_less HM.out (by omega) ag ha
                have HC := Lib.hid hc
                clear hc e6 eo
                go_wp2_with (go_at_call 10; refine HC.out.mono ?_; rintro ee w3 ⟨rfl, rfl⟩)
                go_meet
                case rel => exact ⟨ls, op, tk, _, n6, rfl, rfl, rfl, by omega, by omega, by omega, stay⟩
              · have hc : Calls Try.prog 10 #[.pointer (some ⟨mb, 0, none⟩), .int .i64 ag] W fun e w' => e = .returned (.int .i64 0) ∧ ∃ l, l.length = ls.length + 1 ∧ Inv (nodeAt l) l.length op (tk + 1) ∧ Leaves W w.heap.size mb l op (tk + 1) w' := leaf_does HM.out HI.out (by omega) (by omega) (by omega) (by omega) ag (by omega)
                have HC := Lib.hid hc
                have E6 := Lib.hid e6
                have EO := Lib.hid eo
                clear hc e6 eo
                have fin : ∀ w3, (∃ l, l.length = ls.length + 1 ∧ Inv (nodeAt l) l.length op (tk + 1) ∧ Leaves W w.heap.size mb l op (tk + 1) w3) → ∃ (ls : List (Nd × Value)), Hid (n6 + 1 = ls.length ∧ o = op.length ∧ Leaves w w.heap.size mb ls op (tk + 1) w3 ∧ Inv (nodeAt ls) ls.length op (tk + 1)) := by
                  rintro w3 ⟨l, h1, h2, nv2, ov2, h3, h4⟩
                  exact ⟨l, by rw [h1, E6.out], EO.out, ⟨nv2, ov2, h3, HB.out.trans h4⟩, h2⟩
                have FIN := Lib.hid fin
                clear fin
                go_wp2_with (go_at_call 10; refine HC.out.mono ?_; rintro ee w3 ⟨rfl, hq0⟩; obtain ⟨l2, hq⟩ := FIN.out _ hq0; clear hq0)
                go_meet
                case rel =>
                  exact ⟨l2, op, tk + 1, o, n6 + 1, rfl, by go_num, by go_num, by omega, by omega, by omega, hq⟩
          · have k1 : (kd == 1) = false := by simp; omega
            by_cases hz : o = 0
            · subst hz
              obtain rfl : op = [] := List.length_eq_zero_iff.1 eo.symm
              have hc : Calls Try.prog 11 #[.pointer (some ⟨mb, 0, none⟩)] W fun e w' => e = .returned (.int .i64 32) ∧ W = w' := shut_none HM.out
              have HC := Lib.hid hc
              clear hc e6 eo
              go_wp2_with (go_at_call 11; refine HC.out.mono ?_; rintro ee w3 ⟨rfl, rfl⟩)
              go_meet
              case rel => exact ⟨ls, [], tk, 0, n6, rfl, rfl, rfl, by omega, by omega, by omega, stay⟩
            · have z3 : ((o : Int) == 0) = false := by simp; omega
              have z4 : (o : Int) ≠ 0 := by omega
              obtain ⟨op', t, rfl⟩ : ∃ op' t, op = op' ++ [t] := by
                have hne : op ≠ [] := fun e => by rw [e] at eo; exact hz eo
                exact ⟨op.dropLast, op.getLast hne, (List.dropLast_concat_getLast hne).symm⟩
              have eo1 : o = op'.length + 1 := by rw [eo]; simp
              have hc : Calls Try.prog 11 #[.pointer (some ⟨mb, 0, none⟩)] W fun e w' => e = .returned (.int .i64 0) ∧ ∃ l, l.length = ls.length ∧ Inv (nodeAt l) l.length op' tk ∧ Leaves W w.heap.size mb l op' tk w' := shut_does op' t HM.out HI.out (by omega) (by omega)
              have HC := Lib.hid hc
              have E6 := Lib.hid e6
              have EO := Lib.hid eo1
              obtain ⟨o1, ho1⟩ : ∃ o1 : Nat, o = o1 + 1 := ⟨o - 1, by omega⟩
              subst ho1
              clear hc e6 eo eo1
              have fin : ∀ w3, (∃ l, l.length = ls.length ∧ Inv (nodeAt l) l.length op' tk ∧ Leaves W w.heap.size mb l op' tk w3) → ∃ (ls : List (Nd × Value)), Hid (n6 = ls.length ∧ o1 = op'.length ∧ Leaves w w.heap.size mb ls op' tk w3 ∧ Inv (nodeAt ls) ls.length op' tk) := by
                rintro w3 ⟨l, h1, h2, nv2, ov2, h3, h4⟩
                exact ⟨l, by rw [h1, E6.out], by have := EO.out; omega, ⟨nv2, ov2, h3, HB.out.trans h4⟩, h2⟩
              have FIN := Lib.hid fin
              clear fin
              go_wp2_with (go_at_call 11; refine HC.out.mono ?_; rintro ee w3 ⟨rfl, hq0⟩; obtain ⟨l2, hq⟩ := FIN.out _ hq0; clear hq0)
              go_meet
              case rel =>
                exact ⟨l2, op', tk, o1, n6, by go_num, rfl, rfl, by omega, by omega, by omega, hq⟩
      case rest =>
        clear hH HM HB b0 b1
        obtain ⟨ls, op, tk, o, n6, rfl, rfl, rfl, h6, ht, ho', hH⟩ := hcut
        obtain ⟨e6, eo, ⟨nv, ov, hM, hB⟩, hI⟩ := hH.out
        have hc : Calls Try.prog 12 #[.pointer (some ⟨mb, 0, none⟩)] wc (TreeDone wc ls op tk) := tree_some hM (by omega) (by omega) (fun t ht => (hI.oplt t ht).1) (fun i p hp => by
          have := (hI.small i (List.getElem?_eq_some_iff.1 hp).1).2
          rw [nodeAt_some hp] at this
          omega)
        have HC := Lib.hid hc
        have HM := Lib.hid hM
        have HB := Lib.hid hB
        have HI := Lib.hid hI
        have E6 := Lib.hid e6
        have EO := Lib.hid eo
        clear hc hM hB hI e6 eo hH
        have body : ∀ (W5 : World) (tb : Nat) (kvs : Nat → Value), True := fun _ _ _ => trivial
        clear body
        go_upto_region 32 with (go_at_call 12; refine HC.out.mono ?_; rintro ee w3 ⟨tb, kvs, rfl, ht, hb⟩; have HT := Lib.hid ht; have HB3 := Lib.hid hb; clear ht hb)
        obtain ⟨V, hV⟩ : ∃ V, V = w3.alloc (.cells #[.slice (some ⟨tb, 0, none⟩) ls.length ls.length] 39) := ⟨_, rfl⟩
        obtain ⟨bb, hbb⟩ : ∃ bb, bb = w3.heap.size := ⟨_, rfl⟩
        have hbV : Below w3.heap.size w3 V := by rw [hV]; exact (Below.refl _ _).alloc (Nat.le_refl _) _
        have x0 : V.cell? ⟨bb, 0, none⟩ = some (.slice (some ⟨tb, 0, none⟩) n6 n6) := by rw [hV, hbb, E6.out]; simp
        have hTV := Lib.hid (HT.out.below hbV)
        have hBV := Lib.hid ((HB.out.trans (HB3.out.mono HB.out.size)).trans (hbV.mono (by have := HB.out.size; have := HB3.out.size; omega)))
        have hMV := Lib.hid ((HM.out.below HB3.out).below hbV)
        have hxb : bb < V.heap.size := World.block_lt_of_cell? _ _ x0
        have hbs : Hid (w3.heap.size ≤ V.heap.size) := hbV.size
        rw [← hV, ← hbb, ← E6.out]
        clear hV hbb hbV HC HT HB3 HB HM
        have hr : ∀ W, Below V.heap.size V W → Calls Try.prog 13 #[.agg #[.slice (some ⟨tb, 0, none⟩) n6 n6]] W (BelowB (decide (0 < n6)) W) := fun W hW => by
          by_cases hz : n6 = 0
          · subst hz; exact right_none _ _ W
          · have := right_true _ tb n6 kvs (treeOf ls op tk) W (hTV.out.below (hW.mono hbs.out)) (HI.out.good (by have := E6.out; omega) (by have := E6.out; omega) (by omega))
            rw [treeOf_size, ← E6.out] at this
            rw [show decide (0 < n6) = true by simp; omega]
            exact this
        have hl : ∀ W, Below V.heap.size V W → Calls Try.prog 14 #[.agg #[.slice (some ⟨tb, 0, none⟩) n6 n6]] W (SliceOf tk W) := fun W hW => by
          by_cases hz : n6 = 0
          · subst hz
            rw [(HI.out.none E6.out.symm).2]
            exact leaves_none _ _ W
          · have ht0 := HI.out.til0 (by have := E6.out; omega)
            have := leaves_true _ tb n6 kvs (treeOf ls op tk) W (hTV.out.below (hW.mono hbs.out)) (HI.out.good (by have := E6.out; omega) (by have := E6.out; omega) (by omega)) (fun i hi htk => by rw [ht0]; exact HI.out.toks i hi htk) (by rw [ht0]; omega)
            rw [treeOf_size, ← E6.out, ht0] at this
            exact this
        have HR := Lib.hid hr
        have HL := Lib.hid hl
        clear hr hl
        have two : (n6 = 0 ∧ decide (0 < n6) = false ∧ decide ((n6 : Int) > 0) = false ∧ ¬ (0 : Int) < (n6 : Int)) ∨ (decide (0 < n6) = true ∧ decide ((n6 : Int) > 0) = true ∧ (0 : Int) < (n6 : Int)) := by
          by_cases hz : n6 = 0
          · left; refine ⟨hz, by simp; omega, by simp; omega, by omega⟩
          · right; refine ⟨by simp; omega, by simp; omega, by omega⟩
        go_cut [97] from 79 to 98 (fun s97 wx => s97 = .bool false ∧ Hid (Below V.heap.size V wx))
        case first =>
          rcases two with ⟨hz, z1, z2, z3⟩ | ⟨z1, z2, z3⟩
          · rw [z1] at HR
            have HZ := Lib.hid hz
            clear hz
            go_wp2_with (first | (go_at_call 13; refine (HR.out _ (Below.refl _ _)).mono ?_; rintro ee w4 ⟨rfl, hb4⟩; have x4 : w4.cell? ⟨bb, 0, none⟩ = some (.slice (some ⟨tb, 0, none⟩) n6 n6) := (hb4.cell (p := ⟨bb, 0, none⟩) hxb).trans x0; have HB4 := Lib.hid hb4; clear hb4) | (go_at_call 14; refine (HL.out _ HB4.out).mono ?_; rintro ee w5 ⟨⟨la, lc, rfl⟩, hb5⟩; have HB5 := Lib.hid (HB4.out.trans (hb5.mono HB4.out.size)); clear hb5))
            go_meet
            case rel => exact ⟨rfl, HB5⟩
          · rw [z1] at HR
            go_wp2_with (first | (go_at_call 13; refine (HR.out _ (Below.refl _ _)).mono ?_; rintro ee w4 ⟨rfl, hb4⟩; have x4 : w4.cell? ⟨bb, 0, none⟩ = some (.slice (some ⟨tb, 0, none⟩) n6 n6) := (hb4.cell (p := ⟨bb, 0, none⟩) hxb).trans x0; have HB4 := Lib.hid hb4; clear hb4) | (go_at_call 14; refine (HL.out _ HB4.out).mono ?_; rintro ee w5 ⟨⟨la, lc, rfl⟩, hb5⟩; have HB5 := Lib.hid (HB4.out.trans (hb5.mono HB4.out.size)); clear hb5))
            go_meet
            case rel => exact ⟨rfl, HB5⟩
        case rest =>
          clear HR HL two
          obtain ⟨rfl, hcut⟩ := hcut
          have hb0 : wc.cell? ⟨bb, 0, none⟩ = some (.slice (some ⟨tb, 0, none⟩) n6 n6) := (hcut.out.cell (p := ⟨bb, 0, none⟩) hxb).trans x0
          have hTc := Lib.hid (hTV.out.below (hcut.out.mono hbs.out))
          have cell5 : Hid (∀ k, k < n6 → wc.cell? ⟨tb, k * 6 + 5, none⟩ = some (.bool (decide (k ∈ op)))) := fun k hk => by
            have h1 := hTc.out.cells k (by rw [treeOf_size, ← E6.out]; exact hk) 5 (by omega)
            rw [h1, treeOf_get _ _ _ _ (by rw [← E6.out]; exact hk)]
            show some (Value.bool _) = _
            rw [shn_opn _ _ _ _ (HI.out.opn k (by rw [← E6.out]; exact hk))]
          have hBc := Lib.hid (hBV.out.trans (hcut.out.mono (by have := hBV.out.size; omega)))
          have hMc := Lib.hid (hMV.out.below hcut.out)
          have hst : Hid (∀ k, opensTo op (k + 1) = opensTo op k + if k ∈ op then 1 else 0) := fun k => opensTo_step op HI.out.asc k
          have hal : Hid (opensTo op n6 = o) := (opensTo_all op n6 (fun t ht => by rw [E6.out]; exact (HI.out.oplt t ht).1)).trans EO.out.symm
          have hle : Hid (∀ k, opensTo op k ≤ o) := fun k => by rw [EO.out]; exact List.countP_le_length
          clear hTc x0 hbs hxb hBV hTV hMV hcut
          go_wp2
          go_loopg [12, 13] n6 (fun kx s12 s13 wr => ∃ k, s12 = .int .i64 (opensTo op k) ∧ s13 = .int .i64 k ∧ k ≤ n6 ∧ n6 - k ≤ kx ∧ Hid (wr = wc))
          case atStart => exact ⟨0, by simp [opensTo], rfl, Nat.zero_le _, Nat.le_refl _, rfl⟩
          case round =>
            obtain ⟨k, rfl, rfl, hkn, hkx2, hw⟩ := hrel
            obtain rfl := hw.out
            have hok := hle.out k
            by_cases hlt2 : k < n6
            · have c5 := cell5.out k hlt2
              have hs := hst.out k
              have hltz2 : (k : Int) < (n6 : Int) := by omega
              by_cases hko : k ∈ op
              · rw [show decide (k ∈ op) = true by simpa using hko] at c5
                rw [if_pos hko] at hs
                have HS := Lib.hid hs
                clear hs hko
                go_wp2
                go_roundg (n6 - (k + 1))
                case rel => exact ⟨k + 1, by rw [HS.out]; go_num, by go_num, by omega, by omega, rfl⟩
                case measure => omega
              · rw [show decide (k ∈ op) = false by simpa using hko] at c5
                rw [if_neg hko] at hs
                have HS := Lib.hid hs
                clear hs hko
                go_wp2
                go_roundg (n6 - (k + 1))
                case rel => exact ⟨k + 1, by rw [HS.out]; rfl, by go_num, by omega, by omega, rfl⟩
                case measure => omega
            · obtain rfl : k = n6 := by omega
              rw [hal.out]
              clear hlt2 hok
              go_wp2
              go_roundg (40 - (i + 1))
              case rel => exact ⟨i + 1, ls, op, tk, o, k, rfl, rfl, rfl, by go_num, by omega, by omega, by omega, by omega, by omega, by omega, E6.out, EO.out, ⟨nv, ov, hMc.out, hBc.out⟩, HI.out⟩
              case measure => omega
    · obtain ⟨-, -, ⟨nv, ov, hM, hB⟩, -⟩ := hH.out
      have HB := Lib.hid hB
      have HM := Lib.hid hM
      clear hH hM hB
      have hd : (decide ((i : Int) < (n : Int)) = false ∧ ¬ (i : Int) < (n : Int)) ∨ ((i : Int) < (n : Int) ∧ decide ((i : Int) < (n : Int)) = true ∧ decide ((i : Int) < 40) = false ∧ ¬ (i : Int) < 40) := by
        by_cases h : i < n
        · right; exact ⟨by omega, by simp; omega, by simp; omega, by omega⟩
        · left; exact ⟨by simp; omega, by omega⟩
      clear hlt hin hi40
      have hfd : ∀ (a : Option Addr) (l c : Nat) (w : World), (Instr.field 39 (.agg #[.slice a l c]) 0).run Try.prog w = .ok (.slice a l c) w := fun _ _ _ _ => by kernel_rfl
      rcases hd with ⟨z1, z2⟩ | ⟨z1, z2, z3, z4⟩
      · go_wp2_with (first | (go_at_call 9; (with_reducible refine (open_nil _ _).mono ?_); rintro ee w3 ⟨rfl, rfl⟩) | (go_at_call 10; (with_reducible refine (leaf_nil _ _).mono ?_); rintro ee w3 ⟨rfl, rfl⟩) | (go_at_call 11; (with_reducible refine (shut_nil _).mono ?_); rintro ee w3 ⟨rfl, rfl⟩) | (go_at_call 12; (with_reducible refine (tree_nil _).mono ?_); rintro ee w4 ⟨⟨ta, tc, rfl⟩, hb2⟩; have HB2 := Lib.hid hb2; clear hb2) | (go_at_call 9; (with_reducible refine (open_bare _ _ _ (by simp)).mono ?_); rintro ee w3 ⟨rfl, rfl⟩) | (go_at_call 15; (with_reducible refine (works_any _).mono ?_); rintro ee w3 ⟨rfl, hb3⟩; have HB3 := Lib.hid hb3; clear hb3))
        go_ret
        refine ⟨rfl, ?_⟩
        have B1 := HB.out.trans (HB2.out.mono HB.out.size)
        have B2 := B1.alloc B1.size
        exact (B2 _).trans (HB3.out.mono (B2 _).size)
      · go_wp2_with (first | (go_at_call 9; (with_reducible refine (open_nil _ _).mono ?_); rintro ee w3 ⟨rfl, rfl⟩) | (go_at_call 10; (with_reducible refine (leaf_nil _ _).mono ?_); rintro ee w3 ⟨rfl, rfl⟩) | (go_at_call 11; (with_reducible refine (shut_nil _).mono ?_); rintro ee w3 ⟨rfl, rfl⟩) | (go_at_call 12; (with_reducible refine (tree_nil _).mono ?_); rintro ee w4 ⟨⟨ta, tc, rfl⟩, hb2⟩; have HB2 := Lib.hid hb2; clear hb2) | (go_at_call 9; (with_reducible refine (open_bare _ _ _ (by simp)).mono ?_); rintro ee w3 ⟨rfl, rfl⟩) | (go_at_call 15; (with_reducible refine (works_any _).mono ?_); rintro ee w3 ⟨rfl, hb3⟩; have HB3 := Lib.hid hb3; clear hb3))
        go_ret
        refine ⟨rfl, ?_⟩
        have B1 := HB.out.trans (HB2.out.mono HB.out.size)
        have B2 := B1.alloc B1.size
        exact (B2 _).trans (HB3.out.mono (B2 _).size)
end Go.Proofs.Ar
