/-
  What is laid of a number, and of a choice. Condition: numbers of 64 bits, at most 60 of them.
-/
import Derived.Test.YtnhfokplkmlibaaGreatDoorLk
import Derived.Test.YtnhfokplkmlibaaGreatDoorKp
set_option linter.unusedVariables false
set_option linter.unusedSimpArgs false
set_option maxRecDepth 100000
set_option maxHeartbeats 4000000
namespace Go.Proofs.Lk
open Go.Ae Go.Ae.Keys
variable {S : List Nat} {H0 H : AHeap} {L : List Blk}
def Q1 (p : Value → AHeap → Prop) (H : AHeap) (v : Value) (H' : AHeap) : Prop := p v H' ∧ Ext H H'
abbrev u8v (n : Nat) : Value := .int .u8 (n : Int)
theorem u64_wrap (n : Int) : IntKind.u64.wrap n = n % 18446744073709551616 := rfl
theorem bXor_zero {a : Int} (h0 : 0 ≤ a) (h1 : a < 18446744073709551616) : bXor .u64 a 0 = a := by
  show IntKind.u64.wrap (((BitVec.ofInt 64 a ^^^ BitVec.ofInt 64 0).toNat : Nat) : Int) = a
  have h2 : (BitVec.ofInt 64 a ^^^ BitVec.ofInt 64 0) = BitVec.ofInt 64 a := by simp
  rw [h2, u64_wrap, BitVec.toNat_ofInt]
  omega
theorem bXor_ones {a : Int} (h0 : 0 ≤ a) (h1 : a < 18446744073709551616) : bXor .u64 a 18446744073709551615 = 18446744073709551615 - a := by
  show IntKind.u64.wrap (((BitVec.ofInt 64 a ^^^ BitVec.ofInt 64 18446744073709551615).toNat : Nat) : Int) = _
  have h2 : (BitVec.ofInt 64 a ^^^ BitVec.ofInt 64 18446744073709551615) = ~~~ (BitVec.ofInt 64 a) := by
    rw [show BitVec.ofInt 64 18446744073709551615 = BitVec.allOnes 64 by decide, BitVec.xor_allOnes]
  rw [h2, u64_wrap, BitVec.toNat_not, BitVec.toNat_ofInt]
  omega
/-- bits of a number that is laid. -/
theorem zig_bits {n : Int} (h : In n) : bXor .u64 (bShl .u64 (wrapA .u64 n) 1) (wrapA .u64 (bShr .i64 n 63)) = (zig n : Int) := by
  obtain ⟨h1, h2⟩ := h
  have e1 : wrapA .u64 n = n % 18446744073709551616 := by rw [wrapA_eq]; rfl
  have e2 : bShl .u64 (wrapA .u64 n) 1 = (n % 18446744073709551616 * 2) % 18446744073709551616 := by rw [e1]; rfl
  have e3 : bShr .i64 n 63 = n.fdiv 9223372036854775808 := rfl
  unfold zig
  by_cases hn : 0 ≤ n
  · have e4 : n.fdiv 9223372036854775808 = 0 := by rw [Int.fdiv_eq_ediv_of_nonneg _ (by omega)]; omega
    rw [e2, e3, e4, show wrapA .u64 0 = 0 from rfl, if_pos hn, bXor_zero (by omega) (by omega)]
    omega
  · have e4 : n.fdiv 9223372036854775808 = -1 := by rw [Int.fdiv_eq_ediv_of_nonneg _ (by omega)]; omega
    rw [e2, e3, e4, show wrapA .u64 (-1) = 18446744073709551615 from rfl, if_neg hn, bXor_ones (by omega) (by omega)]
    omega
theorem or128 : ∀ b : Nat, b < 256 → bOr .u8 (b : Int) 128 = ((b % 128 + 128 : Nat) : Int) := by
  have : ∀ b : Fin 256, bOr .u8 (b.val : Int) 128 = ((b.val % 128 + 128 : Nat) : Int) := by decide +kernel
  intro b hb
  exact this ⟨b, hb⟩
theorem byte_or (x : Nat) : bOr .u8 (wrapA .u8 (x : Int)) 128 = ((x % 128 + 128 : Nat) : Int) := by
  have e1 : wrapA .u8 (x : Int) = ((x % 256 : Nat) : Int) := by
    rw [wrapA_eq]
    show (x : Int) % 256 = _
    omega
  rw [e1, or128 _ (by omega)]
  omega
theorem byte_small {x : Nat} (h : x < 128) : wrapA .u8 (x : Int) = (x : Int) := wrapA_of (u8_in (by omega))
theorem shr7 (x : Nat) : bShr .u64 (x : Int) 7 = ((x / 128 : Nat) : Int) := by
  rw [show (7 : Int) = ((7 : Nat) : Int) from rfl, bShr_eq (by omega) (by decide)]
  rw [Int.fdiv_eq_ediv_of_nonneg _ (by decide)]
  simp
theorem u8_ok (l : List Nat) : all' okCell (l.map u8v) = true := by
  rw [all_eq, List.all_eq_true]
  intro x hx
  obtain ⟨n, _, rfl⟩ := List.mem_map.1 hx
  rfl
theorem lay_spec {v : Value} {cs : List Value} {gb : List Blk} (hg : GK 5 1 v cs gb) (hS : SH S H0 H (gb ++ L)) {n : Int} (hn : In n) (hl : cs.length ≤ 100000) :
    CallP Pg X N_parse_lay [v, vi n] H fun v' H' => ∃ gb', GK 5 1 v' (cs ++ (one n).map u8v) gb' ∧ SH S H0 H' (gb' ++ L) := by
  have hz := zig_lt hn.1 hn.2
  refine e_parse_lay (c_parse_lay ?_)
  (try simp only [PP, Nat.reduceBEq])
  refine PU.of (abin_shlC (by decide)) ?_
  refine PU.of (abin_shrC (by decide)) ?_
  (try simp only [PP, Nat.reduceBEq])
  refine PU.of abin_xor' ?_
  rw [zig_bits hn]
  refine l_parse_lay_110100 (I := fun m x0 x4 x5 x13 H' => ∃ (i x : Nat) (dn : List Nat) (gb' : List Blk), x5 = .int .u64 (x : Int) ∧ x13 = vn i ∧ i + m = 10 ∧ x < 128 ^ m ∧ dn.length = i ∧ dn ++ lay m x = one n ∧ GK 5 1 x0 (cs ++ dn.map u8v) gb' ∧ SH S H0 H' (gb' ++ L)) ?_ 10
    ⟨0, zig n, [], gb, rfl, rfl, rfl, by have : (128 : Nat) ^ 10 = 1180591620717411303424 := (by decide); omega, rfl, rfl, by simpa using hg, hS⟩
  clear hg hS
  rintro m x0 x4 x5 x13 rg H' ⟨i, x, dn, gb', rfl, rfl, him, hx, hdl, hd, hg, hS⟩
  with_reducible refine c_parse_lay_110100 ?_
  (try simp only [PP, Nat.reduceBEq])
  refine cdW_cases (fun hc => ?_) (fun hc => ?_)
  · obtain ⟨f, rfl⟩ : ∃ f, m = f + 1 := ⟨m - 1, by omega⟩
    refine cdW_cases (fun h1 => ?_) (fun h1 => ?_)
    · have h1 : x < 128 := by omega
      (try simp only [PP, Nat.reduceBEq])
      rw [byte_small h1]
      refine hS.bS rfl rfl rfl (by omega) fun H1 rx hS => ?_
      obtain ⟨v', H2, gb2, e1, hg2, hS2, _⟩ := hg.app (m := 0) (cx := 1) hS (by omega) rfl rfl (by omega) (by simp; omega)
      refine ME.of e1 ?_
      refine r_ret_parse_lay ⟨gb2, ?_, hS2⟩
      have : one n = dn ++ [x] := by
        rw [← hd]; unfold lay; rw [if_pos h1]
      rw [this, List.map_append, ← List.append_assoc]
      exact hg2
    · have h1 : ¬ x < 128 := by omega
      (try simp only [PP, Nat.reduceBEq])
      rw [byte_or]
      refine hS.bS rfl rfl rfl (by omega) fun H1 rx hS => ?_
      obtain ⟨v', H2, gb2, e1, hg2, hS2, _⟩ := hg.app (m := 0) (cx := 1) hS (by omega) rfl rfl (by omega) (by simp; omega)
      refine ME.of e1 ?_
      refine PU.of (abin_shrC (by decide)) ?_
      refine PU.of (abin_add (by omega) (by omega)) ?_
      rw [shr7]
      (try simp only [PP, Nat.reduceBEq])
      refine ⟨f, by omega, _, _, _, _, _, _, rfl, i + 1, x / 128, dn ++ [x % 128 + 128], gb2, rfl, rfl, by omega, ?_, by simp; omega, ?_, ?_, hS2⟩
      · rw [Nat.pow_succ] at hx; omega
      · rw [← hd, List.append_assoc]
        congr 1
        conv => rhs; unfold lay
        rw [if_neg h1]; rfl
      · rw [List.map_append, ← List.append_assoc]
        exact hg2
  · (try simp only [PP, Nat.reduceBEq])
    with_reducible refine c_parse_lay_111 ?_
    refine r_ret_parse_lay ⟨gb', ?_, hS⟩
    obtain rfl : m = 0 := by omega
    have : one n = dn := by
      rw [← hd]; unfold lay; simp
    rw [this]; exact hg
theorem bytesL_nat : ∀ (l : List Nat), (∀ x ∈ l, x < 256) → bytesL (l.map u8v) = some (l.map UInt8.ofNat) := by
  intro l
  induction l with
  | nil => intro _; rfl
  | cons x l ih =>
    intro h
    have hx := h x (List.mem_cons_self ..)
    show (obind (iNat (.ofNat x)) fun n => gd (isU8 .u8 && Nat.ble n 255) (obind (bytesL (l.map u8v)) fun bs => some (UInt8.ofNat n :: bs))) = _
    rw [ih fun y hy => h y (List.mem_cons_of_mem _ hy)]
    show gd (Nat.ble x 255) (some (UInt8.ofNat x :: l.map UInt8.ofNat)) = _
    rw [Nat.ble_eq_true_of_le (by omega), gd_true]; rfl
theorem lay_byte : ∀ (f x : Nat), ∀ y ∈ lay f x, y < 256 := by
  intro f
  induction f with
  | zero => intro x y h; cases h
  | succ f ih =>
    intro x y h
    unfold lay at h
    split at h
    · rw [List.mem_singleton] at h; omega
    · rcases List.mem_cons.1 h with h | h
      · omega
      · exact ih _ _ h
theorem lay_len : ∀ (f x : Nat), (lay f x).length ≤ f := by
  intro f
  induction f with
  | zero => intro x; simp [lay]
  | succ f ih =>
    intro x
    unfold lay
    split
    · simp
    · have := ih (x / 128); simp; omega
theorem row_len (l : List Int) : (row l).length ≤ 10 * l.length := by
  induction l with
  | nil => simp [row]
  | cons x l ih =>
    unfold row at *
    rw [List.flatMap_cons, List.length_append, List.length_cons]
    have : (one x).length ≤ 10 := lay_len _ _
    omega
theorem key_byte (w : Bool) (n : Int) (a b : List Int) : ∀ y ∈ key w n a b, y < 256 := by
  intro y hy
  unfold key at hy
  rcases List.mem_cons.1 hy with h | h
  · subst h; split <;> omega
  · unfold row at h
    obtain ⟨x, _, hx⟩ := List.mem_flatMap.1 h
    exact lay_byte _ _ _ hx
/-- a key as a text. -/
def keyT (w : Bool) (n : Int) (a b : List Int) : ByteArray := ⟨⟨(key w n a b).map UInt8.ofNat⟩⟩
theorem map_ofNat_inj : ∀ (a b : List Nat), (∀ x ∈ a, x < 256) → (∀ x ∈ b, x < 256) → a.map UInt8.ofNat = b.map UInt8.ofNat → a = b := by
  intro a
  induction a with
  | nil => intro b _ _ h; cases b with
    | nil => rfl
    | cons y b => cases h
  | cons x a ih =>
    intro b ha hb h
    cases b with
    | nil => cases h
    | cons y b =>
      simp only [List.map_cons, List.cons.injEq] at h
      have h1 : (UInt8.ofNat x).toNat = (UInt8.ofNat y).toNat := by rw [h.1]
      simp only [UInt8.toNat_ofNat'] at h1
      have hx := ha x (List.mem_cons_self ..)
      have hy := hb y (List.mem_cons_self ..)
      rw [ih b (fun z hz => ha z (List.mem_cons_of_mem _ hz)) (fun z hz => hb z (List.mem_cons_of_mem _ hz)) h.2]
      rw [Nat.mod_eq_of_lt (by omega), Nat.mod_eq_of_lt (by omega)] at h1
      rw [h1]
theorem keyT_inj {w w' : Bool} {n n' : Int} {a b a' b' : List Int} : keyT w n a b = keyT w' n' a' b' ↔ key w n a b = key w' n' a' b' := by
  constructor
  · intro h
    unfold keyT at h
    injection h with h
    injection h with h
    exact map_ofNat_inj _ _ (key_byte _ _ _ _) (key_byte _ _ _ _) h
  · intro h; unfold keyT; rw [h]
/-- a slice of numbers of 64 bits. -/
def IntsAt (H : AHeap) (v : Value) (l : List Int) : Prop := ∃ a c, v = .slice a l.length c ∧ Fl H a l.length 1 (l.map vi) ∧ ∀ x ∈ l, In x
theorem IntsAt.ex {H H' : AHeap} {v : Value} {l : List Int} (h : IntsAt H v l) (hx : Ext H H') : IntsAt H' v l := by
  obtain ⟨a, c, h1, h2, h3⟩ := h
  exact ⟨a, c, h1, h2.ex hx, h3⟩
theorem row_snoc (l : List Int) (x : Int) : row (l ++ [x]) = row l ++ one x := by
  unfold row; simp
theorem key_spec (hw : Wf H) {n : Int} (hn : In n) {va vb : Value} {la lb : List Int} (ha : IntsAt H va la) (hb : IntsAt H vb lb) (hl : la.length + lb.length ≤ 1000) (w : Bool) :
    CallP Pg X N_parse_Key [vi n, va, vb, .bool w] H (Q1 (fun v _ => v = .string (keyT w n la lb)) H) := by
  obtain ⟨aa, ca, rfl, hfa, hia⟩ := ha
  obtain ⟨ab, cb, rfl, hfb, hib⟩ := hb
  have hS := SH.refl hw
  refine e_parse_Key (c_parse_Key ?_)
  (try simp only [PP, Nat.reduceBEq])
  refine PU.of (abin_mul (by omega) (by omega)) ?_
  refine PU.of (abin_add (by omega) (by omega)) ?_
  refine PU.of (abin_mul (by omega) (by omega)) ?_
  refine PU.of (abin_add (by omega) (by omega)) ?_
  rw [show (16 : Int) + 2 * (la.length : Int) + 2 * (lb.length : Int) = ((16 + 2 * la.length + 2 * lb.length : Nat) : Int) by omega]
  refine hS.mkS (Nat.zero_le _) (by omega) fun H1 r hS => ?_
  have hg : GK 5 1 (.slice (some ⟨r, 0, none⟩) 0 (16 + 2 * la.length + 2 * lb.length)) [] [(r, 5, [] ++ repL [.int .u8 0] (16 + 2 * la.length + 2 * lb.length))] := .inr ⟨r, 0, _, _, rfl, by omega, rfl, by rw [List.nil_append, wrepL_len]; rfl, rfl⟩
  have fin : ∀ rg v H2 gb, GK 5 1 v ([if w then 1 else 0].map u8v) gb → SH [] H H2 (gb ++ []) → EvP Pg X (sub B_parse_Key [1, 1, 1]) (st_parse_Key (vi n) (.slice aa la.length ca) (.slice ab lb.length cb) (.bool w) (.string (ByteArray.mk #[])) v top top top top top top top top rg H2) (endK Pg [.tmp 8] (Q1 (fun v _ => v = .string (keyT w n la lb)) H)) := by
    intro rg v H2 gb hg hS
    with_reducible refine c_parse_Key_111 ?_
    refine CallP.mono (lay_spec hg hS hn (by simp)) ?_
    rintro v H3 ⟨gb, hg, hS⟩
    have ol : (one n).length ≤ 10 := lay_len _ _
    (try simp only [PP, Nat.reduceBEq])
    refine CallP.mono (lay_spec hg hS (n := (la.length : Int)) ⟨by omega, by omega⟩ (by simp; omega)) ?_
    rintro v H4 ⟨gb, hg, hS⟩
    have ol2 : (one (la.length : Int)).length ≤ 10 := lay_len _ _
    (try simp only [PP, Nat.reduceBEq])
    refine l_parse_Key_111110100 (I := fun m x9 x11 x39 H' => ∃ (k : Nat) (gb' : List Blk), x39 = vn k ∧ k + m = la.length ∧ GK 5 1 x9 (((if w then 1 else 0) :: row (n :: (la.length : Int) :: la.take k)).map u8v) gb' ∧ SH [] H H' (gb' ++ [])) ?_ la.length ⟨0, gb, rfl, by omega, ?_, hS⟩
    rotate_left
    · have : row [n, (la.length : Int)] = one n ++ one (la.length : Int) := by unfold row; simp
      rw [List.take_zero, this]
      simpa using hg
    clear hg hS ol ol2
    rintro m x9 x11 x39 rg H' ⟨k, gb, rfl, hk, hg, hS⟩
    with_reducible refine c_parse_Key_111110100 ?_
    (try simp only [PP, Nat.reduceBEq])
    refine cdW_cases (fun hc => ?_) (fun hc => ?_)
    · have hkl : k < la.length := by omega
      obtain ⟨r, o, e, hr, hrd, _⟩ := hfa.idx (c := ca) (by omega) hkl
      rw [e]
      (try simp only [PP, Nat.reduceBEq])
      refine hS.ldO (hrd 0 (vi la[k]) (by omega) (by simp [hkl])) hr ?_
      have h3 := row_len (n :: (la.length : Int) :: la.take k)
      refine CallP.mono (lay_spec hg hS (hia _ (List.getElem_mem hkl)) (by simp at h3 ⊢; omega)) ?_
      rintro v H5 ⟨gb2, hg, hS⟩
      refine PU.of (abin_add (by omega) (by omega)) ?_
      (try simp only [PP, Nat.reduceBEq])
      refine ⟨m - 1, by omega, _, _, _, _, _, rfl, k + 1, gb2, rfl, by omega, ?_, hS⟩
      have e2 : n :: (la.length : Int) :: la.take (k + 1) = (n :: (la.length : Int) :: la.take k) ++ [la[k]] := by
        rw [List.take_succ_eq_append_getElem hkl]; rfl
      rw [e2, row_snoc]
      simpa using hg
    · (try simp only [PP, Nat.reduceBEq])
      obtain rfl : m = 0 := by omega
      obtain rfl : k = la.length := by omega
      rw [List.take_length] at hg
      with_reducible refine c_parse_Key_111111 ?_
      (try simp only [PP, Nat.reduceBEq])
      refine l_parse_Key_1111110100 (I := fun m x9 x13 x49 H' => ∃ (k : Nat) (gb' : List Blk), x49 = vn k ∧ k + m = lb.length ∧ GK 5 1 x9 (((if w then 1 else 0) :: row (n :: (la.length : Int) :: (la ++ lb.take k))).map u8v) gb' ∧ SH [] H H' (gb' ++ [])) ?_ lb.length ⟨0, gb, rfl, by omega, by simpa using hg, hS⟩
      clear hg hS
      rintro m x9 x13 x49 rg H' ⟨k, gb, rfl, hk, hg, hS⟩
      with_reducible refine c_parse_Key_1111110100 ?_
      (try simp only [PP, Nat.reduceBEq])
      refine cdW_cases (fun hc => ?_) (fun hc => ?_)
      · have hkl : k < lb.length := by omega
        obtain ⟨r, o, e, hr, hrd, _⟩ := hfb.idx (c := cb) (by omega) hkl
        rw [e]
        (try simp only [PP, Nat.reduceBEq])
        refine hS.ldO (hrd 0 (vi lb[k]) (by omega) (by simp [hkl])) hr ?_
        have h3 := row_len (n :: (la.length : Int) :: (la ++ lb.take k))
        refine CallP.mono (lay_spec hg hS (hib _ (List.getElem_mem hkl)) (by simp at h3 ⊢; omega)) ?_
        rintro v H5 ⟨gb2, hg, hS⟩
        refine PU.of (abin_add (by omega) (by omega)) ?_
        (try simp only [PP, Nat.reduceBEq])
        refine ⟨m - 1, by omega, _, _, _, _, _, rfl, k + 1, gb2, rfl, by omega, ?_, hS⟩
        have e2 : n :: (la.length : Int) :: (la ++ lb.take (k + 1)) = (n :: (la.length : Int) :: (la ++ lb.take k)) ++ [lb[k]] := by
          rw [List.take_succ_eq_append_getElem hkl]; simp
        rw [e2, row_snoc]
        simpa using hg
      · (try simp only [PP, Nat.reduceBEq])
        obtain rfl : m = 0 := by omega
        obtain rfl : k = lb.length := by omega
        rw [List.take_length] at hg
        with_reducible refine c_parse_Key_1111111 ?_
        obtain ⟨a, n', c, rfl, hn', hf⟩ := hg.fl hS
        have hne : 0 < n' := by simp at hn'; omega
        have hcv : aconv1 Pg 28 9 (.slice a n' c) H' = some (.string (keyT w n la lb), H') := by
          obtain ⟨r, o, rfl, hr, hc0⟩ := hf.2 0 _ (List.getElem?_eq_getElem (by rw [hf.1]; omega))
          have hq : aconv1 Pg 28 9 (.slice (some ⟨r, o, none⟩) n' c) H' = obind (H'.read r o n') fun l => obind (bytesL l) fun bs => some (.string ⟨⟨bs⟩⟩, H') := by kernel_rfl
          have hr2 := read_of_cells (H := H') (r := r) (o := o) (cs := (key w n la lb).map u8v) fun i x hx => by
            obtain ⟨r', o', e, _, h5⟩ := hf.2 i x hx
            cases e; exact h5
          have hkl : ((key w n la lb).map u8v).length = n' := by
            have := hf.1
            rw [Nat.mul_one] at this; exact this
          rw [hkl] at hr2
          rw [hq, hr2]
          show (obind (bytesL ((key w n la lb).map u8v)) fun bs => some (Value.string ⟨⟨bs⟩⟩, H')) = _
          rw [bytesL_nat _ (key_byte _ _ _ _)]; rfl
        refine CV.me' (by kernel_rfl) hcv ?_
        exact r_ret_parse_Key ⟨rfl, hS.ext⟩
  cases w with
  | true =>
    (try simp only [PP, Nat.reduceBEq])
    refine hS.bS rfl rfl rfl (by omega) fun H2 rx hS => ?_
    obtain ⟨v', H3, gb2, e1, hg2, hS2, _⟩ := hg.app (m := 0) (cx := 1) (xs := [u8v 1]) (L := []) hS (by omega) rfl rfl (by omega) (by simp)
    refine ME.of e1 ?_
    exact fin _ _ _ _ hg2 hS2
  | false =>
    (try simp only [PP, Nat.reduceBEq])
    refine hS.bS rfl rfl rfl (by omega) fun H2 rx hS => ?_
    obtain ⟨v', H3, gb2, e1, hg2, hS2, _⟩ := hg.app (m := 0) (cx := 1) (xs := [u8v 0]) (L := []) hS (by omega) rfl rfl (by omega) (by simp)
    refine ME.of e1 ?_
    exact fin _ _ _ _ hg2 hS2
end Go.Proofs.Lk
