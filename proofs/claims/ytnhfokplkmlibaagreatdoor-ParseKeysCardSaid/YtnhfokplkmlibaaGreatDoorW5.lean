/-
  Operations at values that are known; slices as lists. No condition.
-/
import Derived.Test.YtnhfokplkmlibaaGreatDoorW4
set_option linter.unusedVariables false
set_option linter.unusedSimpArgs false
namespace Go.Ae
variable {S : List Nat}

/-! ### numbers -/
abbrev vi (n : Int) : Value := .int .i64 n
abbrev vn (n : Nat) : Value := .int .i64 (n : Int)
theorem iLt_eq' (a b : Int) : iLt a b = decide (a < b) := by
  cases a with
  | ofNat m => cases b with
    | ofNat n => show Nat.ble (Nat.succ m) n = _; rw [Bool.eq_iff_iff, Nat.ble_eq]; simp; omega
    | negSucc n => show false = _; symm; simp; omega
  | negSucc m => cases b with
    | ofNat n => show true = _; symm; simp; omega
    | negSucc n => show Nat.ble (Nat.succ n) m = _; rw [Bool.eq_iff_iff, Nat.ble_eq]; simp; omega
theorem iEq_eq' (a b : Int) : iEq a b = decide (a = b) := by
  cases a with
  | ofNat m => cases b with
    | ofNat n => show Nat.beq m n = _; rw [Bool.eq_iff_iff, Nat.beq_eq]; simp; omega
    | negSucc n => show false = _; symm; simp
  | negSucc m => cases b with
    | ofNat n => show false = _; symm; simp
    | negSucc n => show Nat.beq m n = _; rw [Bool.eq_iff_iff, Nat.beq_eq]; simp
theorem wrapA_i64 {n : Int} (h1 : -9223372036854775808 ≤ n) (h2 : n ≤ 9223372036854775807) : wrapA .i64 n = n := by
  cases n with
  | ofNat m =>
    show bif' (isI64 .i64 && Nat.ble m 9223372036854775807) (Int.ofNat m) _ = _
    rw [show (isI64 .i64 && Nat.ble m 9223372036854775807) = true from by
      rw [show isI64 .i64 = true from rfl, Bool.true_and]; exact Nat.ble_eq_true_of_le (by have : (m : Int) ≤ 9223372036854775807 := h2; omega)]; rfl
  | negSucc m =>
    show bif' (isI64 .i64 && Nat.ble m 9223372036854775807) (Int.negSucc m) _ = _
    rw [show (isI64 .i64 && Nat.ble m 9223372036854775807) = true from by
      rw [show isI64 .i64 = true from rfl, Bool.true_and]; exact Nat.ble_eq_true_of_le (by omega)]; rfl
section bin
variable {P : Program} {t : TypeId} {ox oy : Operand} {a b : Int} {k : IntKind}
theorem kCode_self : Nat.beq (kCode k) (kCode k) = true := Nat.beq_refl _
theorem abin_cmp {op : BinOp} {v : Value} (hs : isShift op = false) (h : iBin op k a b = some v) : abin P op t ox oy (.int k a) (.int k b) = some v := by
  show bif' (isShift op) (shBin op t (.int k a) (.int k b)) (gd (Nat.beq (kCode k) (kCode k)) (iBin op k a b)) = _
  rw [hs, kCode_self]; exact h
theorem abin_lss : abin P .lss t ox oy (.int k a) (.int k b) = some (.bool (decide (a < b))) := abin_cmp rfl (by show some (Value.bool (iLt a b)) = _; rw [iLt_eq'])
theorem abin_gtr : abin P .gtr t ox oy (.int k a) (.int k b) = some (.bool (decide (b < a))) := abin_cmp rfl (by show some (Value.bool (iLt b a)) = _; rw [iLt_eq'])
theorem abin_leq : abin P .leq t ox oy (.int k a) (.int k b) = some (.bool (decide (a ≤ b))) := abin_cmp rfl (by
  show some (Value.bool (!(iLt b a))) = _
  rw [iLt_eq', ← decide_not]; simp [Int.not_lt])
theorem abin_geq : abin P .geq t ox oy (.int k a) (.int k b) = some (.bool (decide (b ≤ a))) := abin_cmp rfl (by
  show some (Value.bool (!(iLt a b))) = _
  rw [iLt_eq', ← decide_not]; simp [Int.not_lt])
theorem abin_eql : abin P .eql t ox oy (.int k a) (.int k b) = some (.bool (decide (a = b))) := abin_cmp rfl (by show some (Value.bool (iEq a b)) = _; rw [iEq_eq'])
theorem abin_neq : abin P .neq t ox oy (.int k a) (.int k b) = some (.bool (!decide (a = b))) := abin_cmp rfl (by show some (Value.bool (!(iEq a b))) = _; rw [iEq_eq'])
theorem abin_add (h1 : -9223372036854775808 ≤ a + b) (h2 : a + b ≤ 9223372036854775807) : abin P .add t ox oy (vi a) (vi b) = some (vi (a + b)) := abin_cmp rfl (by show some (Value.int .i64 (wrapA .i64 (a + b))) = _; rw [wrapA_i64 h1 h2])
theorem abin_sub (h1 : -9223372036854775808 ≤ a - b) (h2 : a - b ≤ 9223372036854775807) : abin P .sub t ox oy (vi a) (vi b) = some (vi (a - b)) := abin_cmp rfl (by show some (Value.int .i64 (wrapA .i64 (a - b))) = _; rw [wrapA_i64 h1 h2])
theorem abin_mul (h1 : -9223372036854775808 ≤ a * b) (h2 : a * b ≤ 9223372036854775807) : abin P .mul t ox oy (vi a) (vi b) = some (vi (a * b)) := abin_cmp rfl (by show some (Value.int .i64 (wrapA .i64 (a * b))) = _; rw [wrapA_i64 h1 h2])
end bin
theorem not_bool (b : Bool) : pureSem (Op.unary .not (.bool b)) = some (.bool !b) := rfl
theorem min2 (k : IntKind) (a b : Int) : amm false [.int k a, .int k b] = some (.int k (min a b)) := by
  show obind (gd (Nat.beq (kCode k) (kCode k)) (some (bif' (iLt b a) (Value.int k b) (Value.int k a)))) some = _
  rw [kCode_self, gd_true, obind_some, iLt_eq']
  by_cases h : b < a
  · rw [decide_eq_true h, bif_true, Int.min_eq_right (by omega)]
  · rw [decide_eq_false h, bif_false, Int.min_eq_left (by omega)]
theorem max2 (k : IntKind) (a b : Int) : amm true [.int k a, .int k b] = some (.int k (max a b)) := by
  show obind (gd (Nat.beq (kCode k) (kCode k)) (some (bif' (iLt a b) (Value.int k b) (Value.int k a)))) some = _
  rw [kCode_self, gd_true, obind_some, iLt_eq']
  by_cases h : a < b
  · rw [decide_eq_true h, bif_true, Int.max_eq_right (by omega)]
  · rw [decide_eq_false h, bif_false, Int.max_eq_left (by omega)]
theorem pick_bool (b : Bool) (x y : Value) : apick (.bool b) x y = some (if b = true then x else y) := by cases b <;> rfl
theorem vBool_bool (b : Bool) : vBool (.bool b) = some b := rfl
theorem fld_ptr (off r o : Nat) : fld off (.pointer (some ⟨r, o, none⟩)) = some (.pointer (some ⟨r, o + off, none⟩)) := rfl
theorem anil_ptr (a : Addr) : anil (.pointer (some a)) = some (.pointer (some a)) := rfl
theorem lenA_sl (a : Option Addr) (n c : Nat) : lenA (.slice a n c) = some (vn n) := rfl
theorem lenT_str (s : ByteArray) : lenT (.string s) = some (vn s.size) := by
  show some (Value.int .i64 (Int.ofNat (len s.data.toList))) = _
  rw [len_eq]; rfl
theorem idA_sl {es r o n c k : Nat} (h : k < n) : idA es (.slice (some ⟨r, o, none⟩) n c) (vn k) = some (.pointer (some ⟨r, o + k * es, none⟩)) := by
  show gd (Nat.ble (Nat.succ k) n) (some (Value.pointer (some ⟨r, Nat.add o (Nat.mul k es), none⟩))) = _
  rw [Nat.ble_eq_true_of_le h]; rfl
theorem idS_str {s : ByteArray} {k : Nat} (h : k < s.size) : idS (.string s) (vn k) = some (.int .u8 ((s.data.toList[k]'(by simpa using h)).toNat : Int)) := by
  show (obind (nth s.data.toList k) fun b => some (Value.int .u8 (.ofNat b.toNat))) = _
  rw [nth_eq, List.getElem?_eq_getElem (by simpa using h)]; rfl
theorem cdW_bool {b : Bool} {A B : Prop} : cdW (some b) A B = if b = true then A else B := by cases b <;> rfl

/-! ### slices that are read -/
/-- the elements of a slice, flat, as they lie there. -/
def Fl (H : AHeap) (a : Option Addr) (n es : Nat) (cs : List Value) : Prop :=
  cs.length = n * es ∧ ∀ (i : Nat) (x : Value), cs[i]? = some x → ∃ r o, a = some ⟨r, o, none⟩ ∧ r < H.next ∧ H.cell r (o + i) = some x
theorem Fl.ext {S : List Nat} {H H' : AHeap} {a : Option Addr} {n es : Nat} {cs : List Value} (h : Fl H a n es cs) (hx : Ex' S H H') (hS : ∀ r o, a = some ⟨r, o, none⟩ → r ∉ S) : Fl H' a n es cs :=
  ⟨h.1, fun i x hi => by
    obtain ⟨r, o, h1, h2, h3⟩ := h.2 i x hi
    exact ⟨r, o, h1, Nat.lt_of_lt_of_le h2 hx.next, (cell_of_obj (hx.obj r h2 (hS r o h1)) _).trans h3⟩⟩
theorem Fl.ex {H H' : AHeap} {a : Option Addr} {n es : Nat} {cs : List Value} (h : Fl H a n es cs) (hx : Ext H H') : Fl H' a n es cs := h.ext hx (fun r o _ h => nomatch h)
theorem Fl.nil (H : AHeap) (a : Option Addr) (es : Nat) : Fl H a 0 es [] := ⟨by simp, fun i x h => by simp at h⟩
/-- the address of an element, and its cells. -/
theorem Fl.idx {H : AHeap} {a : Option Addr} {n es c : Nat} {cs : List Value} (h : Fl H a n es cs) (he : 0 < es) {k : Nat} (hk : k < n) :
    ∃ r o, idA es (.slice a n c) (vn k) = some (.pointer (some ⟨r, o, none⟩)) ∧ r < H.next ∧ (∀ f x, f < es → cs[k * es + f]? = some x → H.cell r (o + f) = some x) ∧ (∃ o0, a = some ⟨r, o0, none⟩ ∧ o = o0 + k * es) := by
  have hl : k * es < cs.length := by rw [h.1]; exact Nat.mul_lt_mul_of_pos_right hk he
  obtain ⟨r, o, rfl, h2, h3⟩ := h.2 (k * es) _ (List.getElem?_eq_getElem hl)
  refine ⟨r, o + k * es, idA_sl hk, h2, fun f x hf hx => ?_, o, rfl, rfl⟩
  obtain ⟨r', o', h4, _, h5⟩ := h.2 _ _ hx
  cases h4
  rw [Nat.add_assoc]; exact h5
theorem Bk.fl {H : AHeap} {r : Nat} {ty : TypeId} {cs : List Value} (h : Bk H r ty cs) (hr : r < H.next) {n es : Nat} (hn : cs.length = n * es) : Fl H (some ⟨r, 0, none⟩) n es cs :=
  ⟨hn, fun i x hi => ⟨r, 0, rfl, hr, by rw [Nat.zero_add]; exact h.cell hi⟩⟩
/-- numbers, flags. -/
abbrev nats (l : List Nat) : List Value := l.map vn
abbrev bools (l : List Bool) : List Value := l.map Value.bool
theorem map_get {α : Type} (f : α → Value) {l : List α} {i : Nat} {x : α} (h : l[i]? = some x) : (l.map f)[i]? = some (f x) := by rw [List.getElem?_map, h]; rfl

/-! ### making -/
theorem wrepL_len (z : List Value) (n : Nat) : (repL z n).length = n * z.length := by
  induction n with
  | zero => show ([] : List Value).length = _; simp
  | succ n ih => show (app z (repL z n)).length = _; rw [app_eq, List.length_append, ih, Nat.succ_mul]; omega
theorem repL_one (x : Value) (n : Nat) : repL [x] n = List.replicate n x := by
  induction n with
  | zero => rfl
  | succ n ih => show app [x] (repL [x] n) = _; rw [app_eq, ih]; rfl
theorem SH.mkS {H0 H : AHeap} {L : List Blk} {K : Value → AHeap → Prop} (hS : SH S H0 H L) {e : TypeId} {z : List Value} {n m : Nat} (hn : n ≤ m) (hm : m ≤ 16777216)
    (k : ∀ H1 r, SH S H0 H1 ((r, e, repL z m) :: L) → K (.slice (some ⟨r, 0, none⟩) n m) H1) : ME (Go.Ae.mkS e z (vn n) (vn m) H) K := by
  show ME (gd (Nat.ble n m && Nat.ble m 16777216 && true) (some (Value.slice (some ⟨H.next, 0, none⟩) n m, H.new (rowOf e (repL z m))))) K
  rw [Nat.ble_eq_true_of_le hn, Nat.ble_eq_true_of_le hm]
  exact k _ _ (hS.grow e _)
/-! ### lists of blocks, lists -/
theorem SH.sub {H0 H : AHeap} {L L' : List Blk} (hS : SH S H0 H L) (h : L'.Sublist L) : SH S H0 H L' :=
  ⟨hS.ext, fun e he => hS.bk e (h.mem he), fun e he => hS.lo e (h.mem he), hS.ne.sublist h, hS.wf⟩
theorem SH.take {H0 H : AHeap} {L : List Blk} (hS : SH S H0 H L) (n : Nat) : SH S H0 H (L.take n) := hS.sub (List.take_sublist n L)
theorem SH.cast {H0 H : AHeap} {L L' : List Blk} (hS : SH S H0 H L) (h : L = L') : SH S H0 H L' := h ▸ hS
theorem SH.to {H0 H : AHeap} {L : List Blk} {r : Nat} {ty : TypeId} {cs cs' : List Value} (hS : SH S H0 H ((r, ty, cs) :: L)) (h : cs = cs') : SH S H0 H ((r, ty, cs') :: L) := h ▸ hS
theorem splice_map {α : Type} (f : α → Value) {l : List α} {k : Nat} (hk : k < l.length) (x : α) : splice (l.map f) k [f x] = (l.set k x).map f := by
  apply List.ext_getElem?
  intro i
  rw [splice_get (by simp; omega), List.getElem?_map, List.getElem?_map, List.getElem?_set]
  by_cases h : k = i
  · subst h
    rw [if_pos ⟨Nat.le_refl _, by simp⟩, if_pos rfl, if_pos hk, Nat.sub_self]; rfl
  · rw [if_neg (by simp; omega), if_neg h]
theorem fill_set {α : Type} {A : List α} {d : α} {k n : Nat} (h : k + n = A.length) (hn : 0 < n) : (A.take k ++ List.replicate n d).set k (A[k]'(by omega)) = A.take (k + 1) ++ List.replicate (n - 1) d := by
  have e1 : min k A.length = k := by omega
  have e2 : min (k + 1) A.length = k + 1 := by omega
  apply List.ext_getElem?
  intro i
  rw [List.getElem?_set, List.getElem?_append, List.getElem?_append]
  simp only [List.length_append, List.length_take, List.length_replicate, List.getElem?_take, List.getElem?_replicate, e1, e2]
  by_cases e : k = i
  · subst e
    rw [if_pos rfl, if_pos (by omega), if_pos (by omega), if_pos (by omega)]
    exact (List.getElem?_eq_getElem _).symm
  · rw [if_neg e]
    by_cases h1 : i < k
    · have h3 : i < k + 1 := by omega
      simp only [h1, h3, if_true]
    · have h3 : ¬ i < k + 1 := by omega
      have h4 : (i - k < n) = (i - (k + 1) < n - 1) := by apply propext; omega
      simp only [h1, h3, if_false, h4]
end Go.Ae
