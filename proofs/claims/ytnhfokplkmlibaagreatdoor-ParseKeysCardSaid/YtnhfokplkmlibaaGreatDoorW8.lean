/-
  Texts, bits. No condition.
-/
import Derived.Test.YtnhfokplkmlibaaGreatDoorW7
set_option linter.unusedVariables false
set_option linter.unusedSimpArgs false
namespace Go.Ae
section bin
variable {P : Program} {t : TypeId} {ox oy : Operand} {a b : Int} {k : IntKind}
theorem abin_and (k : IntKind) (a b : Int) : ∃ c, abin P .and t ox oy (.int k a) (.int k b) = some (.int k c) :=
  ⟨_, abin_cmp rfl (show pureSem (Op.intBits .and k a b) = some (.int k (k.wrap (BitVec.toNat (BitVec.ofInt k.bits a &&& BitVec.ofInt k.bits b)))) from rfl)⟩
theorem abin_or (k : IntKind) (a b : Int) : ∃ c, abin P .or t ox oy (.int k a) (.int k b) = some (.int k c) :=
  ⟨_, abin_cmp rfl (show pureSem (Op.intBits .or k a b) = some (.int k (k.wrap (BitVec.toNat (BitVec.ofInt k.bits a ||| BitVec.ofInt k.bits b)))) from rfl)⟩
theorem abin_andNot (k : IntKind) (a b : Int) : ∃ c, abin P .andNot t ox oy (.int k a) (.int k b) = some (.int k c) :=
  ⟨_, abin_cmp rfl (show pureSem (Op.intBits .andNot k a b) = some (.int k (k.wrap (BitVec.toNat (BitVec.ofInt k.bits a &&& ~~~BitVec.ofInt k.bits b)))) from rfl)⟩
theorem abin_shl (k : IntKind) (a : Int) (n : Nat) : ∃ c, abin P .shl t ox oy (.int k a) (.int .u64 n) = some (.int k c) :=
  ⟨k.wrap (a * 2 ^ min n k.bits), by
    show pureSem (Op.shift .shl k a .u64 n) = _
    unfold Op.shift
    rw [if_neg (by omega)]
    simp only [Int.toNat_natCast]; rfl⟩
theorem abin_shr (k : IntKind) (a : Int) (n : Nat) : ∃ c, abin P .shr t ox oy (.int k a) (.int .u64 n) = some (.int k c) :=
  ⟨a.fdiv (2 ^ min n k.bits), by
    show pureSem (Op.shift .shr k a .u64 n) = _
    unfold Op.shift
    rw [if_neg (by omega)]
    simp only [Int.toNat_natCast]; rfl⟩
end bin

/-! ### texts -/
theorem wu8L_inj : ∀ (a b : List UInt8), u8L a = u8L b → a = b := by
  intro a
  induction a with
  | nil => intro b h; cases b with
    | nil => rfl
    | cons y b => cases h
  | cons x a ih => intro b h; cases b with
    | nil => cases h
    | cons y b =>
      have h1 : x.toNat = y.toNat := (List.cons.inj h).1
      have h2 : u8L a = u8L b := (List.cons.inj h).2
      rw [ih b h2, UInt8.toNat_inj.1 h1]
theorem wnatsEq_iff : ∀ (a b : List Nat), natsEq a b = true ↔ a = b := by
  intro a
  induction a with
  | nil => intro b; cases b with
    | nil => exact ⟨fun _ => rfl, fun _ => rfl⟩
    | cons y b => exact ⟨(fun h => by cases h), (fun h => by cases h)⟩
  | cons x a ih => intro b; cases b with
    | nil => exact ⟨(fun h => by cases h), (fun h => by cases h)⟩
    | cons y b =>
      show bif' (Nat.beq x y) (natsEq a b) false = true ↔ _
      by_cases e : x = y
      · subst e; rw [Nat.beq_refl, bif_true, ih]; simp
      · rw [show Nat.beq x y = false from by rw [← Bool.not_eq_true]; exact fun g => e (Nat.eq_of_beq_eq_true g), bif_false]
        simp [e]
theorem wstrEq_eq (a b : ByteArray) : strEq a b = decide (a = b) := by
  rw [Bool.eq_iff_iff, decide_eq_true_iff]
  unfold strEq
  rw [wnatsEq_iff]
  constructor
  · intro h
    have := wu8L_inj _ _ h
    obtain ⟨⟨x⟩⟩ := a
    obtain ⟨⟨y⟩⟩ := b
    exact congrArg (fun l => ByteArray.mk (Array.mk l)) this
  · intro h; rw [h]
section bin
variable {P : Program} {t : TypeId} {ox oy : Operand}
theorem abin_seql (a b : ByteArray) : abin P .eql t ox oy (.string a) (.string b) = some (.bool (decide (a = b))) := by
  show some (Value.bool (strEq a b)) = _; rw [wstrEq_eq]
theorem abin_sneq (a b : ByteArray) : abin P .neq t ox oy (.string a) (.string b) = some (.bool (!decide (a = b))) := by
  show some (Value.bool (!(strEq a b))) = _; rw [wstrEq_eq]
end bin
/-- a part of a text. -/
def part (s : ByteArray) (lo hi : Nat) : ByteArray := ⟨⟨(s.data.toList.drop lo).take (hi - lo)⟩⟩
theorem part_size (s : ByteArray) {lo hi : Nat} (h : lo ≤ hi) (h2 : hi ≤ s.size) : (part s lo hi).size = hi - lo := by
  show ((s.data.toList.drop lo).take (hi - lo)).length = _
  have : s.data.toList.length = s.size := rfl
  simp; omega
theorem slT_both {s : ByteArray} {lo hi : Nat} (h : lo ≤ hi) (h2 : hi ≤ s.size) : slT (.string s) (some (vn lo)) (some (vn hi)) none = some (.string (part s lo hi)) := by
  show gd (Nat.ble lo hi && Nat.ble hi (len s.data.toList)) (some (Value.string ⟨⟨tk (Nat.sub hi lo) (dp lo s.data.toList)⟩⟩)) = _
  rw [len_eq, Nat.ble_eq_true_of_le h, Nat.ble_eq_true_of_le (show hi ≤ s.data.toList.length from h2), tk_eq, dp_eq]; rfl
theorem slT_from {s : ByteArray} {lo : Nat} (h : lo ≤ s.size) : slT (.string s) (some (vn lo)) none none = some (.string (part s lo s.size)) := by
  show gd (Nat.ble lo (len s.data.toList) && Nat.ble (len s.data.toList) (len s.data.toList)) (some (Value.string ⟨⟨tk (Nat.sub (len s.data.toList) lo) (dp lo s.data.toList)⟩⟩)) = _
  rw [len_eq, Nat.ble_eq_true_of_le (show lo ≤ s.data.toList.length from h), Nat.ble_eq_true_of_le (Nat.le_refl _), tk_eq, dp_eq]; rfl
theorem slT_to {s : ByteArray} {hi : Nat} (h2 : hi ≤ s.size) : slT (.string s) none (some (vn hi)) none = some (.string (part s 0 hi)) := by
  show gd (Nat.ble 0 hi && Nat.ble hi (len s.data.toList)) (some (Value.string ⟨⟨tk (Nat.sub hi 0) (dp 0 s.data.toList)⟩⟩)) = _
  rw [len_eq, Nat.ble_eq_true_of_le (Nat.zero_le _), Nat.ble_eq_true_of_le (show hi ≤ s.data.toList.length from h2), tk_eq, dp_eq]; rfl
theorem idS_any {s : ByteArray} {k : Nat} (h : k < s.size) : ∃ c : UInt8, idS (.string s) (vn k) = some (.int .u8 (c.toNat : Int)) := ⟨_, idS_str h⟩
/-- numbers of one kind to another. -/
noncomputable def cvI (k : IntKind) (x : Value) : Option Value := @Option.rec (IntKind × Int) (fun _ => Option Value) (obind (vStr x) fun b => gd false (some (.string b))) (fun a => some (.int k (wrapA k a.2))) (vInt x)
noncomputable def cvT (x : Value) : Option Value := @Option.rec (IntKind × Int) (fun _ => Option Value) (obind (vStr x) fun b => gd true (some (.string b))) (fun a => some (.string (Utf8.encode a.2))) (vInt x)
theorem cvI_int (k k' : IntKind) (a : Int) : cvI k (.int k' a) = some (.int k (wrapA k a)) := rfl
theorem cvT_int (k : IntKind) (a : Int) : cvT (.int k a) = some (.string (Utf8.encode a)) := rfl
theorem cvT_str (s : ByteArray) : cvT (.string s) = some (.string s) := rfl
theorem ext2 (vs : List Value) (i : Nat) : aextract (.tuple ⟨vs⟩) i = vs[i]? := nth_eq vs i
end Go.Ae
