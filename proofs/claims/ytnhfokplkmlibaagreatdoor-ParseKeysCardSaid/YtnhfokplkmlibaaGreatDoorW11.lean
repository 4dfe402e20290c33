/-
  Rows of elements that are sorted: what their steps share. No condition.
-/
import Derived.Test.YtnhfokplkmlibaaGreatDoorW10
set_option linter.unusedVariables false
set_option linter.unusedSimpArgs false
namespace Go.Ae
theorem EvP.nameK {P : Program} {X : Xt} {c : Code} {s : St} {K : Out → Prop} (h : ∀ K', K' = K → EvP P X c s K') : EvP P X c s K := h K rfl
theorem bkW_exit_ne' {K : Out → Prop} {s : St} {i j : Nat} (h : (j == i) = false) : bkW i K (.exit j s) = K (.exit j s) := bkW_exit_ne (by simpa using h)
theorem CallV.mono {P : Program} {X : Xt} {q : Option (FuncId × List Value × List Value)} {args : List Value} {H : AHeap} {K K' : Value → AHeap → Prop} (h : CallV P X q args H K) (hk : ∀ v H', K v H' → K' v H') : CallV P X q args H K' := by
  cases q with
  | none => exact h
  | some q => exact CallP.mono h hk
def bXor (k : IntKind) (a b : Int) : Int := k.wrap (BitVec.toNat (BitVec.ofInt k.bits a ^^^ BitVec.ofInt k.bits b))
section bin
variable {P : Program} {t : TypeId} {ox oy : Operand} {a b : Int} {k k2 : IntKind}
theorem abin_xor' : abin P .xor t ox oy (.int k a) (.int k b) = some (.int k (bXor k a b)) := abin_cmp rfl rfl
theorem abin_shlX (h : 0 ≤ b) : abin P .shl t ox oy (.int k a) (.int k2 b) = some (.int k (bShl k a b)) := by
  show pureSem (Op.shift .shl k a k2 b) = _
  unfold Op.shift
  rw [if_neg (by omega)]; rfl
theorem abin_sub_k (h : k.wrap (a - b) = a - b) : abin P .sub t ox oy (.int k a) (.int k b) = some (.int k (a - b)) := abin_cmp rfl (by
  show some (Value.int k (wrapA k (a - b))) = _
  rw [wrapA_eq, h])
end bin
theorem wrapA_of {k : IntKind} {n : Int} (h : k.wrap n = n) : wrapA k n = n := by rw [wrapA_eq, h]
theorem u64_in {n : Int} (h : 0 ≤ n ∧ n < 18446744073709551616) : IntKind.u64.wrap n = n := by
  show n % 18446744073709551616 = n
  omega
theorem u8_in {n : Int} (h : 0 ≤ n ∧ n < 256) : IntKind.u8.wrap n = n := by
  show n % 256 = n
  omega
theorem bAnd_le {a b : Int} (h : 0 ≤ b ∧ b < 18446744073709551616) : 0 ≤ bAnd .u64 a b ∧ bAnd .u64 a b ≤ b := by
  unfold bAnd
  have h1 : (BitVec.ofInt IntKind.u64.bits a &&& BitVec.ofInt IntKind.u64.bits b).toNat ≤ (BitVec.ofInt IntKind.u64.bits b).toNat := by
    rw [BitVec.toNat_and]; exact Nat.and_le_right
  have h2 : ((BitVec.ofInt IntKind.u64.bits b).toNat : Int) = b := by
    show ((BitVec.ofInt 64 b).toNat : Int) = b
    rw [BitVec.toNat_ofInt]
    omega
  rw [u64_in (by omega)]
  omega
theorem bShl_one {l : Nat} (h : l ≤ 32) : bShl .u64 1 (l : Int) = ((2 ^ l : Nat) : Int) := by
  unfold bShl
  have h1 : min ((l : Int).toNat) IntKind.u64.bits = l := by
    show min ((l : Int).toNat) 64 = l
    omega
  rw [h1]
  have h2 : (2 : Nat) ^ l ≤ 2 ^ 32 := Nat.pow_le_pow_right (by omega) h
  have h3 : (1 : Int) * 2 ^ l = ((2 ^ l : Nat) : Int) := by
    rw [Int.one_mul]; simp
  rw [h3]
  have h4 : (2 : Nat) ^ l ≤ 4294967296 := h2
  generalize (2 : Nat) ^ l = m at h4
  exact u64_in (by omega)
theorem bShr_eq {k : IntKind} {a : Int} {n : Nat} (h : n ≤ 32) (h2 : 32 ≤ k.bits) : bShr k a (n : Int) = a.fdiv ((2 ^ n : Nat) : Int) := by
  unfold bShr
  have : min ((n : Int).toNat) k.bits = n := by omega
  rw [this]
  simp
/-- the table of how many bits a byte has. -/
def tab8 (s : ByteArray) : Bool := (List.range 256).all fun k => match s.data.toList[k]? with
  | none => false
  | some t => Nat.ble t.toNat 8 && Nat.ble (2 ^ t.toNat) (2 * k + (if k = 0 then 1 else 0))
theorem PU.tab8 {s : ByteArray} {y : Int} {K : Value → Prop} (ht : Go.Ae.tab8 s = true) (h0 : 0 ≤ y) (h1 : y < 256) (h : ∀ t : Nat, t ≤ 8 → (1 ≤ y → ((2 ^ t : Nat) : Int) ≤ 2 * y) → K (.int .u8 (t : Int))) : PU (idS (.string s) (.int .u8 y)) K := by
  obtain ⟨k, rfl⟩ : ∃ k : Nat, y = k := ⟨y.toNat, by omega⟩
  have hk : k < 256 := by omega
  have := List.all_eq_true.1 ht k (List.mem_range.2 hk)
  show PU (obind (nth s.data.toList k) fun b => some (Value.int .u8 (.ofNat b.toNat))) K
  rw [nth_eq]
  revert this
  cases s.data.toList[k]? with
  | none => intro h; cases h
  | some t =>
    intro h2
    simp only [Bool.and_eq_true] at h2
    have h3 := Nat.le_of_ble_eq_true h2.1
    have h4 := Nat.le_of_ble_eq_true h2.2
    exact h t.toNat h3 fun h5 => by
      rw [if_neg (by omega)] at h4
      omega
section steps
variable {P : List Value → Prop} {r : Nat} {ty : TypeId} {es n : Nat} {H0 H : AHeap} {L : List Blk} {K : Value → AHeap → Prop}
theorem SB.callD {H' : AHeap} (h : SB P r ty es n H0 H L) (hx : Ext (Go.Ae.hN H) H') : SB P r ty es n H0 (hM H H') L := by obtain ⟨cs, h1, h2, hS⟩ := h; exact ⟨cs, h1, h2, hS.callD hx⟩
theorem SB.stQ (h : SB P r ty es n H0 H L) (i : Nat) {q o m : Nat} {t2 : TypeId} {cs : List Value} {v : Value} (hi : L[i]? = some (q, t2, cs)) (hl : (cellsL v).length = m) (hn : o + m ≤ cs.length) (hk : all' okCell (cellsL v) = true)
    (k : ∀ H1, SB P r ty es n H0 (hM H H1) (L.set i (q, t2, splice cs o (cellsL v))) → K undef H1) : ME (stW m (.pointer (some ⟨q, o, none⟩)) v (Go.Ae.hN H)) K := by
  obtain ⟨ds, h1, h2, hS⟩ := h
  exact hS.stQ (i + 1) (by rw [List.getElem?_cons_succ]; exact hi) hl hn hk fun H1 hS => k H1 ⟨ds, h1, h2, hS⟩
theorem SB.drop {b : Blk} (h : SB P r ty es n H0 H (b :: L)) : SB P r ty es n H0 H L := by
  obtain ⟨cs, g1, g2, hS⟩ := h
  exact ⟨cs, g1, g2, SH.drop (A := [_]) (hS.perm (List.Perm.swap _ _ _))⟩
end steps
/-- what compares two ranges. -/
def RgP (l : List Value) : Prop := ∃ a b : Int, l = [.int .i32 a, .int .i32 b]
theorem SB.r1Q {r : Nat} {ty : TypeId} {n : Nat} {H0 H : AHeap} {L : List Blk} {K : Value → AHeap → Prop} (h : SB RgP r ty 2 n H0 H L) {z : Int} (h0 : 0 ≤ z) (hz : z < n) (k : ∀ a b, K (.agg ⟨[.int .i32 a, .int .i32 b]⟩) (Go.Ae.hN H)) : ME (ldW (some 2) (.pointer (some ⟨r, z.toNat * 2, none⟩)) (Go.Ae.hN H)) K :=
  h.emQ h0 hz fun l hl => by obtain ⟨a, b, rfl⟩ := hl; exact k a b
theorem SB.r1 {r : Nat} {ty : TypeId} {n : Nat} {H0 H : AHeap} {L : List Blk} {K : Value → AHeap → Prop} (h : SB RgP r ty 2 n H0 H L) {z : Int} (h0 : 0 ≤ z) (hz : z < n) (k : ∀ a b, K (.agg ⟨[.int .i32 a, .int .i32 b]⟩) H) : ME (ldW (some 2) (.pointer (some ⟨r, z.toNat * 2, none⟩)) H) K :=
  h.em h0 hz fun l hl => by obtain ⟨a, b, rfl⟩ := hl; exact k a b
theorem SB.rwQ {r : Nat} {ty : TypeId} {n : Nat} {H0 H : AHeap} {L : List Blk} {K : Value → AHeap → Prop} (h : SB RgP r ty 2 n H0 H L) {z : Int} (h0 : 0 ≤ z) (hz : z < n) {a b : Int} (k : ∀ H1, SB RgP r ty 2 n H0 (hM H H1) L → K undef H1) : ME (stW 2 (.pointer (some ⟨r, z.toNat * 2, none⟩)) (.agg ⟨[.int .i32 a, .int .i32 b]⟩) (Go.Ae.hN H)) K :=
  h.wQ h0 hz ⟨a, b, rfl⟩ rfl rfl k
theorem SB.rw' {r : Nat} {ty : TypeId} {n : Nat} {H0 H : AHeap} {L : List Blk} {K : Value → AHeap → Prop} (h : SB RgP r ty 2 n H0 H L) {z : Int} (h0 : 0 ≤ z) (hz : z < n) {a b : Int} (k : ∀ H1, SB RgP r ty 2 n H0 H1 L → K undef H1) : ME (stW 2 (.pointer (some ⟨r, z.toNat * 2, none⟩)) (.agg ⟨[.int .i32 a, .int .i32 b]⟩) H) K :=
  h.w h0 hz ⟨a, b, rfl⟩ rfl rfl k
end Go.Ae
