/-
  Numbers laid as bytes, and rows of them: what is laid tells what it was. No condition.
-/
namespace Go.Ae.Keys

/-- so many bytes, seven bits each, the last one without the highest bit. -/
def lay : Nat → Nat → List Nat
  | 0, _ => []
  | f + 1, x => if x < 128 then [x] else (x % 128 + 128) :: lay f (x / 128)

theorem lay_inj : ∀ (f x y : Nat) (r s : List Nat), x < 128 ^ f → y < 128 ^ f → lay f x ++ r = lay f y ++ s → x = y ∧ r = s := by
  intro f
  induction f with
  | zero => intro x y r s hx hy h; simp only [Nat.pow_zero] at hx hy; exact ⟨by omega, h⟩
  | succ f ih =>
    intro x y r s hx hy h
    rw [Nat.pow_succ] at hx hy
    unfold lay at h
    by_cases h1 : x < 128 <;> by_cases h2 : y < 128
    · rw [if_pos h1, if_pos h2] at h
      simp only [List.cons_append, List.nil_append, List.cons.injEq] at h
      exact h
    · rw [if_pos h1, if_neg h2] at h
      simp only [List.cons_append, List.nil_append, List.cons.injEq] at h
      omega
    · rw [if_neg h1, if_pos h2] at h
      simp only [List.cons_append, List.nil_append, List.cons.injEq] at h
      omega
    · rw [if_neg h1, if_neg h2] at h
      simp only [List.cons_append, List.cons.injEq] at h
      obtain ⟨h3, h4⟩ := h
      obtain ⟨h5, h6⟩ := ih (x / 128) (y / 128) r s (by omega) (by omega) h4
      exact ⟨by omega, h6⟩

/-- a number as one that is none below 0. -/
def zig (n : Int) : Nat := if 0 ≤ n then (2 * n).toNat else (-2 * n - 1).toNat
theorem zig_inj {a b : Int} (h : zig a = zig b) : a = b := by
  unfold zig at h
  split at h <;> split at h <;> omega
theorem zig_lt {a : Int} (h1 : -9223372036854775808 ≤ a) (h2 : a < 9223372036854775808) : zig a < 18446744073709551616 := by
  unfold zig; split <;> omega
def one (n : Int) : List Nat := lay 10 (zig n)
def In (n : Int) : Prop := -9223372036854775808 ≤ n ∧ n < 9223372036854775808
theorem one_inj {a b : Int} (ha : In a) (hb : In b) {r s : List Nat} (h : one a ++ r = one b ++ s) : a = b ∧ r = s := by
  have e : (128 : Nat) ^ 10 = 1180591620717411303424 := by decide
  have h1 := zig_lt ha.1 ha.2
  have h2 := zig_lt hb.1 hb.2
  obtain ⟨h3, h4⟩ := lay_inj 10 _ _ r s (by omega) (by omega) h
  exact ⟨zig_inj h3, h4⟩
theorem one_ne (a : Int) : one a ≠ [] := by
  unfold one lay; split <;> simp
def row (l : List Int) : List Nat := l.flatMap one
theorem row_inj : ∀ (k l : List Int), (∀ x ∈ k, In x) → (∀ x ∈ l, In x) → row k = row l → k = l := by
  intro k
  induction k with
  | nil =>
    intro l _ _ h
    cases l with
    | nil => rfl
    | cons y l =>
      unfold row at h
      rw [List.flatMap_nil, List.flatMap_cons] at h
      exact absurd (List.append_eq_nil_iff.1 h.symm).1 (one_ne y)
  | cons x k ih =>
    intro l hk hl h
    cases l with
    | nil =>
      unfold row at h
      rw [List.flatMap_nil, List.flatMap_cons] at h
      exact absurd (List.append_eq_nil_iff.1 h).1 (one_ne x)
    | cons y l =>
      unfold row at h
      rw [List.flatMap_cons, List.flatMap_cons] at h
      obtain ⟨h1, h2⟩ := one_inj (hk x (List.mem_cons_self ..)) (hl y (List.mem_cons_self ..)) h
      rw [h1, ih l (fun z hz => hk z (List.mem_cons_of_mem _ hz)) (fun z hz => hl z (List.mem_cons_of_mem _ hz)) h2]
/-- a key: whether it is whole, a state, ways back, and types. -/
def key (w : Bool) (n : Int) (a b : List Int) : List Nat := (if w then 1 else 0) :: row (n :: (a.length : Int) :: (a ++ b))
theorem key_inj {n m : Int} {a b c d : List Int} (hn : In n) (hm : In m) (ha : ∀ x ∈ a, In x) (hb : ∀ x ∈ b, In x) (hc : ∀ x ∈ c, In x) (hd : ∀ x ∈ d, In x) (hal : In a.length) (hcl : In c.length) :
    key true n a b = key true m c d ↔ n = m ∧ a = c ∧ b = d := by
  constructor
  · intro h
    unfold key at h
    have h := (List.cons.inj h).2
    have h := row_inj _ _ (by
      intro x hx
      simp only [List.mem_cons, List.mem_append] at hx
      rcases hx with rfl | rfl | h | h
      · exact hn
      · exact hal
      · exact ha _ h
      · exact hb _ h) (by
      intro x hx
      simp only [List.mem_cons, List.mem_append] at hx
      rcases hx with rfl | rfl | h | h
      · exact hm
      · exact hcl
      · exact hc _ h
      · exact hd _ h) h
    simp only [List.cons.injEq] at h
    obtain ⟨h1, h2, h3⟩ := h
    have h4 := List.append_inj h3 (by omega)
    exact ⟨h1, h4⟩
  · rintro ⟨rfl, rfl, rfl⟩; rfl
theorem key_ne {n : Int} {a b : List Int} : key true n a b ≠ key false n a b := by
  unfold key; simp
end Go.Ae.Keys
