/-
  The stable sort of Go's library, in plain Lean, after its Go text: what it leaves is a permutation, ascending; what is ascending it leaves as it is. Condition: 'less' is a strict weak order.
-/
import Derived.Sort.LotA
set_option linter.unusedVariables false
set_option linter.unusedSimpArgs false
namespace Go.Rk
open Go.Sort
variable {α : Type} [Inhabited α]

/-! ### swapRange, rotate -/
/-- 'for i := ..; i < n; i++ { swap a+i, b+i }', n rounds from i on. -/
def swapFrom (a b : Nat) : Nat → Nat → Array α → Array α
  | _, 0, d => d
  | i, n + 1, d => swapFrom a b (i + 1) n (swp d (a + i) (b + i))
def swapRange (a b n : Nat) (d : Array α) : Array α := swapFrom a b 0 n d

theorem swapFrom_size (a b : Nat) : ∀ (n i : Nat) (d : Array α), (swapFrom a b i n d).size = d.size := by
  intro n
  induction n with
  | zero => intro i d; rfl
  | succ n ih => intro i d; rw [swapFrom, ih, swp_size]
theorem swapFrom_get (a b : Nat) : ∀ (n i : Nat) (d : Array α), a + i + n ≤ b + i → b + i + n ≤ d.size → ∀ k,
    (swapFrom a b i n d)[k]! = if a + i ≤ k ∧ k < a + i + n then d[b + (k - a)]! else if b + i ≤ k ∧ k < b + i + n then d[a + (k - b)]! else d[k]! := by
  intro n
  induction n with
  | zero => intro i d _ _ k; rw [swapFrom, if_neg (by omega), if_neg (by omega)]
  | succ n ih =>
    intro i d h1 h2 k
    rw [swapFrom, ih (i + 1) _ (by omega) (by rw [swp_size]; omega)]
    have g := swp_get d (show a + i < d.size by omega) (show b + i < d.size by omega)
    by_cases c1 : a + (i + 1) ≤ k ∧ k < a + (i + 1) + n
    · rw [if_pos c1, if_pos (by omega), g, if_neg (by omega), if_neg (by omega)]
    · rw [if_neg c1]
      by_cases c2 : b + (i + 1) ≤ k ∧ k < b + (i + 1) + n
      · rw [if_pos c2, if_neg (by omega), if_pos (by omega), g, if_neg (by omega), if_neg (by omega)]
      · rw [if_neg c2, g]
        by_cases e1 : k = b + i
        · subst e1
          rw [if_pos rfl, if_neg (by omega), if_pos (by omega)]
          congr 1; omega
        · rw [if_neg e1]
          by_cases e2 : k = a + i
          · subst e2
            rw [if_pos rfl, if_pos (by omega)]
            congr 1; omega
          · rw [if_neg e2, if_neg (by omega), if_neg (by omega)]
theorem swapFrom_perm (a b lo hi : Nat) : ∀ (n i : Nat) (d : Array α), lo ≤ a + i → a + i + n ≤ hi → lo ≤ b + i → b + i + n ≤ hi → hi ≤ d.size → PermIn lo hi d (swapFrom a b i n d) := by
  intro n
  induction n with
  | zero => intro i d _ _ _ _ _; exact permIn_refl d lo hi
  | succ n ih =>
    intro i d h1 h2 h3 h4 h5
    rw [swapFrom]
    exact permIn_trans _ _ _ lo hi (swp_permIn d lo hi (a + i) (b + i) h1 (by omega) h3 (by omega) h5) (ih (i + 1) _ (by omega) (by omega) (by omega) (by omega) (by rw [swp_size]; exact h5))

/-- 'rotate', from the loop on. -/
def rot (m i j : Nat) (d : Array α) : Array α :=
  if i = 0 ∨ j = 0 then d else
    if i = j then swapRange (m - i) m i d else
      if j < i then rot m (i - j) j (swapRange (m - i) m j d) else rot m i (j - i) (swapRange (m - i) (m + j - i) i d)
termination_by i + j
decreasing_by all_goals omega

theorem rot_size (m : Nat) : ∀ (n i j : Nat) (d : Array α), i + j ≤ n → (rot m i j d).size = d.size := by
  intro n
  induction n with
  | zero => intro i j d h; rw [rot, if_pos (by omega)]
  | succ n ih =>
    intro i j d h
    rw [rot]
    split
    · rfl
    · split
      · exact swapFrom_size _ _ _ _ _
      · split
        · rw [ih _ _ _ (by omega)]; exact swapFrom_size _ _ _ _ _
        · rw [ih _ _ _ (by omega)]; exact swapFrom_size _ _ _ _ _
theorem rot_get (m : Nat) : ∀ (n i j : Nat) (d : Array α), i + j ≤ n → 0 < i → 0 < j → i ≤ m → m + j ≤ d.size → ∀ k,
    (rot m i j d)[k]! = if m - i ≤ k ∧ k < m - i + j then d[k + i]! else if m - i + j ≤ k ∧ k < m + j then d[k - j]! else d[k]! := by
  intro n
  induction n with
  | zero => intro i j d h hi; omega
  | succ n ih =>
    intro i j d h hi hj him hmj k
    rw [rot, if_neg (by omega)]
    by_cases e : i = j
    · subst e
      rw [if_pos rfl, swapRange, swapFrom_get _ _ _ _ _ (by omega) (by omega)]
      by_cases c1 : m - i ≤ k ∧ k < m - i + i
      · rw [if_pos (by omega), if_pos c1]; congr 1; omega
      · rw [if_neg (by omega), if_neg c1]
        by_cases c2 : m - i + i ≤ k ∧ k < m + i
        · rw [if_pos (by omega), if_pos c2]; congr 1; omega
        · rw [if_neg (by omega), if_neg c2]
    · rw [if_neg e]
      by_cases hlt : j < i
      · rw [if_pos hlt, ih _ _ _ (by omega) (by omega) hj (by omega) (by rw [swapRange, swapFrom_size]; exact hmj)]
        have g := swapFrom_get (m - i) m j 0 d (by omega) (by omega)
        rw [swapRange, g, g, g]
        by_cases c1 : m - (i - j) ≤ k ∧ k < m - (i - j) + j
        · rw [if_pos c1]
          rw [if_neg (by omega), if_pos (by omega), if_neg (by omega), if_pos (by omega)]
          congr 1; omega
        · rw [if_neg c1]
          by_cases c2 : m - (i - j) + j ≤ k ∧ k < m + j
          · rw [if_pos c2, if_neg (by omega)]
            by_cases c3 : m ≤ k - j
            · omega
            · rw [if_neg (by omega), if_neg (by omega), if_pos (by omega)]
          · rw [if_neg c2]
            by_cases c4 : m - i ≤ k ∧ k < m - i + j
            · rw [if_pos (by omega), if_pos c4]; congr 1; omega
            · rw [if_neg (by omega), if_neg (by omega), if_neg c4, if_neg (by omega)]
      · rw [if_neg hlt, ih _ _ _ (by omega) hi (by omega) him (by rw [swapRange, swapFrom_size]; omega)]
        have g := swapFrom_get (m - i) (m + j - i) i 0 d (by omega) (by omega)
        rw [swapRange, g, g, g]
        by_cases c1 : m - i ≤ k ∧ k < m - i + (j - i)
        · rw [if_pos c1, if_pos (show m - i ≤ k ∧ k < m - i + j by omega)]
          by_cases c2 : m + j - i + 0 ≤ k + i ∧ k + i < m + j - i + 0 + i
          · omega
          · rw [if_neg (by omega), if_neg c2]
        · rw [if_neg c1]
          by_cases c2 : m - i + (j - i) ≤ k ∧ k < m + (j - i)
          · rw [if_pos c2]
            by_cases c3 : k < m - i + j
            · rw [if_pos (by omega), if_pos (by omega)]; congr 1; omega
            · rw [if_neg (by omega), if_neg (by omega), if_neg (by omega), if_pos (by omega)]
              congr 1; omega
          · rw [if_neg c2]
            by_cases c4 : m + (j - i) ≤ k ∧ k < m + j
            · rw [if_neg (by omega), if_pos (by omega), if_neg (by omega), if_pos (by omega)]; congr 1; omega
            · rw [if_neg (by omega), if_neg (by omega), if_neg (by omega), if_neg (by omega)]
theorem rot_perm (m : Nat) : ∀ (n i j lo hi : Nat) (d : Array α), i + j ≤ n → i ≤ m → lo ≤ m - i → m + j ≤ hi → hi ≤ d.size → PermIn lo hi d (rot m i j d) := by
  intro n
  induction n with
  | zero => intro i j lo hi d h _ _ _ _; rw [rot, if_pos (by omega)]; exact permIn_refl d lo hi
  | succ n ih =>
    intro i j lo hi d h him hlo hhi hsz
    rw [rot]
    split
    · exact permIn_refl d lo hi
    · split
      · exact swapFrom_perm _ _ lo hi _ _ _ (by omega) (by omega) (by omega) (by omega) hsz
      · split
        · exact permIn_trans _ _ _ lo hi (swapFrom_perm _ _ lo hi _ _ _ (by omega) (by omega) (by omega) (by omega) hsz) (ih _ _ lo hi _ (by omega) (by omega) (by omega) (by omega) (by rw [swapFrom_size]; exact hsz))
        · exact permIn_trans _ _ _ lo hi (swapFrom_perm _ _ lo hi _ _ _ (by omega) (by omega) (by omega) (by omega) hsz) (ih _ _ lo hi _ (by omega) (by omega) (by omega) (by omega) (by rw [swapFrom_size]; exact hsz))

/-! ### a search by halves -/
def bs (p : Nat → Bool) (i j : Nat) : Nat :=
  if i < j then (if p ((i + j) / 2) then bs p ((i + j) / 2 + 1) j else bs p i ((i + j) / 2)) else i
termination_by j - i
decreasing_by all_goals omega

theorem bs_spec (p : Nat → Bool) (lo hi : Nat) (hm : ∀ h h', lo ≤ h → h < h' → h' < hi → p h' = true → p h = true) : ∀ (n i j : Nat), j - i ≤ n → lo ≤ i → i ≤ j → j ≤ hi → (∀ h, lo ≤ h → h < i → p h = true) → (∀ h, j ≤ h → h < hi → p h = false) →
    i ≤ bs p i j ∧ bs p i j ≤ j ∧ (∀ h, lo ≤ h → h < bs p i j → p h = true) ∧ (∀ h, bs p i j ≤ h → h < hi → p h = false) := by
  intro n
  induction n with
  | zero =>
    intro i j h1 h2 h3 h4 h5 h6
    obtain rfl : i = j := by omega
    rw [bs, if_neg (by omega)]
    exact ⟨Nat.le_refl _, Nat.le_refl _, h5, h6⟩
  | succ n ih =>
    intro i j h1 h2 h3 h4 h5 h6
    rw [bs]
    split
    · next hlt =>
      cases hp : p ((i + j) / 2) with
      | true =>
        simp only [if_true]
        have := ih ((i + j) / 2 + 1) j (by omega) (by omega) (by omega) h4 (fun h a b => by
          by_cases e : h = (i + j) / 2
          · subst e; exact hp
          · exact hm h ((i + j) / 2) a (by omega) (by omega) hp) h6
        exact ⟨by omega, this.2.1, this.2.2⟩
      | false =>
        simp only [Bool.false_eq_true, if_false]
        have := ih i ((i + j) / 2) (by omega) h2 (by omega) (by omega) h5 (fun h a b => by
          by_cases e : h = (i + j) / 2
          · subst e; exact hp
          · cases hh : p h with
            | false => rfl
            | true => rw [hm ((i + j) / 2) h (by omega) (by omega) b hh] at hp; cases hp)
        exact ⟨this.1, by omega, this.2.2⟩
    · next hlt =>
      obtain rfl : i = j := by omega
      exact ⟨Nat.le_refl _, Nat.le_refl _, h5, h6⟩

/-! ### one element into a row: 'for k := a; k < i-1; k++ { swap k, k+1 }', and back -/
def up : Nat → Nat → Array α → Array α
  | _, 0, d => d
  | k, n + 1, d => up (k + 1) n (swp d k (k + 1))
def down : Nat → Nat → Array α → Array α
  | _, 0, d => d
  | k, n + 1, d => down (k - 1) n (swp d k (k - 1))

theorem up_size : ∀ (n k : Nat) (d : Array α), (up k n d).size = d.size := by
  intro n
  induction n with
  | zero => intro k d; rfl
  | succ n ih => intro k d; rw [up, ih, swp_size]
theorem up_get : ∀ (n k : Nat) (d : Array α), k + n < d.size → ∀ q, (up k n d)[q]! = if q = k + n then d[k]! else if k ≤ q ∧ q < k + n then d[q + 1]! else d[q]! := by
  intro n
  induction n with
  | zero =>
    intro k d h q
    rw [up]
    by_cases e : q = k + 0
    · rw [if_pos e, e]; rfl
    · rw [if_neg e, if_neg (by omega)]
  | succ n ih =>
    intro k d h q
    rw [up, ih (k + 1) _ (by rw [swp_size]; omega)]
    have g := swp_get d (show k < d.size by omega) (show k + 1 < d.size by omega)
    have r1 : (swp d k (k + 1))[k + 1]! = d[k]! := by rw [g, if_pos rfl]
    by_cases e : q = k + 1 + n
    · rw [if_pos e, if_pos (by omega), r1]
    · rw [if_neg e, if_neg (show ¬ q = k + (n + 1) by omega)]
      by_cases c : k + 1 ≤ q ∧ q < k + 1 + n
      · rw [if_pos c, if_pos (by omega), g, if_neg (by omega), if_neg (by omega)]
      · rw [if_neg c, g]
        by_cases e2 : q = k + 1
        · rw [if_pos e2]
          by_cases e0 : n = 0
          · omega
          · omega
        · rw [if_neg e2]
          by_cases e3 : q = k
          · subst e3; rw [if_pos rfl, if_pos (by omega)]
          · rw [if_neg e3, if_neg (by omega)]
theorem up_perm (lo hi : Nat) : ∀ (n k : Nat) (d : Array α), lo ≤ k → k + n < hi → hi ≤ d.size → PermIn lo hi d (up k n d) := by
  intro n
  induction n with
  | zero => intro k d _ _ _; exact permIn_refl d lo hi
  | succ n ih =>
    intro k d h1 h2 h3
    rw [up]
    exact permIn_trans _ _ _ lo hi (swp_permIn d lo hi k (k + 1) h1 (by omega) (by omega) (by omega) h3) (ih (k + 1) _ (by omega) (by omega) (by rw [swp_size]; exact h3))
theorem down_size : ∀ (n k : Nat) (d : Array α), (down k n d).size = d.size := by
  intro n
  induction n with
  | zero => intro k d; rfl
  | succ n ih => intro k d; rw [down, ih, swp_size]
theorem down_get : ∀ (n k : Nat) (d : Array α), k < d.size → n ≤ k → ∀ q, (down k n d)[q]! = if q = k - n then d[k]! else if k - n < q ∧ q ≤ k then d[q - 1]! else d[q]! := by
  intro n
  induction n with
  | zero =>
    intro k d h _ q
    rw [down]
    by_cases e : q = k - 0
    · rw [if_pos e, e]; rfl
    · rw [if_neg e, if_neg (by omega)]
  | succ n ih =>
    intro k d h hn q
    rw [down, ih (k - 1) _ (by rw [swp_size]; omega) (by omega)]
    have g := swp_get d (show k < d.size by omega) (show k - 1 < d.size by omega)
    have r1 : (swp d k (k - 1))[k - 1]! = d[k]! := by rw [g, if_pos rfl]
    by_cases e : q = k - 1 - n
    · rw [if_pos e, if_pos (by omega), r1]
    · rw [if_neg e, if_neg (show ¬ q = k - (n + 1) by omega)]
      by_cases c : k - 1 - n < q ∧ q ≤ k - 1
      · rw [if_pos c, if_pos (by omega), g, if_neg (by omega), if_neg (by omega)]
      · rw [if_neg c, g]
        by_cases e2 : q = k - 1
        · omega
        · rw [if_neg e2]
          by_cases e3 : q = k
          · subst e3; rw [if_pos rfl, if_pos (by omega)]
          · rw [if_neg e3, if_neg (by omega)]
theorem down_perm (lo hi : Nat) : ∀ (n k : Nat) (d : Array α), lo + n ≤ k → k < hi → hi ≤ d.size → PermIn lo hi d (down k n d) := by
  intro n
  induction n with
  | zero => intro k d _ _ _; exact permIn_refl d lo hi
  | succ n ih =>
    intro k d h1 h2 h3
    rw [down]
    exact permIn_trans _ _ _ lo hi (swp_permIn d lo hi k (k - 1) (by omega) h2 (by omega) (by omega) h3) (ih (k - 1) _ (by omega) (by omega) (by rw [swp_size]; exact h3))

/-! ### symMerge -/
section
variable (lt : α → α → Bool)
/-- where the right one of two halves begins that change places. -/
def cutAt (a m b : Nat) (d : Array α) : Nat :=
  let mid := (a + b) / 2
  let n := mid + m
  if mid < m then bs (fun c => !lt d[n - 1 - c]! d[c]!) (n - b) mid else bs (fun c => !lt d[n - 1 - c]! d[c]!) a m
def turned (a m b : Nat) (d : Array α) : Array α :=
  let start := cutAt lt a m b d
  let stop := (a + b) / 2 + m - start
  if start < m ∧ m < stop then rot m (m - start) (stop - m) d else d
def symMerge : Nat → Nat → Nat → Nat → Array α → Array α
  | 0, _, _, _, d => d
  | f + 1, a, m, b, d =>
    if m - a = 1 then up a (bs (fun h => lt d[h]! d[a]!) m b - 1 - a) d
    else if b - m = 1 then down m (m - bs (fun h => !lt d[m]! d[h]!) a m) d
    else
      let start := cutAt lt a m b d
      let mid := (a + b) / 2
      let stop := mid + m - start
      let d1 := turned lt a m b d
      let d2 := if a < start ∧ start < mid then symMerge f a start mid d1 else d1
      if mid < stop ∧ stop < b then symMerge f mid stop b d2 else d2
end

theorem _root_.Go.Sort.SortedIn.sub {lt : α → α → Bool} {a b a' b' : Nat} {d : Array α} (h : SortedIn lt a b d) (h1 : a ≤ a') (h2 : b' ≤ b) : SortedIn lt a' b' d := fun i j x y z => h i j (by omega) y (by omega)
theorem _root_.Go.Sort.SortedIn.congr {lt : α → α → Bool} {a b : Nat} {d d' : Array α} (h : SortedIn lt a b d) (e : ∀ i, a ≤ i → i < b → d'[i]! = d[i]!) : SortedIn lt a b d' := by
  intro i j x y z
  rw [e i x (by omega), e j (by omega) z]
  exact h i j x y z
/-- ascending, equal places too. -/
theorem SortedIn.le {lt : α → α → Bool} (hS : SWO lt) {a b : Nat} {d : Array α} (h : SortedIn lt a b d) {i j : Nat} (h1 : a ≤ i) (h2 : i ≤ j) (h3 : j < b) : lt d[j]! d[i]! = false := by
  by_cases e : i = j
  · subst e; exact hS.irrefl _
  · exact h i j h1 (by omega) h3
/-- two ascending rows, the one nowhere above the other. -/
theorem SortedIn.join {lt : α → α → Bool} {a m b : Nat} {d : Array α} (h1 : SortedIn lt a m d) (h2 : SortedIn lt m b d) (h : ∀ i j, a ≤ i → i < m → m ≤ j → j < b → lt d[j]! d[i]! = false) : SortedIn lt a b d := by
  intro i j x y z
  by_cases c : j < m
  · exact h1 i j x y c
  · by_cases c2 : i < m
    · exact h i j x c2 (by omega) z
    · exact h2 i j (by omega) y z

variable {lt : α → α → Bool}

omit [Inhabited α] in
theorem lt_of_lt_le (hS : SWO lt) {x y z : α} (h1 : lt x y = true) (h2 : lt z y = false) : lt x z = true := by
  cases h : lt x z with
  | true => rfl
  | false =>
    have := hS.ntrans x z y h h2
    rw [h1] at this; cases this
omit [Inhabited α] in
theorem lt_of_le_lt (hS : SWO lt) {x y z : α} (h1 : lt y x = false) (h2 : lt y z = true) : lt x z = true := by
  cases h : lt x z with
  | true => rfl
  | false =>
    have := hS.ntrans y x z h1 h
    rw [h2] at this; cases this

/-- of the search: what lies ahead of the cut, and behind it. -/
theorem cutAt_spec (hS : SWO lt) {a m b : Nat} {d : Array α} (h1 : a < m) (h2 : m < b) (hl : SortedIn lt a m d) (hr : SortedIn lt m b d) :
    let s := cutAt lt a m b d
    let mid := (a + b) / 2
    let n := mid + m
    a ≤ s ∧ s ≤ m ∧ s ≤ mid ∧ n - s ≤ b ∧ m ≤ n - s ∧ s ≤ n ∧
      (∀ i j, a ≤ i → i < s → n - s ≤ j → j < b → lt d[j]! d[i]! = false) ∧ (∀ i j, s ≤ i → i < m → m ≤ j → j < n - s → lt d[j]! d[i]! = true) := by
  intro s mid n
  have hmid1 : a ≤ mid := by show a ≤ (a + b) / 2; omega
  have hmid2 : mid < b := by show (a + b) / 2 < b; omega
  have hab : 2 * mid ≤ a + b ∧ a + b ≤ 2 * mid + 1 := by constructor <;> (show _ ≤ _; omega)
  have hmono : ∀ lo hi, a ≤ lo → hi ≤ m → (∀ c, lo ≤ c → c < hi → m ≤ n - 1 - c ∧ n - 1 - c < b) → ∀ h h', lo ≤ h → h < h' → h' < hi → (!lt d[n - 1 - h']! d[h']!) = true → (!lt d[n - 1 - h]! d[h]!) = true := by
    intro lo hi e1 e2 e3 h h' g1 g2 g3 g4
    have a1 := e3 h g1 (by omega)
    have a2 := e3 h' (by omega) g3
    simp only [Bool.not_eq_true'] at g4 ⊢
    -- d[h] ≤ d[h'] ≤ d[n-1-h'] ≤ d[n-1-h]
    have b1 : lt d[h']! d[h]! = false := hl h h' (by omega) g2 (by omega)
    have b2 : lt d[n - 1 - h]! d[n - 1 - h']! = false := hr (n - 1 - h') (n - 1 - h) a2.1 (by omega) a1.2
    exact hS.ntrans _ _ _ b2 (hS.ntrans _ _ _ g4 b1)
  by_cases hc : mid < m
  · have hs : s = bs (fun c => !lt d[n - 1 - c]! d[c]!) (n - b) mid := by show cutAt lt a m b d = _; unfold cutAt; simp only; rw [if_pos hc]
    have hrange : ∀ c, n - b ≤ c → c < mid → m ≤ n - 1 - c ∧ n - 1 - c < b := by intro c x y; omega
    obtain ⟨k1, k2, k3, k4⟩ := bs_spec _ (n - b) mid (hmono (n - b) mid (by omega) (by omega) hrange) (mid - (n - b)) (n - b) mid (Nat.le_refl _) (Nat.le_refl _) (by omega) (Nat.le_refl _) (fun h x y => by omega) (fun h x y => by omega)
    rw [← hs] at k1 k2 k3 k4
    refine ⟨by omega, by omega, k2, by omega, by omega, by omega, ?_, ?_⟩
    · intro i j x y z v
      by_cases e : s = n - b
      · omega
      · have g := k3 (s - 1) (by omega) (by omega)
        simp only [Bool.not_eq_true'] at g
        have a1 : lt d[s - 1]! d[i]! = false := SortedIn.le hS hl x (by omega) (by omega)
        have a2 : lt d[j]! d[n - 1 - (s - 1)]! = false := SortedIn.le hS hr (by omega) (by omega) v
        exact hS.ntrans _ _ _ a2 (hS.ntrans _ _ _ g a1)
    · intro i j x y z v
      by_cases e : s = mid
      · omega
      · have g := k4 s (Nat.le_refl _) (by omega)
        simp only [Bool.not_eq_false'] at g
        have a1 : lt d[i]! d[s]! = false := SortedIn.le hS hl (by omega) x y
        have a2 : lt d[n - 1 - s]! d[j]! = false := SortedIn.le hS hr z (by omega) (by omega)
        exact lt_of_lt_le hS (lt_of_le_lt hS a2 g) a1
  · have hs : s = bs (fun c => !lt d[n - 1 - c]! d[c]!) a m := by show cutAt lt a m b d = _; unfold cutAt; simp only; rw [if_neg hc]
    have hrange : ∀ c, a ≤ c → c < m → m ≤ n - 1 - c ∧ n - 1 - c < b := by intro c x y; omega
    obtain ⟨k1, k2, k3, k4⟩ := bs_spec _ a m (hmono a m (by omega) (by omega) hrange) (m - a) a m (Nat.le_refl _) (Nat.le_refl _) (by omega) (Nat.le_refl _) (fun h x y => by omega) (fun h x y => by omega)
    rw [← hs] at k1 k2 k3 k4
    refine ⟨by omega, by omega, by omega, by omega, by omega, by omega, ?_, ?_⟩
    · intro i j x y z v
      have g := k3 (s - 1) (by omega) (by omega)
      simp only [Bool.not_eq_true'] at g
      have a1 : lt d[s - 1]! d[i]! = false := SortedIn.le hS hl x (by omega) (by omega)
      have a2 : lt d[j]! d[n - 1 - (s - 1)]! = false := SortedIn.le hS hr (by omega) (by omega) v
      exact hS.ntrans _ _ _ a2 (hS.ntrans _ _ _ g a1)
    · intro i j x y z v
      have g := k4 s (Nat.le_refl _) (by omega)
      simp only [Bool.not_eq_false'] at g
      have a1 : lt d[i]! d[s]! = false := SortedIn.le hS hl (by omega) x y
      have a2 : lt d[n - 1 - s]! d[j]! = false := SortedIn.le hS hr z (by omega) (by omega)
      exact lt_of_lt_le hS (lt_of_le_lt hS a2 g) a1

/-- behind the turn: four rows, the two left ones nowhere above the two right ones. -/
structure Four (lt : α → α → Bool) (a s mid e b : Nat) (d : Array α) : Prop where
  l1 : SortedIn lt a s d
  l2 : SortedIn lt s mid d
  r1 : SortedIn lt mid e d
  r2 : SortedIn lt e b d
  cross : ∀ i j, a ≤ i → i < mid → mid ≤ j → j < b → lt d[j]! d[i]! = false

theorem turned_spec (hS : SWO lt) {a m b : Nat} {d : Array α} (h1 : a < m) (h2 : m < b) (hb : b ≤ d.size) (hl : SortedIn lt a m d) (hr : SortedIn lt m b d) :
    PermIn a b d (turned lt a m b d) ∧ Four lt a (cutAt lt a m b d) ((a + b) / 2) ((a + b) / 2 + m - cutAt lt a m b d) b (turned lt a m b d) ∧ (SortedIn lt a b d → turned lt a m b d = d) := by
  have hc := cutAt_spec hS h1 h2 hl hr
  simp only at hc
  unfold turned
  simp only
  generalize cutAt lt a m b d = s at hc ⊢
  generalize hmid : (a + b) / 2 = mid at hc ⊢
  obtain ⟨c1, c2, c3, c4, c5, c6, c7, c8⟩ := hc
  generalize he : mid + m - s = e at c4 c5 c7 c8 ⊢
  have hmb : a ≤ mid ∧ mid < b := by omega
  by_cases hrot : s < m ∧ m < e
  · rw [if_pos hrot]
    have g := rot_get m (m - s + (e - m)) (m - s) (e - m) d (Nat.le_refl _) (by omega) (by omega) (by omega) (by omega)
    have g1 : ∀ k, k < s → (rot m (m - s) (e - m) d)[k]! = d[k]! := fun k hk => by rw [g, if_neg (by omega), if_neg (by omega)]
    have g2 : ∀ k, s ≤ k → k < mid → (rot m (m - s) (e - m) d)[k]! = d[k + (m - s)]! := fun k x y => by rw [g, if_pos (by omega)]
    have g3 : ∀ k, mid ≤ k → k < e → (rot m (m - s) (e - m) d)[k]! = d[k - (e - m)]! := fun k x y => by rw [g, if_neg (by omega), if_pos (by omega)]
    have g4 : ∀ k, e ≤ k → (rot m (m - s) (e - m) d)[k]! = d[k]! := fun k x => by rw [g, if_neg (by omega), if_neg (by omega)]
    refine ⟨rot_perm m _ (m - s) (e - m) a b d (Nat.le_refl _) (by omega) (by omega) (by omega) hb, ⟨?_, ?_, ?_, ?_, ?_⟩, ?_⟩
    · intro i j x y z
      rw [g1 i (by omega), g1 j z]
      exact hl i j x y (by omega)
    · intro i j x y z
      rw [g2 i x (by omega), g2 j (by omega) z]
      exact hr _ _ (by omega) (by omega) (by omega)
    · intro i j x y z
      rw [g3 i x (by omega), g3 j (by omega) z]
      exact hl _ _ (by omega) (by omega) (by omega)
    · intro i j x y z
      rw [g4 i x, g4 j (by omega)]
      exact hr _ _ (by omega) y z
    · intro i j x y z v
      by_cases ci : i < s
      · rw [g1 i ci]
        by_cases cj : j < e
        · rw [g3 j z cj]
          exact hl _ _ x (by omega) (by omega)
        · rw [g4 j (by omega)]
          exact c7 i j x ci (by omega) v
      · rw [g2 i (by omega) y]
        by_cases cj : j < e
        · rw [g3 j z cj]
          exact hS.asymmA (c8 (j - (e - m)) (i + (m - s)) (by omega) (by omega) (by omega) (by omega))
        · rw [g4 j (by omega)]
          exact hr _ _ (by omega) (by omega) v
    · intro hs
      have a1 := c8 s m (Nat.le_refl _) hrot.1 (Nat.le_refl _) hrot.2
      have a2 := hs s m c1 hrot.1 h2
      rw [a1] at a2; cases a2
  · rw [if_neg hrot]
    refine ⟨permIn_refl d a b, ?_, fun _ => rfl⟩
    by_cases hsm : s = m
    · subst hsm
      have : e = mid := by omega
      subst this
      refine ⟨hl, hr.sub (Nat.le_refl _) (by omega), fun i j x y z => by omega, hr.sub (by omega) (Nat.le_refl _), ?_⟩
      intro i j x y z v
      by_cases ci : i < s
      · exact c7 i j x ci z v
      · exact hr i j (by omega) (by omega) v
    · have hem : e = m := by omega
      have : s = mid := by omega
      subst this
      subst hem
      refine ⟨hl.sub (Nat.le_refl _) (by omega), fun i j x y z => by omega, hl.sub (by omega) (Nat.le_refl _), hr, ?_⟩
      intro i j x y z v
      by_cases cj : j < e
      · exact hl i j x (by omega) cj
      · exact c7 i j x y (by omega) v

theorem symMerge_ok (hS : SWO lt) : ∀ (f a m b : Nat) (d : Array α), b - a ≤ f → a < m → m < b → b ≤ d.size → SortedIn lt a m d → SortedIn lt m b d →
    (PermIn a b d (symMerge lt f a m b d) ∧ SortedIn lt a b (symMerge lt f a m b d)) ∧ (SortedIn lt a b d → symMerge lt f a m b d = d) := by
  intro f
  induction f with
  | zero => intro a m b d h; omega
  | succ f ih =>
    intro a m b d hf h1 h2 hb hl hr
    rw [symMerge]
    by_cases c1 : m - a = 1
    · rw [if_pos c1]
      have hm : ∀ h h', m ≤ h → h < h' → h' < b → lt d[h']! d[a]! = true → lt d[h]! d[a]! = true := fun h h' x y z v => lt_of_le_lt hS (hr h h' x y z) v
      obtain ⟨k1, k2, k3, k4⟩ := bs_spec (fun h => lt d[h]! d[a]!) m b hm (b - m) m b (Nat.le_refl _) (Nat.le_refl _) (by omega) (Nat.le_refl _) (fun h x y => by omega) (fun h x y => by omega)
      generalize bs (fun h => lt d[h]! d[a]!) m b = i at k1 k2 k3 k4 ⊢
      have g := up_get (i - 1 - a) a d (by omega)
      have g1 : ∀ q, a ≤ q → q < i - 1 → (up a (i - 1 - a) d)[q]! = d[q + 1]! := fun q x y => by rw [g, if_neg (by omega), if_pos (by omega)]
      have g2 : (up a (i - 1 - a) d)[i - 1]! = d[a]! := by rw [g, if_pos (by omega)]
      have g3 : ∀ q, i ≤ q → (up a (i - 1 - a) d)[q]! = d[q]! := fun q x => by rw [g, if_neg (by omega), if_neg (by omega)]
      refine ⟨⟨up_perm a b _ a d (Nat.le_refl _) (by omega) hb, ?_⟩, ?_⟩
      · intro p q x y z
        by_cases cq : q < i - 1
        · rw [g1 p x (by omega), g1 q (by omega) cq]
          exact hr _ _ (by omega) (by omega) (by omega)
        · by_cases cq2 : q = i - 1
          · subst cq2
            rw [g2, g1 p x y]
            exact hS.asymmA (k3 (p + 1) (by omega) (by omega))
          · rw [g3 q (by omega)]
            by_cases cp : p < i - 1
            · rw [g1 p x cp]
              exact hr _ _ (by omega) (by omega) z
            · by_cases cp2 : p = i - 1
              · subst cp2
                rw [g2]
                exact k4 q (by omega) z
              · rw [g3 p (by omega)]
                exact hr _ _ (by omega) y z
      · intro hs
        have : i = m := by
          apply Classical.byContradiction
          intro hne
          have a1 := k3 m (Nat.le_refl _) (by omega)
          have a2 := hs a m (Nat.le_refl _) h1 h2
          rw [a1] at a2; cases a2
        rw [show i - 1 - a = 0 from by omega]
        rfl
    · rw [if_neg c1]
      by_cases c2 : b - m = 1
      · rw [if_pos c2]
        have hm : ∀ h h', a ≤ h → h < h' → h' < m → (!lt d[m]! d[h']!) = true → (!lt d[m]! d[h]!) = true := fun h h' x y z v => by
          simp only [Bool.not_eq_true'] at v ⊢
          exact hS.ntrans _ _ _ v (hl h h' x y z)
        obtain ⟨k1, k2, k3, k4⟩ := bs_spec (fun h => !lt d[m]! d[h]!) a m hm (m - a) a m (Nat.le_refl _) (Nat.le_refl _) (by omega) (Nat.le_refl _) (fun h x y => by omega) (fun h x y => by omega)
        generalize bs (fun h => !lt d[m]! d[h]!) a m = i at k1 k2 k3 k4 ⊢
        have g := down_get (m - i) m d (by omega) (by omega)
        have g1 : ∀ q, q < i → (down m (m - i) d)[q]! = d[q]! := fun q x => by rw [g, if_neg (by omega), if_neg (by omega)]
        have g2 : (down m (m - i) d)[i]! = d[m]! := by rw [g, if_pos (by omega)]
        have g3 : ∀ q, i < q → q ≤ m → (down m (m - i) d)[q]! = d[q - 1]! := fun q x y => by rw [g, if_neg (by omega), if_pos (by omega)]
        refine ⟨⟨down_perm a b _ m d (by omega) h2 hb, ?_⟩, ?_⟩
        · intro p q x y z
          by_cases cq : q < i
          · rw [g1 p (by omega), g1 q cq]
            exact hl _ _ x y (by omega)
          · by_cases cq2 : q = i
            · subst cq2
              rw [g2, g1 p y]
              have := k3 p x y
              simpa using this
            · rw [g3 q (by omega) (by omega)]
              by_cases cp : p < i
              · rw [g1 p cp]
                exact hl _ _ x (by omega) (by omega)
              · by_cases cp2 : p = i
                · subst cp2
                  rw [g2]
                  have := k4 (q - 1) (by omega) (by omega)
                  exact hS.asymmA (by simpa using this)
                · rw [g3 p (by omega) (by omega)]
                  exact hl _ _ (by omega) (by omega) (by omega)
        · intro hs
          have : i = m := by
            apply Classical.byContradiction
            intro hne
            have a1 := k4 i (Nat.le_refl _) (by omega)
            have a2 := hs i m k1 (by omega) h2
            simp only [Bool.not_eq_false'] at a1
            rw [a1] at a2; cases a2
          rw [show m - i = 0 from by omega]
          rfl
      · rw [if_neg c2]
        simp only
        have hc := cutAt_spec hS h1 h2 hl hr
        simp only at hc
        obtain ⟨t1, t2, t3⟩ := turned_spec hS h1 h2 hb hl hr
        generalize turned lt a m b d = d1 at t1 t2 t3 ⊢
        generalize cutAt lt a m b d = s at hc t2 ⊢
        generalize hmid : (a + b) / 2 = mid at hc t2 ⊢
        obtain ⟨u1, u2, u3, u4, u5, u6, _, _⟩ := hc
        generalize he : mid + m - s = e at u4 u5 t2 ⊢
        have hmb : a < mid ∧ mid < b := by omega
        have hsz1 : d1.size = d.size := t1.1
        -- the left half
        have left : ∃ d2, (if a < s ∧ s < mid then symMerge lt f a s mid d1 else d1) = d2 ∧ PermIn a mid d1 d2 ∧ SortedIn lt a mid d2 ∧ (SortedIn lt a mid d1 → d2 = d1) := by
          by_cases hc1 : a < s ∧ s < mid
          · rw [if_pos hc1]
            have := ih a s mid d1 (by omega) hc1.1 hc1.2 (by omega) t2.l1 t2.l2
            exact ⟨_, rfl, this.1.1, this.1.2, this.2⟩
          · rw [if_neg hc1]
            refine ⟨_, rfl, permIn_refl d1 a mid, ?_, fun _ => rfl⟩
            by_cases hsa : s = a
            · have := t2.l2; rw [hsa] at this; exact this
            · have hsm : s = mid := by omega
              have := t2.l1; rw [hsm] at this; exact this
        obtain ⟨d2, e2, p2, s2, n2⟩ := left
        rw [e2]
        have hsz2 : d2.size = d.size := p2.1.trans hsz1
        have out2 : ∀ k, mid ≤ k → d2[k]! = d1[k]! := fun k hk => p2.2.1 k (.inr hk)
        have cross2 : ∀ i j, a ≤ i → i < mid → mid ≤ j → j < b → lt d2[j]! d2[i]! = false := by
          intro i j x y z v
          rw [out2 j z]
          exact permIn_all d1 d2 a mid (fun v => ∀ j, mid ≤ j → j < b → lt d1[j]! v = false) (by omega) p2 (fun i x y j z v => t2.cross i j x y z v) i x y j z v
        have right : ∃ d3, (if mid < e ∧ e < b then symMerge lt f mid e b d2 else d2) = d3 ∧ PermIn mid b d2 d3 ∧ SortedIn lt mid b d3 ∧ (SortedIn lt mid b d2 → d3 = d2) := by
          have r1 : SortedIn lt mid e d2 := t2.r1.congr fun i x _ => out2 i x
          have r2 : SortedIn lt e b d2 := t2.r2.congr fun i x _ => out2 i (by omega)
          by_cases hc1 : mid < e ∧ e < b
          · rw [if_pos hc1]
            have := ih mid e b d2 (by omega) hc1.1 hc1.2 (by omega) r1 r2
            exact ⟨_, rfl, this.1.1, this.1.2, this.2⟩
          · rw [if_neg hc1]
            refine ⟨_, rfl, permIn_refl d2 mid b, ?_, fun _ => rfl⟩
            by_cases hsa : e = mid
            · rw [hsa] at r2; exact r2
            · have hsm : e = b := by omega
              rw [hsm] at r1; exact r1
        obtain ⟨d3, e3, p3, s3, n3⟩ := right
        rw [e3]
        have out3 : ∀ k, k < mid → d3[k]! = d2[k]! := fun k hk => p3.2.1 k (.inl hk)
        refine ⟨⟨?_, ?_⟩, ?_⟩
        · refine permIn_trans d d1 d3 a b t1 (permIn_trans d1 d2 d3 a b ?_ ?_)
          · exact permIn_mono d1 d2 a mid a b (Nat.le_refl _) (by omega) (by omega) p2
          · exact permIn_mono d2 d3 mid b a b (by omega) (Nat.le_refl _) (by omega) p3
        · have s2' : SortedIn lt a mid d3 := s2.congr fun i _ y => out3 i y
          refine SortedIn.join s2' s3 ?_
          intro i j x y z v
          rw [out3 i y]
          exact permIn_all d2 d3 mid b (fun v => lt v d2[i]! = false) (by omega) p3 (fun j z v => cross2 i j x y z v) j z v
        · intro hs
          have e1 := t3 hs
          subst e1
          have e4 := n2 (hs.sub (Nat.le_refl _) (by omega))
          subst e4
          exact n3 (hs.sub (by omega) (Nat.le_refl _))

/-! ### the whole -/
theorem insInner_same {a : Nat} : ∀ (j : Nat) (d : Array α), (∀ k, a ≤ k → k + 1 ≤ j → lt d[k + 1]! d[k]! = false) → insInner lt a j d = d
  | 0, d, _ => rfl
  | j + 1, d, h => by
    unfold insInner
    split
    · rename_i hc
      simp only [Bool.and_eq_true, decide_eq_true_eq] at hc
      have := h j (by omega) (Nat.le_refl _)
      rw [hc.2] at this; cases this
    · rfl
theorem insOuter_same {a b : Nat} {d : Array α} (h : SortedIn lt a b d) : ∀ (n i : Nat), b - i = n → insOuter lt a b i d = d := by
  intro n
  induction n with
  | zero => intro i hn; rw [insOuter, if_neg (by omega)]
  | succ n ih =>
    intro i hn
    rw [insOuter, if_pos (by omega), insInner_same i d (fun k x y => h k (k + 1) x (by omega) (by omega))]
    exact ih (i + 1) (by omega)
theorem insertionSort_same {a b : Nat} {d : Array α} (h : SortedIn lt a b d) : insertionSort lt d a b = d := insOuter_same h _ _ rfl

section
variable (lt)
def insB (n a : Nat) (d : Array α) : Array α := if a + 20 ≤ n then insB n (a + 20) (insertionSort lt d a (a + 20)) else insertionSort lt d a n
termination_by n - a
decreasing_by omega
/-- one pass of merges; blocks of s elements. -/
def mrgB (n s a : Nat) (d : Array α) : Array α :=
  if 0 < s ∧ a + 2 * s ≤ n then mrgB n s (a + 2 * s) (symMerge lt n a (a + s) (a + 2 * s) d) else if a + s < n then symMerge lt n a (a + s) n d else d
termination_by n - a
decreasing_by omega
def passes (n s : Nat) (d : Array α) : Array α := if 0 < s ∧ s < n then passes n (2 * s) (mrgB lt n s 0 d) else d
termination_by n - s
decreasing_by omega
def stable (n : Nat) (d : Array α) : Array α := passes lt n 20 (insB lt n 0 d)
end

/-- ascending in blocks of s elements, from a on. -/
def Blk (lt : α → α → Bool) (n s a : Nat) (d : Array α) : Prop := ∀ t, SortedIn lt (a + t * s) (min (a + (t + 1) * s) n) d

theorem insB_ok (hS : SWO lt) (n : Nat) : ∀ (k a : Nat) (d : Array α), n - a ≤ k → a ≤ n → n ≤ d.size →
    PermIn a n d (insB lt n a d) ∧ Blk lt n 20 a (insB lt n a d) ∧ (SortedIn lt a n d → insB lt n a d = d) := by
  intro k
  induction k with
  | zero =>
    intro a d h1 h2 h3
    obtain rfl : a = n := by omega
    rw [insB, if_neg (by omega)]
    have h := insertionSort_holds hS d a a (Nat.le_refl _) h3
    exact ⟨h.1, fun t i j x y z => by omega, fun hs => insertionSort_same hs⟩
  | succ k ih =>
    intro a d h1 h2 h3
    rw [insB]
    by_cases c : a + 20 ≤ n
    · rw [if_pos c]
      have h := insertionSort_holds hS d a (a + 20) (by omega) (by omega)
      obtain ⟨i1, i2, i3⟩ := ih (a + 20) (insertionSort lt d a (a + 20)) (by omega) c (by rw [h.1.1]; exact h3)
      refine ⟨permIn_trans _ _ _ a n (permIn_mono _ _ a (a + 20) a n (Nat.le_refl _) c h3 h.1) (permIn_mono _ _ (a + 20) n a n (by omega) (Nat.le_refl _) (by rw [h.1.1]; exact h3) i1), ?_, ?_⟩
      · intro t
        cases t with
        | zero =>
          have : SortedIn lt a (a + 20) (insB lt n (a + 20) (insertionSort lt d a (a + 20))) := h.2.congr fun i x y => i1.2.1 i (.inl y)
          exact this.sub (by omega) (by omega)
        | succ t =>
          have := i2 t
          rw [show a + 20 + t * 20 = a + (t + 1) * 20 from by omega, show a + 20 + (t + 1) * 20 = a + (t + 1 + 1) * 20 from by omega] at this
          exact this
      · intro hs
        have e := insertionSort_same (hs.sub (Nat.le_refl _) c)
        rw [e] at i3 ⊢
        exact i3 (hs.sub (by omega) (Nat.le_refl _))
    · rw [if_neg c]
      have h := insertionSort_holds hS d a n h2 h3
      refine ⟨h.1, ?_, fun hs => insertionSort_same hs⟩
      intro t
      exact h.2.sub (by omega) (Nat.min_le_right _ _)

theorem mrgB_ok (hS : SWO lt) (n s : Nat) (hs0 : 0 < s) : ∀ (k a : Nat) (d : Array α), n - a ≤ k → n ≤ d.size → Blk lt n s a d →
    PermIn a (max a n) d (mrgB lt n s a d) ∧ Blk lt n (2 * s) a (mrgB lt n s a d) ∧ (SortedIn lt a n d → mrgB lt n s a d = d) := by
  intro k
  induction k with
  | zero =>
    intro a d h1 h3 hB
    rw [mrgB, if_neg (by omega), if_neg (by omega)]
    exact ⟨permIn_refl _ _ _, fun t i j x y z => by omega, fun _ => rfl⟩
  | succ k ih =>
    intro a d h1 h3 hB
    have b0 := hB 0
    have b1 := hB 1
    rw [Nat.zero_mul, Nat.zero_add, Nat.one_mul, Nat.add_zero] at b0
    rw [Nat.one_mul, show (1 + 1) * s = 2 * s from rfl] at b1
    rw [mrgB]
    by_cases c : 0 < s ∧ a + 2 * s ≤ n
    · rw [if_pos c]
      have h := symMerge_ok hS n a (a + s) (a + 2 * s) d (by omega) (by omega) (by omega) (by omega) (b0.sub (Nat.le_refl _) (by omega)) (b1.sub (Nat.le_refl _) (by omega))
      have hB2 : Blk lt n s (a + 2 * s) (symMerge lt n a (a + s) (a + 2 * s) d) := by
        intro t
        have := hB (t + 2)
        have e1 : a + 2 * s + t * s = a + (t + 2) * s := by rw [Nat.add_mul]; omega
        have e2 : a + 2 * s + (t + 1) * s = a + (t + 2 + 1) * s := by simp only [Nat.add_mul]; omega
        rw [e1, e2]
        refine this.congr fun i x y => h.1.1.2.1 i (.inr ?_)
        have : (t + 2) * s = t * s + 2 * s := Nat.add_mul ..
        omega
      obtain ⟨i1, i2, i3⟩ := ih (a + 2 * s) _ (by omega) (by rw [h.1.1.1]; exact h3) hB2
      have hmx : max (a + 2 * s) n = n := by omega
      rw [hmx] at i1
      have hmx2 : max a n = n := by omega
      rw [hmx2]
      refine ⟨permIn_trans _ _ _ a n (permIn_mono _ _ a (a + 2 * s) a n (Nat.le_refl _) c.2 h3 h.1.1) (permIn_mono _ _ (a + 2 * s) n a n (by omega) (Nat.le_refl _) (by rw [h.1.1.1]; exact h3) i1), ?_, ?_⟩
      · intro t
        cases t with
        | zero =>
          have h0 : SortedIn lt a (a + 2 * s) (mrgB lt n s (a + 2 * s) (symMerge lt n a (a + s) (a + 2 * s) d)) := h.1.2.congr fun i x y => i1.2.1 i (.inl y)
          rw [Nat.zero_mul, Nat.zero_add, Nat.one_mul]
          exact h0.sub (by omega) (by omega)
        | succ t =>
          have := i2 t
          have e1 : a + 2 * s + t * (2 * s) = a + (t + 1) * (2 * s) := by rw [Nat.add_mul]; omega
          have e2 : a + 2 * s + (t + 1) * (2 * s) = a + (t + 1 + 1) * (2 * s) := by simp only [Nat.add_mul]; omega
          rw [e1, e2] at this
          exact this
      · intro hs
        have e := h.2 (hs.sub (Nat.le_refl _) c.2)
        rw [e] at i3 ⊢
        exact i3 (hs.sub (by omega) (Nat.le_refl _))
    · rw [if_neg c]
      have hlt2 : n < a + 2 * s := by omega
      have hrest : ∀ (d' : Array α), SortedIn lt a n d' → Blk lt n (2 * s) a d' := by
        intro d' h t i j x y z
        cases t with
        | zero => exact h i j (by omega) y (by omega)
        | succ t =>
          have : (t + 1) * (2 * s) = t * (2 * s) + 2 * s := by rw [Nat.add_mul]; omega
          omega
      by_cases c2 : a + s < n
      · rw [if_pos c2]
        have h := symMerge_ok hS n a (a + s) n d (by omega) (by omega) c2 h3 (b0.sub (Nat.le_refl _) (by omega)) (b1.sub (Nat.le_refl _) (by omega))
        rw [show max a n = n from by omega]
        exact ⟨h.1.1, hrest _ h.1.2, h.2⟩
      · rw [if_neg c2]
        refine ⟨permIn_refl _ _ _, hrest _ ?_, fun _ => rfl⟩
        exact b0.sub (Nat.le_refl _) (by omega)

theorem passes_ok (hS : SWO lt) (n : Nat) : ∀ (k s : Nat) (d : Array α), n - s ≤ k → 0 < s → n ≤ d.size → Blk lt n s 0 d →
    PermIn 0 n d (passes lt n s d) ∧ SortedIn lt 0 n (passes lt n s d) ∧ (SortedIn lt 0 n d → passes lt n s d = d) := by
  intro k
  induction k with
  | zero =>
    intro s d h1 h2 h3 hB
    rw [passes, if_neg (by omega)]
    have b0 := hB 0
    exact ⟨permIn_refl _ _ _, b0.sub (by omega) (by omega), fun _ => rfl⟩
  | succ k ih =>
    intro s d h1 h2 h3 hB
    rw [passes]
    by_cases c : 0 < s ∧ s < n
    · rw [if_pos c]
      obtain ⟨m1, m2, m3⟩ := mrgB_ok hS n s h2 n 0 d (by omega) h3 hB
      rw [show max 0 n = n from by omega] at m1
      obtain ⟨i1, i2, i3⟩ := ih (2 * s) (mrgB lt n s 0 d) (by omega) (by omega) (by rw [m1.1]; exact h3) m2
      refine ⟨permIn_trans _ _ _ 0 n m1 i1, i2, fun hs => ?_⟩
      have e := m3 hs
      rw [e] at i3 ⊢
      exact i3 hs
    · rw [if_neg c]
      have b0 := hB 0
      exact ⟨permIn_refl _ _ _, b0.sub (by omega) (by omega), fun _ => rfl⟩

/-- ████ the stable sort, as far as it is asked for ████ -/
theorem stable_ok (hS : SWO lt) (d : Array α) : PermIn 0 d.size d (stable lt d.size d) ∧ SortedIn lt 0 d.size (stable lt d.size d) ∧ (SortedIn lt 0 d.size d → stable lt d.size d = d) := by
  obtain ⟨i1, i2, i3⟩ := insB_ok hS d.size d.size 0 d (by omega) (Nat.zero_le _) (Nat.le_refl _)
  obtain ⟨p1, p2, p3⟩ := passes_ok hS d.size d.size 20 (insB lt d.size 0 d) (by omega) (by omega) (by rw [i1.1]; exact Nat.le_refl _) i2
  refine ⟨permIn_trans _ _ _ 0 d.size i1 p1, p2, fun hs => ?_⟩
  unfold stable
  have e := i3 hs
  rw [e] at p3 ⊢
  exact p3 hs
end Go.Rk
