/-
  The maker's steps keep what a tree must be: plain lists and numbers. No condition.
-/
import Derived.Test.YtkepcgknjfmgdaaTe
set_option linter.unusedVariables false
set_option linter.unusedSimpArgs false
namespace Go.Proofs.Ar
open Go.RowKit Go.Lib Go.Sort

def chainF (fr tl : Nat → Nat) : Nat → List Nat → Nat → Prop
  | a, [], fin => fin = a
  | a, k :: ks, fin => fr k = a ∧ chainF fr tl (tl k) ks fin
theorem chainF_congr {fr tl fr' tl' : Nat → Nat} : ∀ (ks : List Nat) (a fin : Nat), (∀ k ∈ ks, fr' k = fr k ∧ tl' k = tl k) → chainF fr tl a ks fin → chainF fr' tl' a ks fin := by
  intro ks
  induction ks with
  | nil => intro a fin _ h; exact h
  | cons k ks ih =>
    intro a fin hk h
    obtain ⟨h1, h2⟩ := h
    obtain ⟨e1, e2⟩ := hk k (List.mem_cons_self ..)
    refine ⟨e1.trans h1, ?_⟩
    rw [e2]
    exact ih _ _ (fun j hj => hk j (List.mem_cons_of_mem _ hj)) h2
theorem chainF_snoc {fr tl : Nat → Nat} (k : Nat) : ∀ (ks : List Nat) (a fin : Nat), chainF fr tl a (ks ++ [k]) fin ↔ chainF fr tl a ks (fr k) ∧ fin = tl k := by
  intro ks
  induction ks with
  | nil => intro a fin; exact Iff.rfl
  | cons j ks ih =>
    intro a fin
    show (fr j = a ∧ chainF fr tl (tl j) (ks ++ [k]) fin) ↔ (fr j = a ∧ chainF fr tl (tl j) ks (fr k)) ∧ fin = tl k
    rw [ih]
    exact ⟨fun ⟨h1, h2, h3⟩ => ⟨⟨h1, h2⟩, h3⟩, fun ⟨⟨h1, h2⟩, h3⟩ => ⟨h1, h2, h3⟩⟩
theorem chain_of {ns : Array Nd} : ∀ (ks : List Nat) (a fin : Nat), chainF (fun k => ns[k]!.frm) (fun k => ns[k]!.til) a ks fin → chain ns a ks fin := by
  intro ks
  induction ks with
  | nil => intro a fin h; exact h
  | cons k ks ih => intro a fin h; exact ⟨h.1, ih _ _ h.2⟩
def cntF (f : Nat → Nd) : Nat → Nat → Nat
  | 0, _ => 0
  | i + 1, k => cntF f i k + (f i).kids.count k
def tlE (f : Nat → Nd) (op : List Nat) (tk k : Nat) : Nat := if k ∈ op then tk else (f k).til

structure Inv (f : Nat → Nd) (n : Nat) (op : List Nat) (tk : Nat) : Prop where
  none : n = 0 → op = [] ∧ tk = 0
  root : 0 < n → (f 0).tok = false ∧ (f 0).frm = 0 ∧ tlE f op tk 0 = tk
  head : op ≠ [] → 0 ∈ op
  opn : ∀ i, i < n → (f i).opn = false
  oplt : ∀ t ∈ op, t < n ∧ (f t).tok = false
  asc : op.Pairwise (· < ·)
  path : ∀ j t u, op[j]? = some t → op[j + 1]? = some u → ∃ ks, (f t).kids = ks ++ [u]
  up : ∀ i, i < n → ∀ c k, (f i).kids[c]? = some k → (if c = 0 then i else (f i).kids.getD (c - 1) 0) < k ∧ k < n
  tokn : ∀ i, i < n → (f i).tok = true → (f i).kids = [] ∧ (f i).til = (f i).frm + 1 ∧ (f i).frm < tk
  rule : ∀ i, i < n → (f i).tok = false → chainF (fun k => (f k).frm) (tlE f op tk) (f i).frm (f i).kids (tlE f op tk i)
  opens : ∀ i, i < n → ∀ (c k : Nat), (f i).kids[c]? = some k → k ∈ op → i ∈ op ∧ c + 1 = (f i).kids.length
  once : ∀ k, 1 ≤ k → k < n → cntF f n k = 1
  small : ∀ i, i < n → (f i).frm ≤ tk ∧ (f i).kids.length ≤ n

theorem shn_tok (op : List Nat) (tk k : Nat) (x : Nd) : (shn op tk k x).tok = x.tok := by unfold shn; split <;> rfl
theorem shn_frm (op : List Nat) (tk k : Nat) (x : Nd) : (shn op tk k x).frm = x.frm := by unfold shn; split <;> rfl
theorem shn_kids (op : List Nat) (tk k : Nat) (x : Nd) : (shn op tk k x).kids = x.kids := by unfold shn; split <;> rfl
theorem shn_til (op : List Nat) (tk k : Nat) (f : Nat → Nd) : (shn op tk k (f k)).til = tlE f op tk k := by unfold shn tlE; split <;> rfl
theorem shn_opn (op : List Nat) (tk k : Nat) (x : Nd) (h : x.opn = false) : (shn op tk k x).opn = decide (k ∈ op) := by unfold shn; split <;> simp_all

/-- what the invariant gives of the tree. -/
theorem Inv.good {ls : List (Nd × Value)} {op : List Nat} {tk : Nat} (h : Inv (nodeAt ls) ls.length op tk) (h0 : 0 < ls.length) (hn : ls.length < 1048576) (ht : tk < 1048576) : Good (treeOf ls op tk) := by
  have hg := fun i (hi : i < ls.length) => treeOf_get ls op tk i hi
  have hklt : ∀ i, i < ls.length → ∀ k ∈ (nodeAt ls i).kids, k < ls.length := fun i hi k hk => by
    obtain ⟨c, hc⟩ := List.getElem?_of_mem hk
    exact (h.up i hi c k hc).2
  have hcnt : ∀ m k, m ≤ ls.length → cnt (treeOf ls op tk) m k = cntF (nodeAt ls) m k := by
    intro m
    induction m with
    | zero => intro k _; rfl
    | succ m ih =>
      intro k hm
      show cnt _ m k + _ = cntF _ m k + _
      rw [ih k (by omega), hg m (by omega), shn_kids]
  refine ⟨by rw [treeOf_size]; exact h0, ?_, ?_, ?_, ?_, ?_, ?_⟩
  · rw [hg 0 h0, shn_tok, shn_frm]
    exact ⟨(h.root h0).1, (h.root h0).2.1⟩
  · intro i hi c k hk
    rw [treeOf_size] at hi
    rw [hg i hi, shn_kids] at hk ⊢
    rw [treeOf_size]
    exact h.up i hi c k hk
  · intro i hi
    rw [treeOf_size] at hi
    rw [hg i hi]
    unfold spansP
    rw [shn_tok, shn_kids, shn_frm, shn_til, shn_opn _ _ _ _ (h.opn i hi)]
    cases htk : (nodeAt ls i).tok with
    | true =>
      rw [if_pos rfl]
      have hno : i ∉ op := fun e => by have := (h.oplt i e).2; rw [htk] at this; cases this
      obtain ⟨h1, h2, _⟩ := h.tokn i hi htk
      refine ⟨h1, by simp [hno], ?_⟩
      unfold tlE
      rw [if_neg hno]
      exact h2
    | false =>
      rw [if_neg (by simp)]
      apply chain_of
      refine chainF_congr _ _ _ (fun k hk => ?_) (h.rule i hi htk)
      have hkn := hklt i hi k hk
      rw [hg k hkn, shn_frm, shn_til]
      exact ⟨rfl, rfl⟩
  · intro i hi c k hk ho
    rw [treeOf_size] at hi
    rw [hg i hi, shn_kids] at hk
    have hkn := (h.up i hi c k hk).2
    rw [hg k hkn, shn_opn _ _ _ _ (h.opn k hkn)] at ho
    rw [hg i hi, shn_kids, shn_opn _ _ _ _ (h.opn i hi)]
    obtain ⟨h1, h2⟩ := h.opens i hi c k hk (by simpa using ho)
    exact ⟨by simpa using h1, h2⟩
  · intro k h1 hk
    rw [treeOf_size] at hk ⊢
    rw [hcnt _ _ (Nat.le_refl _)]
    exact h.once k h1 hk
  · rw [treeOf_size]
    refine ⟨hn, fun i hi => ?_⟩
    rw [hg i hi, shn_frm, shn_kids]
    have := h.small i hi
    omega
theorem Inv.til0 {ls : List (Nd × Value)} {op : List Nat} {tk : Nat} (h : Inv (nodeAt ls) ls.length op tk) (h0 : 0 < ls.length) : (treeOf ls op tk)[0]!.til = tk := by
  rw [treeOf_get _ _ _ 0 h0, shn_til]
  exact (h.root h0).2.2
theorem Inv.toks {ls : List (Nd × Value)} {op : List Nat} {tk : Nat} (h : Inv (nodeAt ls) ls.length op tk) (i : Nat) (hi : i < (treeOf ls op tk).size) (ht : (treeOf ls op tk)[i]!.tok = true) : (treeOf ls op tk)[i]!.frm < tk := by
  rw [treeOf_size] at hi
  rw [treeOf_get _ _ _ i hi, shn_tok] at ht
  rw [treeOf_get _ _ _ i hi, shn_frm]
  exact (h.tokn i hi ht).2.2

theorem Inv.zero (f : Nat → Nd) : Inv f 0 [] 0 :=
  ⟨fun _ => ⟨rfl, rfl⟩, fun h => by omega, fun h => absurd rfl h, fun i h => by omega, fun t h => by simp at h, List.Pairwise.nil, fun j t u h => by simp at h, fun i h => by omega, fun i h => by omega, fun i h => by omega, fun i h => by omega, fun k _ h => by omega, fun i h => by omega⟩
theorem cntF_congr {f g : Nat → Nd} : ∀ n k, (∀ i, i < n → (g i).kids.count k = (f i).kids.count k) → cntF g n k = cntF f n k := by
  intro n
  induction n with
  | zero => intro k _; rfl
  | succ n ih =>
    intro k h
    show cntF g n k + _ = cntF f n k + _
    rw [ih k (fun i hi => h i (by omega)), h n (by omega)]
theorem cntF_one {f g : Nat → Nd} {t : Nat} (k : Nat) (d : Nat) : ∀ n, t < n → (∀ i, i < n → i ≠ t → (g i).kids.count k = (f i).kids.count k) → (g t).kids.count k = (f t).kids.count k + d → cntF g n k = cntF f n k + d := by
  intro n
  induction n with
  | zero => intro h; omega
  | succ n ih =>
    intro ht h hd
    show cntF g n k + _ = cntF f n k + _ + d
    by_cases hn : t = n
    · subst hn
      rw [cntF_congr t k (fun i hi => h i (by omega) (by omega)), hd]
      omega
    · rw [ih (by omega) (fun i hi hit => h i (by omega) hit) hd, h n (by omega) (fun e => hn e.symm)]
      omega
theorem cntF_none {f : Nat → Nd} (k : Nat) : ∀ n, (∀ i, i < n → k ∉ (f i).kids) → cntF f n k = 0 := by
  intro n
  induction n with
  | zero => intro _; rfl
  | succ n ih =>
    intro h
    show cntF f n k + _ = 0
    rw [ih (fun i hi => h i (by omega)), List.count_eq_zero.2 (h n (by omega))]
theorem Inv.top {f : Nat → Nd} {n t tk : Nat} {op' : List Nat} (h : Inv f n (op' ++ [t]) tk) : ∀ k ∈ op', k < t := fun k hk => (List.pairwise_append.1 h.asc).2.2 k hk t (List.mem_singleton.2 rfl)
theorem Inv.kidUp {f : Nat → Nd} {n tk : Nat} {op : List Nat} (h : Inv f n op tk) {i : Nat} (hi : i < n) : ∀ (c k : Nat), (f i).kids[c]? = some k → i < k := by
  intro c
  induction c with
  | zero => intro k hk; have := (h.up i hi 0 k hk).1; simpa using this
  | succ c ih =>
    intro k hk
    have h1 := (h.up i hi (c + 1) k hk).1
    rw [if_neg (by omega)] at h1
    have hc : c < (f i).kids.length := by have := (List.getElem?_eq_some_iff.1 hk).1; omega
    have := ih _ (List.getElem?_eq_getElem hc)
    simp only [Nat.add_sub_cancel] at h1
    rw [List.getD_eq_getElem?_getD, List.getElem?_eq_getElem hc] at h1
    simp at h1
    omega
theorem Inv.kidLt {f : Nat → Nd} {n tk : Nat} {op : List Nat} (h : Inv f n op tk) {i : Nat} (hi : i < n) {k : Nat} (hk : k ∈ (f i).kids) : i < k ∧ k < n := by
  obtain ⟨c, hc⟩ := List.getElem?_of_mem hk
  exact ⟨h.kidUp hi c k hc, (h.up i hi c k hc).2⟩
/-- the one that is open is shut. -/
theorem Inv.shut {f g : Nat → Nd} {n t tk : Nat} {op' : List Nat} (h : Inv f n (op' ++ [t]) tk) (hgt : g t = { f t with til := tk }) (hg : ∀ i, i < n → i ≠ t → g i = f i) : Inv g n op' tk := by
  have htop := h.top
  have htm : t ∈ op' ++ [t] := by simp
  have htn := (h.oplt t htm).1
  have htt := (h.oplt t htm).2
  have hmem : ∀ k, k ≠ t → (k ∈ op' ++ [t] ↔ k ∈ op') := fun k hk => by simp [hk]
  have hnt : t ∉ op' := fun e => Nat.lt_irrefl _ (htop t e)
  have etok : ∀ i, i < n → (g i).tok = (f i).tok := fun i hi => if e : i = t then by rw [e, hgt] else by rw [hg i hi e]
  have efrm : ∀ i, i < n → (g i).frm = (f i).frm := fun i hi => if e : i = t then by rw [e, hgt] else by rw [hg i hi e]
  have ekid : ∀ i, i < n → (g i).kids = (f i).kids := fun i hi => if e : i = t then by rw [e, hgt] else by rw [hg i hi e]
  have eopn : ∀ i, i < n → (g i).opn = (f i).opn := fun i hi => if e : i = t then by rw [e, hgt] else by rw [hg i hi e]
  have etl : ∀ i, i < n → tlE g op' tk i = tlE f (op' ++ [t]) tk i := fun i hi => by
    unfold tlE
    by_cases e : i = t
    · subst e; rw [if_neg hnt, if_pos htm, hgt]
    · by_cases hm : i ∈ op'
      · rw [if_pos hm, if_pos ((hmem i e).2 hm)]
      · rw [if_neg hm, if_neg (fun x => hm ((hmem i e).1 x)), hg i hi e]
  refine ⟨fun e => by omega, fun h0 => ?_, fun ho => ?_, fun i hi => ?_, fun k hk => ?_, (List.pairwise_append.1 h.asc).1, ?_, ?_, ?_, ?_, ?_, ?_, ?_⟩
  · rw [etok 0 h0, efrm 0 h0, etl 0 h0]; exact h.root h0
  · have h0 := h.head (by simp)
    by_cases e : (0 : Nat) = t
    · obtain ⟨k, hk⟩ := List.exists_mem_of_ne_nil _ ho
      have := htop k hk
      omega
    · exact (hmem 0 e).1 h0
  · rw [eopn i hi]; exact h.opn i hi
  · have := h.oplt k (by simp [hk])
    rw [etok k this.1]; exact this
  · intro j a u ha hu
    have h1 : (op' ++ [t])[j]? = some a := by rw [List.getElem?_append_left (List.getElem?_eq_some_iff.1 ha).1]; exact ha
    have h2 : (op' ++ [t])[j + 1]? = some u := by rw [List.getElem?_append_left (List.getElem?_eq_some_iff.1 hu).1]; exact hu
    have han := (h.oplt a (List.mem_of_getElem? h1)).1
    rw [ekid a han]
    exact h.path j a u h1 h2
  · intro i hi c k hk
    rw [ekid i hi] at hk ⊢
    exact h.up i hi c k hk
  · intro i hi ht
    rw [etok i hi] at ht
    have hne : i ≠ t := fun e => by rw [e, htt] at ht; cases ht
    rw [hg i hi hne]
    exact h.tokn i hi ht
  · intro i hi ht
    rw [etok i hi] at ht
    rw [ekid i hi, efrm i hi, etl i hi]
    exact chainF_congr _ _ _ (fun k hk => by have := (h.kidLt hi hk).2; exact ⟨efrm k this, etl k this⟩) (h.rule i hi ht)
  · intro i hi c k hk hko
    rw [ekid i hi] at hk ⊢
    obtain ⟨h1, h2⟩ := h.opens i hi c k hk (by simp [hko])
    refine ⟨(hmem i fun e => ?_).1 h1, h2⟩
    have h3 := h.kidUp hi c k hk
    have := htop k hko
    omega
  · intro k h1 hk
    rw [cntF_congr (f := f) (g := g) n k (fun i hi => by rw [ekid i hi])]
    exact h.once k h1 hk
  · intro i hi
    rw [efrm i hi, ekid i hi]
    exact h.small i hi
/-- a node is put within the one that is open. -/
theorem Inv.add {f g : Nat → Nd} {n t tk tk2 : Nat} {op' op2 : List Nat} (h : Inv f n (op' ++ [t]) tk) (hgt : g t = { f t with kids := (f t).kids ++ [n] }) (hg : ∀ i, i < n → i ≠ t → g i = f i)
    (hxk : (g n).kids = []) (hxo : (g n).opn = false) (hxf : (g n).frm = tk) (ho2 : op2 = op' ++ [t] ∧ (g n).tok = true ∧ (g n).til = tk + 1 ∧ tk2 = tk + 1 ∨ op2 = op' ++ [t] ++ [n] ∧ (g n).tok = false ∧ tk2 = tk) : Inv g (n + 1) op2 tk2 := by
  have htop := h.top
  have htm : t ∈ op' ++ [t] := by simp
  have htn := (h.oplt t htm).1
  have htt := (h.oplt t htm).2
  have hnt : t ∉ op' := fun e => Nat.lt_irrefl _ (htop t e)
  have hnop : n ∉ op' ++ [t] := fun e => Nat.lt_irrefl _ (h.oplt n e).1
  have hmem : ∀ k, k < n → (k ∈ op2 ↔ k ∈ op' ++ [t]) := fun k hk => by
    rcases ho2 with ⟨e, _⟩ | ⟨e, _⟩
    · rw [e]
    · rw [e]; simp [show k ≠ n by omega]
  have htk : tk ≤ tk2 := by rcases ho2 with ⟨_, _, _, e⟩ | ⟨_, _, e⟩ <;> omega
  have htln : tlE g op2 tk2 n = tk2 := by
    unfold tlE
    rcases ho2 with ⟨e, _, e2, e3⟩ | ⟨e, _, e3⟩
    · rw [if_neg (by rw [e]; exact hnop), e2, e3]
    · rw [if_pos (by rw [e]; simp)]
  have etok : ∀ i, i < n → (g i).tok = (f i).tok := fun i hi => if e : i = t then by rw [e, hgt] else by rw [hg i hi e]
  have efrm : ∀ i, i < n → (g i).frm = (f i).frm := fun i hi => if e : i = t then by rw [e, hgt] else by rw [hg i hi e]
  have etil : ∀ i, i < n → (g i).til = (f i).til := fun i hi => if e : i = t then by rw [e, hgt] else by rw [hg i hi e]
  have eopn : ∀ i, i < n → (g i).opn = (f i).opn := fun i hi => if e : i = t then by rw [e, hgt] else by rw [hg i hi e]
  have eclo : ∀ i, i < n → i ∉ op' ++ [t] → tlE g op2 tk2 i = tlE f (op' ++ [t]) tk i := fun i hi hno => by
    unfold tlE
    rw [if_neg hno, if_neg (fun e => hno ((hmem i hi).1 e)), etil i hi]
  have eopen : ∀ i, i < n → i ∈ op' ++ [t] → tlE g op2 tk2 i = tk2 := fun i hi hm => by
    unfold tlE
    rw [if_pos ((hmem i hi).2 hm)]
  have hkt : ∀ k ∈ (f t).kids, k ∉ op' ++ [t] := fun k hk e => by
    have := (h.kidLt htn hk).1
    rcases List.mem_append.1 e with e | e
    · have := htop k e; omega
    · rw [List.mem_singleton] at e; omega
  refine ⟨fun e => by omega, fun _ => ?_, fun _ => ?_, fun i hi => ?_, fun k hk => ?_, ?_, ?_, ?_, ?_, ?_, ?_, ?_, ?_⟩
  · have h0 : 0 < n := by omega
    refine ⟨by rw [etok 0 h0]; exact (h.root h0).1, by rw [efrm 0 h0]; exact (h.root h0).2.1, eopen 0 h0 (h.head (by simp))⟩
  · exact (hmem 0 (by omega)).2 (h.head (by simp))
  · by_cases e : i = n
    · rw [e]; exact hxo
    · rw [eopn i (by omega)]; exact h.opn i (by omega)
  · by_cases e : k = n
    · subst e
      rcases ho2 with ⟨e, _⟩ | ⟨_, e, _⟩
      · rw [e] at hk; exact absurd hk hnop
      · exact ⟨by omega, e⟩
    · have hk2 : k ∈ op' ++ [t] := by
        rcases ho2 with ⟨e2, _⟩ | ⟨e2, _⟩
        · rw [e2] at hk; exact hk
        · rw [e2] at hk
          rcases List.mem_append.1 hk with hk | hk
          · exact hk
          · exact absurd (List.mem_singleton.1 hk) e
      have := h.oplt k hk2
      exact ⟨by omega, by rw [etok k this.1]; exact this.2⟩
  · rcases ho2 with ⟨e, _⟩ | ⟨e, _⟩
    · rw [e]; exact h.asc
    · rw [e, List.pairwise_append]
      refine ⟨h.asc, List.pairwise_singleton _ _, fun a ha b hb => ?_⟩
      rw [List.mem_singleton] at hb
      have := (h.oplt a ha).1
      omega
  · intro j a u ha hu
    have key : ∀ a u, (op' ++ [t])[j]? = some a → (op' ++ [t])[j + 1]? = some u → ∃ ks, (g a).kids = ks ++ [u] := fun a u h1 h2 => by
      have han := (h.oplt a (List.mem_of_getElem? h1)).1
      have hat : a ≠ t := fun e => by
        have hj := (List.getElem?_eq_some_iff.1 h2).1
        simp at hj
        rw [List.getElem?_append_left (by omega)] at h1
        rw [e] at h1
        exact hnt (List.mem_of_getElem? h1)
      rw [hg a han hat]
      exact h.path j a u h1 h2
    rcases ho2 with ⟨e, _⟩ | ⟨e, _⟩
    · rw [e] at ha hu; exact key a u ha hu
    · rw [e] at ha hu
      by_cases hj : j + 1 < (op' ++ [t]).length
      · rw [List.getElem?_append_left (by omega)] at ha
        rw [List.getElem?_append_left hj] at hu
        exact key a u ha hu
      · have hj2 := (List.getElem?_eq_some_iff.1 hu).1
        rw [List.length_append, List.length_singleton] at hj2
        have hj3 : j + 1 = (op' ++ [t]).length := by omega
        rw [hj3, List.getElem?_append_right (Nat.le_refl _)] at hu
        simp at hu
        have hj4 : j = op'.length := by simp at hj3; exact hj3
        rw [List.getElem?_append_left (by omega), hj4, List.getElem?_append_right (Nat.le_refl _)] at ha
        simp at ha
        subst ha hu
        rw [hgt]
        exact ⟨_, rfl⟩
  · intro i hi c k hk
    by_cases e : i = n
    · subst e; rw [hxk] at hk; simp at hk
    · by_cases e2 : i = t
      · subst e2
        rw [hgt] at hk ⊢
        simp only at hk ⊢
        by_cases hc : c < (f i).kids.length
        · rw [List.getElem?_append_left hc] at hk
          have := h.up i htn c k hk
          refine ⟨?_, by omega⟩
          by_cases c0 : c = 0
          · rw [if_pos c0] at this ⊢; exact this.1
          · rw [if_neg c0] at this ⊢
            rw [List.getD_eq_getElem?_getD] at this ⊢
            rw [List.getElem?_append_left (by omega)]
            exact this.1
        · have hc2 := (List.getElem?_eq_some_iff.1 hk).1
          rw [List.length_append, List.length_singleton] at hc2
          have hc3 : c = (f i).kids.length := by omega
          rw [hc3, List.getElem?_append_right (Nat.le_refl _)] at hk
          simp at hk
          subst hk
          refine ⟨?_, by omega⟩
          by_cases c0 : c = 0
          · rw [if_pos c0]; exact htn
          · rw [if_neg c0, List.getD_eq_getElem?_getD, List.getElem?_append_left (by omega), List.getElem?_eq_getElem (by omega)]
            exact (h.kidLt htn (List.getElem_mem _)).2
      · rw [hg i (by omega) e2] at hk ⊢
        have := h.up i (by omega) c k hk
        exact ⟨this.1, by omega⟩
  · intro i hi ht
    by_cases e : i = n
    · subst e
      rcases ho2 with ⟨_, _, e2, e3⟩ | ⟨_, e2, _⟩
      · exact ⟨hxk, by omega, by omega⟩
      · rw [ht] at e2; cases e2
    · rw [etok i (by omega)] at ht
      have hne : i ≠ t := fun e => by rw [e, htt] at ht; cases ht
      rw [hg i (by omega) hne]
      have := h.tokn i (by omega) ht
      exact ⟨this.1, this.2.1, by omega⟩
  · intro i hi ht
    by_cases e : i = n
    · subst e
      rw [hxk, htln, hxf]
      rcases ho2 with ⟨_, e2, _⟩ | ⟨_, _, e3⟩
      · rw [ht] at e2; cases e2
      · exact e3
    · have hin : i < n := by omega
      rw [etok i hin] at ht
      have hr := h.rule i hin ht
      by_cases e2 : i = t
      · subst e2
        rw [efrm i hin, hgt, eopen i hin htm]
        rw [show tlE f (op' ++ [i]) tk i = tk by unfold tlE; rw [if_pos htm]] at hr
        refine (chainF_snoc _ _ _ _).2 ⟨?_, htln.symm⟩
        rw [hxf]
        exact chainF_congr _ _ _ (fun k hk => by have := (h.kidLt hin hk).2; exact ⟨efrm k this, eclo k this (hkt k hk)⟩) hr
      · rw [hg i hin e2]
        by_cases hio : i ∈ op' ++ [t]
        · obtain ⟨j, hj⟩ := List.getElem?_of_mem hio
          have hjl := (List.getElem?_eq_some_iff.1 hj).1
          have hj1 : j + 1 < (op' ++ [t]).length := by
            rw [List.length_append, List.length_singleton] at hjl ⊢
            by_cases hje : j = op'.length
            · rw [hje, List.getElem?_append_right (Nat.le_refl _)] at hj
              simp at hj
              exact absurd hj.symm e2
            · omega
          obtain ⟨ks, hks⟩ := h.path j i _ hj (List.getElem?_eq_getElem hj1)
          obtain ⟨u, hu⟩ : ∃ u, u = (op' ++ [t])[j + 1] := ⟨_, rfl⟩
          have huo : u ∈ op' ++ [t] := by rw [hu]; exact List.getElem_mem _
          rw [← hu] at hks
          have hun := (h.oplt u huo).1
          rw [eopen i hin hio]
          rw [hks] at hr ⊢
          obtain ⟨h1, _⟩ := (chainF_snoc _ _ _ _).1 hr
          refine (chainF_snoc _ _ _ _).2 ⟨?_, (eopen u hun huo).symm⟩
          rw [efrm u hun]
          refine chainF_congr _ _ _ (fun k hk => ?_) h1
          have hkm : k ∈ (f i).kids := by rw [hks]; simp [hk]
          have hkn := (h.kidLt hin hkm).2
          refine ⟨efrm k hkn, eclo k hkn fun hko => ?_⟩
          obtain ⟨c, hc⟩ := List.getElem?_of_mem hk
          have hcl := (List.getElem?_eq_some_iff.1 hc).1
          have := (h.opens i hin c k (by rw [hks, List.getElem?_append_left hcl]; exact hc) hko).2
          rw [hks, List.length_append, List.length_singleton] at this
          omega
        · rw [eclo i hin hio]
          refine chainF_congr _ _ _ (fun k hk => ?_) hr
          have hkn := (h.kidLt hin hk).2
          refine ⟨efrm k hkn, eclo k hkn fun hko => ?_⟩
          obtain ⟨c, hc⟩ := List.getElem?_of_mem hk
          exact hio (h.opens i hin c k hc hko).1
  · intro i hi c k hk hko
    by_cases e : i = n
    · subst e; rw [hxk] at hk; simp at hk
    · have hin : i < n := by omega
      by_cases e2 : i = t
      · subst e2
        rw [hgt] at hk ⊢
        simp only at hk ⊢
        refine ⟨(hmem i hin).2 htm, ?_⟩
        rw [List.length_append, List.length_singleton]
        by_cases hc : c < (f i).kids.length
        · rw [List.getElem?_append_left hc] at hk
          have hkm := List.mem_of_getElem? hk
          exact absurd ((hmem k (h.kidLt hin hkm).2).1 hko) (hkt k hkm)
        · have := (List.getElem?_eq_some_iff.1 hk).1
          rw [List.length_append, List.length_singleton] at this
          omega
      · rw [hg i hin e2] at hk ⊢
        have hkn := (h.up i hin c k hk).2
        have := h.opens i hin c k hk ((hmem k hkn).1 hko)
        exact ⟨(hmem i hin).2 this.1, this.2⟩
  · intro k h1 hk
    show cntF g n k + (g n).kids.count k = 1
    rw [hxk]
    by_cases e : k = n
    · subst e
      rw [cntF_one (f := f) (g := g) k 1 k htn (fun i hi hit => by rw [hg i hi hit]) (by rw [hgt]; simp), cntF_none (f := f) k k (fun i hi hm => by have := (h.kidLt hi hm).2; omega)]
      rfl
    · rw [cntF_one (f := f) (g := g) k 0 n htn (fun i hi hit => by rw [hg i hi hit]) (by rw [hgt]; simp [List.count_singleton]; omega), h.once k h1 (by omega)]
      rfl
  · intro i hi
    by_cases e : i = n
    · subst e; rw [hxf, hxk]; exact ⟨htk, by simp⟩
    · have hin : i < n := by omega
      have := h.small i hin
      rw [efrm i hin]
      refine ⟨by omega, ?_⟩
      by_cases e2 : i = t
      · subst e2; rw [hgt]; simp; omega
      · rw [hg i hin e2]; omega
theorem Inv.first {g : Nat → Nd} (ht : (g 0).tok = false) (hf : (g 0).frm = 0) (hk : (g 0).kids = []) (ho : (g 0).opn = false) : Inv g 1 [0] 0 := by
  have z : ∀ i, i < 1 → i = 0 := fun i hi => by omega
  refine ⟨fun e => by omega, fun _ => ⟨ht, hf, rfl⟩, fun _ => by simp, fun i hi => by rw [z i hi]; exact ho, fun k hk => ?_, by simp, fun j a u h1 h2 => by simp at h2, fun i hi c k hc => ?_, fun i hi h => ?_, fun i hi h => ?_, fun i hi c k hc => ?_, fun k h1 h2 => by omega, fun i hi => ?_⟩
  · rw [List.mem_singleton] at hk; subst hk; exact ⟨by omega, ht⟩
  · rw [z i hi, hk] at hc; simp at hc
  · rw [z i hi, ht] at h; cases h
  · rw [z i hi, hk, hf]; rfl
  · rw [z i hi, hk] at hc; simp at hc
  · rw [z i hi, hk, hf]; simp
/-- how many below a bound are open. -/
def opensTo (op : List Nat) (k : Nat) : Nat := op.countP (fun j => decide (j < k))
theorem opensTo_step (op : List Nat) (h : op.Pairwise (· < ·)) (k : Nat) : opensTo op (k + 1) = opensTo op k + if k ∈ op then 1 else 0 := by
  unfold opensTo
  induction op with
  | nil => rfl
  | cons a op ih =>
    have h2 := List.pairwise_cons.1 h
    rw [List.countP_cons, List.countP_cons, ih h2.2]
    by_cases e : k = a
    · subst e
      have hk : k ∉ op := fun e => Nat.lt_irrefl _ (h2.1 k e)
      simp [hk]
    · by_cases e2 : k ∈ op
      · simp only [List.mem_cons, e, e2, or_true, if_true]
        by_cases e3 : a < k
        · simp [e3, show a < k + 1 by omega]
        · simp [e3, show ¬ a < k + 1 by omega]
      · simp only [List.mem_cons, e, e2, or_false, if_false]
        by_cases e3 : a < k
        · simp [e3, show a < k + 1 by omega]
        · simp [e3, show ¬ a < k + 1 by omega]
theorem opensTo_all (op : List Nat) (n : Nat) (h : ∀ t ∈ op, t < n) : opensTo op n = op.length := by
  unfold opensTo
  rw [List.countP_eq_length]
  intro a ha
  simpa using h a ha
end Go.Proofs.Ar
