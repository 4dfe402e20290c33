/-
  Steps that close of themselves; gotos. No condition.
-/
import Derived.Test.YtnhfokplkmlibaaGreatDoorW8
set_option linter.unusedVariables false
set_option linter.unusedSimpArgs false
namespace Go.Ae
variable {S : List Nat}
theorem cdW_cases {p : Prop} [Decidable p] {A B : Prop} (h1 : p → A) (h2 : ¬ p → B) : cdW (some (decide p)) A B := by
  by_cases h : p
  · rw [decide_eq_true h]; exact h1 h
  · rw [decide_eq_false h]; exact h2 h
theorem cdW_casesN {p : Prop} [Decidable p] {A B : Prop} (h1 : ¬ p → A) (h2 : p → B) : cdW (some (!decide p)) A B := by
  by_cases h : p
  · rw [decide_eq_true h]; exact h2 h
  · rw [decide_eq_false h]; exact h1 h
theorem cdW_b {b : Bool} {A B : Prop} (h1 : b = true → A) (h2 : b = false → B) : cdW (some b) A B := by
  cases b with
  | true => exact h1 rfl
  | false => exact h2 rfl
/-- bits of numbers. -/
def bAnd (k : IntKind) (a b : Int) : Int := k.wrap (BitVec.toNat (BitVec.ofInt k.bits a &&& BitVec.ofInt k.bits b))
def bOr (k : IntKind) (a b : Int) : Int := k.wrap (BitVec.toNat (BitVec.ofInt k.bits a ||| BitVec.ofInt k.bits b))
def bAndNot (k : IntKind) (a b : Int) : Int := k.wrap (BitVec.toNat (BitVec.ofInt k.bits a &&& ~~~BitVec.ofInt k.bits b))
def bShl (k : IntKind) (a b : Int) : Int := k.wrap (a * 2 ^ min b.toNat k.bits)
def bShr (k : IntKind) (a b : Int) : Int := a.fdiv (2 ^ min b.toNat k.bits)
section bits
variable {P : Program} {t : TypeId} {ox oy : Operand} {a b : Int} {k : IntKind}
theorem abin_and' : abin P .and t ox oy (.int k a) (.int k b) = some (.int k (bAnd k a b)) := abin_cmp rfl rfl
theorem abin_or' : abin P .or t ox oy (.int k a) (.int k b) = some (.int k (bOr k a b)) := abin_cmp rfl rfl
theorem abin_andNot' : abin P .andNot t ox oy (.int k a) (.int k b) = some (.int k (bAndNot k a b)) := abin_cmp rfl rfl
theorem abin_shlC (h : 0 ≤ b) : abin P .shl t ox oy (.int k a) (.int .u64 b) = some (.int k (bShl k a b)) := by
  show pureSem (Op.shift .shl k a .u64 b) = _
  unfold Op.shift
  rw [if_neg (by omega)]; rfl
theorem abin_shrC (h : 0 ≤ b) : abin P .shr t ox oy (.int k a) (.int .u64 b) = some (.int k (bShr k a b)) := by
  show pureSem (Op.shift .shr k a .u64 b) = _
  unfold Op.shift
  rw [if_neg (by omega)]; rfl
theorem abin_shl_4 : abin P .shl t ox oy (.int k a) (.int .u64 4) = some (.int k (bShl k a 4)) := abin_shlC (by decide)
theorem abin_shl_6 : abin P .shl t ox oy (.int k a) (.int .u64 6) = some (.int k (bShl k a 6)) := abin_shlC (by decide)
theorem abin_shl_12 : abin P .shl t ox oy (.int k a) (.int .u64 12) = some (.int k (bShl k a 12)) := abin_shlC (by decide)
theorem abin_shl_18 : abin P .shl t ox oy (.int k a) (.int .u64 18) = some (.int k (bShl k a 18)) := abin_shlC (by decide)
theorem abin_shl_31 : abin P .shl t ox oy (.int k a) (.int .u64 31) = some (.int k (bShl k a 31)) := abin_shlC (by decide)
theorem abin_shr_4 : abin P .shr t ox oy (.int k a) (.int .u64 4) = some (.int k (bShr k a 4)) := abin_shrC (by decide)
theorem abin_shr_6 : abin P .shr t ox oy (.int k a) (.int .u64 6) = some (.int k (bShr k a 6)) := abin_shrC (by decide)
theorem abin_shr_12 : abin P .shr t ox oy (.int k a) (.int .u64 12) = some (.int k (bShr k a 12)) := abin_shrC (by decide)
theorem abin_shr_18 : abin P .shr t ox oy (.int k a) (.int .u64 18) = some (.int k (bShr k a 18)) := abin_shrC (by decide)
theorem abin_shr_31 : abin P .shr t ox oy (.int k a) (.int .u64 31) = some (.int k (bShr k a 31)) := abin_shrC (by decide)
end bits
theorem idR_ok {n k es r o : Nat} {kk : IntKind} (h : k < n) : idR n es (.pointer (some ⟨r, o, none⟩)) (.int kk (k : Int)) = some (.pointer (some ⟨r, o + k * es, none⟩)) := by
  show gd (Nat.ble (Nat.succ k) n) (some (Value.pointer (some ⟨r, Nat.add o (Nat.mul k es), none⟩))) = _
  rw [Nat.ble_eq_true_of_le h]; rfl
section ar
variable {P : Program} {t : TypeId} {ox oy : Operand} {a b : Int}
theorem abin_add_u8 : abin P .add t ox oy (.int .u8 a) (.int .u8 b) = some (.int .u8 (wrapA .u8 (a + b))) := abin_cmp rfl rfl
theorem abin_add_i32 : abin P .add t ox oy (.int .i32 a) (.int .i32 b) = some (.int .i32 (wrapA .i32 (a + b))) := abin_cmp rfl rfl
theorem abin_sub_u8 : abin P .sub t ox oy (.int .u8 a) (.int .u8 b) = some (.int .u8 (wrapA .u8 (a - b))) := abin_cmp rfl rfl
theorem abin_sub_i32 : abin P .sub t ox oy (.int .i32 a) (.int .i32 b) = some (.int .i32 (wrapA .i32 (a - b))) := abin_cmp rfl rfl
theorem abin_mul_u8 : abin P .mul t ox oy (.int .u8 a) (.int .u8 b) = some (.int .u8 (wrapA .u8 (a * b))) := abin_cmp rfl rfl
theorem abin_mul_i32 : abin P .mul t ox oy (.int .i32 a) (.int .i32 b) = some (.int .i32 (wrapA .i32 (a * b))) := abin_cmp rfl rfl
end ar
theorem lk_hit {t : Nat} {v : Value} {l : List (Nat × Value)} : lkR ((t, v) :: l) t = v := by
  show Go.Ae.look ((t, v) :: l) t = v
  rw [look_cons, if_pos rfl]
theorem lk_miss {d t : Nat} {v : Value} {l : List (Nat × Value)} (h : (d == t) = false) : lkR ((d, v) :: l) t = lkR l t := by
  show Go.Ae.look ((d, v) :: l) t = Go.Ae.look l t
  rw [look_cons, if_neg (by simpa using h)]
section quiet
variable {H0 H : AHeap} {L : List Blk} {K : Value → AHeap → Prop}
theorem SH.ldQ (hS : SH S H0 H L) (i : Nat) {r o : Nat} {ty : TypeId} {cs : List Value} {v : Value} (hi : L[i]? = some (r, ty, cs)) (hv : cs[o]? = some v) (k : K v (Go.Ae.hN H)) : ME (ldW none (.pointer (some ⟨r, o, none⟩)) (Go.Ae.hN H)) K :=
  ME.ld (H := Go.Ae.hN H) ((hS.get i hi).cell hv) k
theorem SH.ldNQ (hS : SH S H0 H L) (i : Nat) {r o n : Nat} {ty : TypeId} {cs : List Value} (hi : L[i]? = some (r, ty, cs)) (hn : o + n ≤ cs.length) (k : K (.agg ⟨(cs.drop o).take n⟩) (Go.Ae.hN H)) : ME (ldW (some n) (.pointer (some ⟨r, o, none⟩)) (Go.Ae.hN H)) K :=
  ME.ldN (H := Go.Ae.hN H) ((hS.get i hi).read hn) k
theorem SH.ldOQ (hS : SH [] H0 H L) {r o : Nat} {v : Value} (h : H0.cell r o = some v) (hr : r < H0.next) (k : K v (Go.Ae.hN H)) : ME (ldW none (.pointer (some ⟨r, o, none⟩)) (Go.Ae.hN H)) K :=
  ME.ld (H := Go.Ae.hN H) ((hS.old hr).trans h) k
theorem SH.ldNOQ (hS : SH [] H0 H L) {r o n : Nat} {vs : List Value} (h : H0.read r o n = some vs) (hr : r < H0.next) (k : K (.agg ⟨vs⟩) (Go.Ae.hN H)) : ME (ldW (some n) (.pointer (some ⟨r, o, none⟩)) (Go.Ae.hN H)) K :=
  ME.ldN (H := Go.Ae.hN H) ((read_of_obj (hS.ext.obj r hr (by simp)) o n).trans h) k
end quiet
section mem
variable {P : Program} {X : Xt}
/-- what is asked of a piece of a scope: gotos within go on. -/
noncomputable def gtW (a : Code) (R : Nat → Nat → St → Prop) (n : Nat) (K : Out → Prop) : Out → Prop := fun o =>
  @Out.rec (fun _ => Prop) False (fun s => K (.norm s)) (fun i s => K (.exit i s)) (fun l s => @Option.rec Code (fun _ => Prop) (K (.goto l s)) (fun _ => ∃ m, m < n ∧ R m l s) (findLabel a l)) (fun s => K (.ret s)) o
theorem gtW_norm {a : Code} {R : Nat → Nat → St → Prop} {n : Nat} {K : Out → Prop} {s : St} : gtW a R n K (.norm s) = K (.norm s) := rfl
theorem gtW_exit {a : Code} {R : Nat → Nat → St → Prop} {n : Nat} {K : Out → Prop} {s : St} {i : Nat} : gtW a R n K (.exit i s) = K (.exit i s) := rfl
theorem gtW_ret {a : Code} {R : Nat → Nat → St → Prop} {n : Nat} {K : Out → Prop} {s : St} : gtW a R n K (.ret s) = K (.ret s) := rfl
theorem gtW_goto {a rest : Code} {R : Nat → Nat → St → Prop} {n l : Nat} {K : Out → Prop} {s : St} (h : findLabel a l = some rest) : gtW a R n K (.goto l s) = ∃ m, m < n ∧ R m l s := by
  show (@Option.rec Code (fun _ => Prop) _ _ (findLabel a l)) = _
  rw [h]
theorem Ev.scope_of {a : Code} {s : St} {o : Out} (h : ∃ k, exN P X k (.scope a) s = o) (hne : o ≠ .fail) : Ev P X (.scope a) s o := ⟨hne, h⟩
/-- where a piece of a scope ends, the scope goes on. -/
def ScP (P : Program) (X : Xt) (a : Code) (o : Out) (K : Out → Prop) : Prop := ∃ k o1 o2, scopeO (lv P X k).cx k a o = o1 ∧ o1 ≠ .fail ∧ OEq o1 o2 ∧ K o2
theorem scope_go {a : Code} {K : Out → Prop} {R : Nat → Nat → St → Prop} (h : ∀ n l s rest, R n l s → findLabel a l = some rest → EvP P X rest s (gtW a R n K)) :
    ∀ n o o', OEq o o' → o ≠ .fail → gtW a R n K o' → ScP P X a o K := by
  intro n
  induction n using Nat.strongRecOn with
  | _ n ih =>
    intro o o' he hne hg
    cases he with
    | fail => exact absurd rfl hne
    | norm he => exact ⟨1, .norm _, _, rfl, (fun h => nomatch h), .norm he, hg⟩
    | exit i he => exact ⟨1, .exit i _, _, rfl, (fun h => nomatch h), .exit i he, hg⟩
    | ret he => exact ⟨1, .ret _, _, rfl, (fun h => nomatch h), .ret he, hg⟩
    | goto l he =>
      rename_i s s'
      cases hf : findLabel a l with
      | none =>
        have hg' : K (.goto l s') := by
          have : (@Option.rec Code (fun _ => Prop) (K (.goto l s')) (fun _ => ∃ m, m < n ∧ R m l s') (findLabel a l)) := hg
          rw [hf] at this; exact this
        refine ⟨1, .goto l s, _, ?_, by simp, .goto l he, hg'⟩
        show (@Option.rec Code (fun _ => Out) (.goto l s) _ (findLabel a l)) = _
        rw [hf]
      | some rest =>
        rw [gtW_goto hf] at hg
        obtain ⟨m, hm, hR⟩ := hg
        obtain ⟨o1, o1', h1, h2, h3⟩ := EvP.alike he (h m l s' rest hR hf)
        obtain ⟨n1, k1, h1⟩ := h1
        obtain ⟨k2, o3, o4, h4, h5, h6, h7⟩ := ih m hm o1 o1' h2 n1 h3
        refine ⟨max k1 k2 + 1, o3, o4, ?_, h5, h6, h7⟩
        show (@Option.rec Code (fun _ => Out) (.goto l s) (fun rest => scopeO (lv P X (max k1 k2 + 1)).cx (max k1 k2) a ((lv P X (max k1 k2 + 1)).cx rest s)) (findLabel a l)) = o3
        rw [hf]
        show scopeO (lv P X (max k1 k2 + 1)).cx (max k1 k2) a (exN P X (max k1 k2) rest s) = o3
        rw [exN_le h1 n1 (Nat.le_max_left _ _), ← h4]
        have hx : CxLe (lv P X k2).cx (lv P X (max k1 k2 + 1)).cx := (lv_mono k2 _ (by omega)).2
        refine scopeO_mono hx a k2 _ (Nat.le_max_right _ _) o1 ?_
        rw [h4]; exact h5
theorem EvP.scope {a : Code} {K : Out → Prop} {s : St} (R : Nat → Nat → St → Prop) (h : ∀ n l s rest, R n l s → findLabel a l = some rest → EvP P X rest s (gtW a R n K)) (n : Nat) (h0 : EvP P X a s (gtW a R n K)) : EvP P X (.scope a) s K := by
  obtain ⟨o, o', h1, h2, h3⟩ := h0
  obtain ⟨n1, k1, h1⟩ := h1
  obtain ⟨k2, o3, o4, h4, h5, h6, h7⟩ := scope_go h n o o' h2 n1 h3
  refine ⟨o3, o4, ⟨h5, max k1 k2, ?_⟩, h6, h7⟩
  show scopeO (lv P X (max k1 k2)).cx (max k1 k2) a (exN P X (max k1 k2) a s) = o3
  rw [exN_le h1 n1 (Nat.le_max_left _ _), ← h4]
  refine scopeO_mono (lv_mono k2 _ (Nat.le_max_right _ _)).2 a k2 _ (Nat.le_max_right _ _) o ?_
  rw [h4]; exact h5
end mem
end Go.Ae
