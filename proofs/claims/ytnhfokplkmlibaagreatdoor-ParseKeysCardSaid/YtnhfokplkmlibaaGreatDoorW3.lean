/-
  Pieces of code by their places, and operations whose types are known. No condition.
-/
import Derived.Test.YtnhfokplkmlibaaGreatDoorW2
set_option linter.unusedVariables false
set_option linter.unusedSimpArgs false
namespace Go.Ae

/-- a part of a piece of code. -/
noncomputable def kid (c : Code) (i : Nat) : Code :=
  @Code.rec (fun _ => Nat → Code) (fun _ => .skip) (fun _ _ _ _ => .skip) (fun a b _ _ i => @Nat.rec (fun _ => Code) a (fun _ _ => b) i)
    (fun _ a b _ _ i => @Nat.rec (fun _ => Code) a (fun _ _ => b) i) (fun _ a _ _ => a) (fun a _ _ => a) (fun _ _ _ _ _ _ _ => .skip) (fun _ _ => .skip) (fun a _ _ => a) (fun _ _ => .skip) (fun _ _ => .skip) (fun _ => .skip) (fun _ _ => .skip) c i
noncomputable def sub (c : Code) (p : List Nat) : Code := @List.rec Nat (fun _ => Code → Code) (fun c => c) (fun i _ ih c => ih (kid c i)) p c
noncomputable def opsOf (c : Code) : Array Oper :=
  @Code.rec (fun _ => Array Oper) #[] (fun _ ops _ => ops) (fun _ _ _ _ => #[]) (fun _ _ _ _ _ => #[]) (fun _ _ _ => #[]) (fun _ _ => #[]) (fun _ _ _ _ _ _ => #[]) (fun _ => #[]) (fun _ _ => #[]) (fun _ => #[]) (fun _ => #[]) #[] (fun _ => #[]) c
noncomputable def bodyOf (f : Func) : Code := @Option.rec Code (fun _ => Code) .skip (fun c => c) f.body

/-! ### operations whose types are known -/
noncomputable def fld (off : Nat) (x : Value) : Option Value := obind (vPtr x) fun a => some (.pointer (some ⟨a.block, Nat.add a.off off, none⟩))
noncomputable def fldV (l : Option Nat) (off : Nat) (x : Value) : Option Value := obind (vAgg x) fun cs => apart l cs off
noncomputable def ldW (l : Option Nat) (x : Value) (H : AHeap) : Option (Value × AHeap) := obind (vPtr x) fun a => loadAt l a H
noncomputable def stW (n : Nat) (x v : Value) (H : AHeap) : Option (Value × AHeap) :=
  obind (vPtr x) fun a => gd (Nat.beq (len (cellsL v)) n) (obind (H.write a.block a.off (cellsL v)) fun H' => some (undef, H'))
noncomputable def idA (es : Nat) (x i : Value) : Option Value := obind (vNat i) fun k => obind (vSl x) fun p => obind p.1 fun a => gd (Nat.ble (Nat.succ k) p.2.1) (some (.pointer (some ⟨a.block, Nat.add a.off (Nat.mul k es), none⟩)))
noncomputable def idR (n es : Nat) (x i : Value) : Option Value := obind (vNat i) fun k => obind (vPtr x) fun a => gd (Nat.ble (Nat.succ k) n) (some (.pointer (some ⟨a.block, Nat.add a.off (Nat.mul k es), none⟩)))
noncomputable def idS (x i : Value) : Option Value := obind (vNat i) fun k => obind (vStr x) fun s => obind (nth s.data.toList k) fun b => some (.int .u8 (.ofNat b.toNat))
noncomputable def idV (l : Option Nat) (n es : Nat) (x i : Value) : Option Value := obind (vNat i) fun k => obind (vAgg x) fun cs => gd (Nat.ble (Nat.succ k) n) (apart l cs (Nat.mul k es))
noncomputable def slA (es : Nat) (x : Value) (lo hi mx : Option Value) : Option Value := obind (vSl x) fun p => aslSl es p lo hi mx
noncomputable def slT (x : Value) (lo hi mx : Option Value) : Option Value := obind (vStr x) fun s => gd (oIsNone mx) (aslStr s lo hi)
noncomputable def slR (n es : Nat) (x : Value) (lo hi mx : Option Value) : Option Value := obind (vPtr x) fun a => aslArr n es a lo hi mx
noncomputable def lenA (x : Value) : Option Value := obind (vSl x) fun p => some (.int .i64 (.ofNat p.2.1))
noncomputable def lenT (x : Value) : Option Value := obind (vStr x) fun s => some (.int .i64 (.ofNat (len s.data.toList)))
noncomputable def newW (e : TypeId) (z : List Value) (H : AHeap) : Option (Value × AHeap) := some (okPtr H.next, H.new (rowOf e z))
noncomputable def mkS (e : TypeId) (z : List Value) (l c : Value) (H : AHeap) : Option (Value × AHeap) :=
  obind (vNat l) fun n => obind (vNat c) fun m => gd (Nat.ble n m && Nat.ble m 16777216 && true) (some (.slice (some ⟨H.next, 0, none⟩) n m, H.new (rowOf e (repL z m))))
noncomputable def apA (e : TypeId) (es : Nat) (s x : Value) (H : AHeap) : Option (Value × AHeap) :=
  obind (vSl s) fun p => obind (appended H es x) fun r => gd (Nat.ble r.1 16777216) (appTo (e, es) s p r.1 r.2 H)
noncomputable def cpA (es : Nat) (d x : Value) (H : AHeap) : Option (Value × AHeap) :=
  obind (vSl d) fun p => obind (appended H es x) fun e =>
    @Option.rec Addr (fun _ => Option (Value × AHeap)) (gd (Nat.beq p.2.1 0) (some (.int .i64 0, H)))
      (fun a => obind (H.write a.block a.off (tk (Nat.mul (bif' (Nat.ble e.1 p.2.1) e.1 p.2.1) es) e.2)) fun H' => some (.int .i64 (.ofNat (bif' (Nat.ble e.1 p.2.1) e.1 p.2.1)), H')) p.1
noncomputable def clA (z : List Value) (d : Value) (H : AHeap) : Option (Value × AHeap) :=
  obind (vSl d) fun p => @Option.rec Addr (fun _ => Option (Value × AHeap)) (some (.tuple #[], H)) (fun a => obind (H.write a.block a.off (repL z p.2.1)) fun H' => some (.tuple #[], H')) p.1
/-- what a value is, that is called. -/
noncomputable def cvF (x : Value) : Option (FuncId × List Value × List Value) := obind (vFn x) fun q => obind (fFn q.1) fun g => some (g, q.2)
/-! ### memories of operations whose order is drawn -/
noncomputable def hN (H : AHeap) : AHeap := ⟨H.objs, H.next, H.next⟩
noncomputable def hM (H H' : AHeap) : AHeap := ⟨H'.objs, H'.next, lowMin H.low H'.low⟩
noncomputable def clC (H H' : AHeap) : Cl := bif' (Nat.ble H.next H'.low) (cl 1) ⟨2, 0, 0, 0, H, H'⟩
noncomputable def clF (H H' : AHeap) : Cl := bif' (Nat.ble H.next H'.low) (cl 5) ⟨2, 0, 0, 0, H, H'⟩
noncomputable def clL (n : Nat) (x : Value) (H H' : AHeap) : Cl := bif' (Nat.ble H.next H'.low) ((obind (vPtr x) fun a => some (Cl.mk 4 a.block a.off n hh0 hh0)).getD (cl 1)) ⟨2, 0, 0, 0, H, H'⟩
noncomputable def clS (x v : Value) (H H' : AHeap) : Cl := @Option.rec Addr (fun _ => Cl) ⟨2, 0, 0, 0, H, H'⟩ (fun a => ⟨3, a.block, a.off, len (cellsL v), hh0, hh0⟩) (vPtr x)
/-! ### loops -/
noncomputable def rdW (R : Nat → St → Prop) (n : Nat) (K : Out → Prop) : Out → Prop := fun o =>
  @Out.rec (fun _ => Prop) False (fun s => ∃ m, m < n ∧ R m s) (fun i s => K (.exit i s)) (fun l s => K (.goto l s)) (fun s => K (.ret s)) o
theorem rdW_norm {R : Nat → St → Prop} {n : Nat} {K : Out → Prop} {s : St} : rdW R n K (.norm s) = ∃ m, m < n ∧ R m s := rfl
theorem rdW_exit {R : Nat → St → Prop} {n : Nat} {K : Out → Prop} {s : St} {i : Nat} : rdW R n K (.exit i s) = K (.exit i s) := rfl
theorem rdW_goto {R : Nat → St → Prop} {n : Nat} {K : Out → Prop} {s : St} {l : Nat} : rdW R n K (.goto l s) = K (.goto l s) := rfl
theorem rdW_ret {R : Nat → St → Prop} {n : Nat} {K : Out → Prop} {s : St} : rdW R n K (.ret s) = K (.ret s) := rfl
theorem EvP.loopR {P : Program} {X : Xt} {a : Code} {K : Out → Prop} {R : Nat → St → Prop} (h : ∀ n s, R n s → EvP P X a s (rdW R n K)) : ∀ n s, R n s → EvP P X (.loop a) s K := by
  intro n s hs
  refine EvP.loop (T := Nat × St) (fun t => t.2) (fun t => R t.1 t.2) (fun t => t.1) ?_ (n, s) hs
  rintro ⟨n, s⟩ hR
  refine EvP.mono (h n s hR) fun o ho => ?_
  cases o with
  | fail => exact ho
  | norm s' =>
    obtain ⟨m, h1, h2⟩ := ho
    exact ⟨(m, s'), rfl, h2, h1⟩
  | exit i s' => exact ho
  | goto l s' => exact ho
  | ret s' => exact ho
/-! ### results -/
noncomputable abbrev lkR := look
noncomputable def resW (P : Program) (s : St) (rs : List ResultVar) : (List Value → Prop) → Prop :=
  @List.rec ResultVar (fun _ => (List Value → Prop) → Prop) (fun k => k []) (fun r _ ih k =>
    @ResultVar.rec (fun _ => Prop) (fun t => ih (fun vs => k (lookS s t :: vs))) (fun a t => ME (aload P t (lookS s a) s.H) fun v _ => ih (fun vs => k (v :: vs))) r) rs
theorem resW_eq {P : Program} {s : St} : ∀ {rs : List ResultVar} {k : List Value → Prop}, resW P s rs k → ∃ vs, aresults P s rs = some vs ∧ k vs := by
  intro rs
  induction rs with
  | nil => intro k h; exact ⟨[], rfl, h⟩
  | cons r rs ih =>
    intro k h
    cases r with
    | tmp t =>
      obtain ⟨vs, h1, h2⟩ := ih (k := fun vs => k (lookS s t :: vs)) h
      refine ⟨lookS s t :: vs, ?_, h2⟩
      show (obind (some (lookS s t)) fun v => obind (aresults P s rs) fun vs => some (v :: vs)) = _
      rw [h1]; rfl
    | cell a t =>
      obtain ⟨v, H', h0, h⟩ := ME_eq (K := fun v _ => resW P s rs (fun vs => k (v :: vs))) h
      obtain ⟨vs, h1, h2⟩ := ih (k := fun vs => k (v :: vs)) h
      refine ⟨v :: vs, ?_, h2⟩
      show (obind (obind (aload P t (lookS s a) s.H) fun p => some p.1) fun v => obind (aresults P s rs) fun vs => some (v :: vs)) = _
      rw [h0, h1]; rfl
theorem endK_ret {P : Program} {s : St} {rs : List ResultVar} {K : Value → AHeap → Prop} (hd : s.df = []) (h : resW P s rs (fun vs => K (tupled vs) s.H)) : endK P rs K (.ret s) := by
  obtain ⟨vs, h1, h2⟩ := resW_eq h
  refine ⟨hd, ?_⟩
  rw [h1]; exact h2
theorem endK_norm {P : Program} {s : St} {rs : List ResultVar} {K : Value → AHeap → Prop} (hd : s.df = []) (h : resW P s rs (fun vs => K (tupled vs) s.H)) : endK P rs K (.norm s) := by
  obtain ⟨vs, h1, h2⟩ := resW_eq h
  refine ⟨hd, ?_⟩
  rw [h1]; exact h2
end Go.Ae
