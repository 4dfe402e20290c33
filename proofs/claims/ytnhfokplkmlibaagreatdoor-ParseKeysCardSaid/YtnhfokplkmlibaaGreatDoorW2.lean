/-
  The predicate that code comes to what is asked, operation by operation; it tells what the second machine comes to. No condition.
-/
import Derived.Test.YtnhfokplkmlibaaGreatDoorW1
set_option linter.unusedVariables false
set_option linter.unusedSimpArgs false
namespace Go.Ae

/-! ### what is asked of where it ends -/
noncomputable def PU (o : Option Value) (K : Value → Prop) : Prop := @Option.rec Value (fun _ => Prop) False (fun v => K v) o
noncomputable def ME (o : Option (Value × AHeap)) (K : Value → AHeap → Prop) : Prop := @Option.rec (Value × AHeap) (fun _ => Prop) False (fun p => K p.1 p.2) o
noncomputable def CV (o : Option Value) (q : Option (Value × AHeap)) (Kp : Value → Prop) (Km : Value → AHeap → Prop) : Prop := @Option.rec Value (fun _ => Prop) (ME q Km) (fun v => Kp v) o
/-- a call comes to something that meets K. -/
def CallP (P : Program) (X : Xt) (g : FuncId) (args : List Value) (H : AHeap) (K : Value → AHeap → Prop) : Prop := ∃ v H', Ca P X g args H v H' ∧ K v H'
/-- a call of what a value is: its number, what is bound, what is caught. -/
noncomputable def CallV (P : Program) (X : Xt) (q : Option (FuncId × List Value × List Value)) (args : List Value) (H : AHeap) (K : Value → AHeap → Prop) : Prop :=
  @Option.rec (FuncId × List Value × List Value) (fun _ => Prop) False (fun q => CallP P X q.1 (app q.2.1 (app args q.2.2)) H K) q
noncomputable def builtinK (b : Builtin) : List TypeId → List Value → Program → AHeap → (Value → Prop) → (Value → AHeap → Prop) → Prop :=
  @Builtin.rec (fun _ => List TypeId → List Value → Program → AHeap → (Value → Prop) → (Value → AHeap → Prop) → Prop)
    (fun ats args P H Kp Km => ME (aappend P ats args H) Km) (fun ats args P H Kp Km => PU (one (acap0 P) ats args) Kp) (fun ats args P H Kp Km => ME (aclear P ats args H) Km) (fun _ _ _ _ _ _ => False) (fun ats args P H Kp Km => PU (acomplex args) Kp) (fun ats args P H Kp Km => ME (acopy P ats args H) Km) (fun ats args P H Kp Km => ME (adelete P ats args H) Km) (fun ats args P H Kp Km => PU (aimag args) Kp) (fun ats args P H Kp Km => CV (one (alen0 P) ats args) (alen1 P ats args H) Kp Km) (fun _ _ _ _ _ _ => False) (fun ats args P H Kp Km => PU (amm true args) Kp) (fun ats args P H Kp Km => PU (amm false args) Kp) (fun _ _ _ _ _ _ => False) (fun _ _ _ _ _ _ => False) (fun _ _ _ _ _ _ => False) (fun _ _ _ _ _ _ => False) (fun ats args P H Kp Km => PU (areal args) Kp) (fun _ _ _ _ _ _ => False) (fun _ _ _ _ _ _ => False) (fun _ _ _ _ _ _ => False) (fun ats args P H Kp Km => ME (asldata args H) Km) (fun ats args P H Kp Km => ME (ausString P ats args H) Km) (fun _ _ _ _ _ _ => False) (fun _ _ _ _ _ _ => False) (fun _ _ _ _ _ _ => False) (fun _ _ _ _ _ _ => False) b
noncomputable def callK (P : Program) (X : Xt) (c : Call) (s : St) (Kp : Value → Prop) (Km : Value → AHeap → Prop) : Prop :=
  @Option.rec Builtin (fun _ => Prop) (CallV P X (calleeOf c.callee P s) (mp (ev s) c.args.toList) s.H Km)
    (fun b => builtinK b c.argTypes.toList (mp (ev s) c.args.toList) P s.H Kp Km) (isBuiltin c.callee)
noncomputable def opK (o : Op) : Program → Xt → St → (Value → Prop) → (Value → AHeap → Prop) → Prop :=
  @Op.rec (fun _ => Program → Xt → St → (Value → Prop) → (Value → AHeap → Prop) → Prop)
    (fun x P X s Kp Km => Kp (ev s x)) (fun x P X s Kp Km => Kp (ev s x)) (fun c a b P X s Kp Km => PU (apick (ev s c) (ev s a) (ev s b)) Kp) (fun e P X s Kp Km => ME (aalloc P e s.H) Km) (fun e x P X s Kp Km => ME (abox e (ev s x) s.H) Km) (fun t ps P X s Kp Km => PU (abuild P t (evp s ps)) Kp) (fun t n ps P X s Kp Km => ME (abuildSl P t n (evp s ps) s.H) Km) (fun t m k v P X s Kp Km => ME (aupdate P t (ev s m) (ev s k) (ev s v) s.H) Km) (fun t x P X s Kp Km => ME (aload P t (ev s x) s.H) Km) (fun t x v P X s Kp Km => ME (astore P t (ev s x) (ev s v) s.H) Km) (fun _ _ _ _ _ _ => False) (fun _ _ _ _ _ _ => False) (fun x P X s Kp Km => PU (anil (ev s x)) Kp) (fun op t x y _ P X s Kp Km => PU (abin P op t x y (ev s x) (ev s y)) Kp) (fun op _ x P X s Kp Km => PU (pureSem (Op.unary op (ev s x))) Kp) (fun a b x P X s Kp Km => CV (aconv P a b (ev s x)) (aconv1 P a b (ev s x) s.H) Kp Km) (fun _ _ _ _ _ _ _ => False) (fun t x P X s Kp Km => PU (amkI P t (ev s x)) Kp) (fun f fi ca P X s Kp Km => Kp (.func f ⟨mp (ev s) fi.toList⟩ ⟨mp (ev s) ca.toList⟩)) (fun t r P X s Kp Km => ME (amakeMap P t (evo s r) s.H) Km) (fun _ _ _ _ _ _ _ => False) (fun t l c P X s Kp Km => ME (amakeSlice P t (ev s l) (ev s c) s.H) Km) (fun t x lo hi mx P X s Kp Km => PU (aslice P t (ev s x) (evo s lo) (evo s hi) (evo s mx)) Kp) (fun t x f P X s Kp Km => PU (afieldAddr P t (ev s x) f) Kp) (fun t x f P X s Kp Km => PU (afield P t (ev s x) f) Kp) (fun t x i P X s Kp Km => PU (aindexAddr P t (ev s x) (ev s i)) Kp) (fun t x i P X s Kp Km => PU (aindex P t (ev s x) (ev s i)) Kp) (fun t x k ok P X s Kp Km => ME (alookup P t (ev s x) (ev s k) ok s.H) Km) (fun t m k v P X s Kp Km => ME (aupdate P t (ev s m) (ev s k) (ev s v) s.H) Km) (fun _ _ _ _ _ _ _ _ => False) (fun _ _ _ _ _ _ _ _ _ => False) (fun t x P X s Kp Km => ME (arange P t (ev s x) s.H) Km) (fun x b P X s Kp Km => ME (anext (ev s x) b s.H) Km) (fun _ _ _ _ _ _ => False) (fun _ _ _ _ _ _ _ _ _ => False) (fun t i P X s Kp Km => PU (aextract (ev s t) i) Kp) (fun c P X s Kp Km => callK P X c s Kp Km) (fun _ _ _ _ _ _ => False) (fun _ _ _ _ _ _ => False) (fun _ _ _ _ _ _ => False) (fun _ _ _ _ _ _ _ => False) (fun _ _ _ _ _ _ _ _ => False) (fun _ _ _ _ _ _ _ => False) o
noncomputable def cdW (v : Option Bool) (A B : Prop) : Prop := @Option.rec Bool (fun _ => Prop) False (fun b => @Bool.rec (fun _ => Prop) B A b) v
noncomputable def elemN (l : List Nat) (t : Nat) : Bool := @List.rec Nat (fun _ => Bool) false (fun x _ r => bif' (Nat.beq x t) true r) l
noncomputable def remN (l : List Nat) (t : Nat) : List Nat := @List.rec Nat (fun _ => List Nat) [] (fun x _ r => bif' (Nat.beq x t) r (x :: r)) l
noncomputable def remO (l : List Nat) (d : Option Nat) : List Nat := @Option.rec Nat (fun _ => List Nat) l (remN l) d
/-- what was left out. -/
noncomputable def addO (s : St) (l : List Nat) (d : Option Nat) : List Nat := @Option.rec Nat (fun _ => List Nat) l (fun d => bif' (wr s d) (d :: l) l) d
/-- a guard's answer, and the frame that knows it. -/
noncomputable def GuW (ops : Array Oper) (s : St) (sk : List Nat) (g : Option (Nat × Bool)) (K : Bool → St → List Nat → Prop) : Prop :=
  @Option.rec (Nat × Bool) (fun _ => Prop) (K true s sk) (fun g =>
    @Option.rec Oper (fun _ => Prop) False (fun o => @Option.rec Nat (fun _ => Prop) False (fun t =>
      @Bool.rec (fun _ => Prop)
        (cdW (vBool (lookS s t)) (K (bEq true g.2) (putS s t (.bool true) s.H) (remN sk t)) (K (bEq false g.2) (putS s t (.bool false) s.H) (remN sk t)))
        (K false s sk) (elemN sk t)) o.dst) (nth ops.toList g.1)) g
/-- operations in the order of the text. -/
noncomputable def WpOps (P : Program) (X : Xt) (ops : Array Oper) (l : List Oper) : St → List Nat → (St → Prop) → Prop :=
  @List.rec Oper (fun _ => St → List Nat → (St → Prop) → Prop) (fun s _ K => K s)
    (fun o _ ih s sk K => GuW ops s sk o.guard (fun b s sk => @Bool.rec (fun _ => Prop)
      (ih (putO s o.dst undef s.H) (addO s sk o.dst) K)
      (@Option.rec Call (fun _ => Prop) (opK o.op P X s (fun v => ih (putO s o.dst v s.H) (remO sk o.dst) K) (fun v H => ih (putO s o.dst v H) (remO sk o.dst) K)) (fun _ => False) (deferC o.op))
      b)) l
/-- operations whose order is drawn. -/
noncomputable def WpD (P : Program) (X : Xt) (ops : Array Oper) (l : List Oper) : St → List Nat → List Cl → (St → List Cl → Prop) → Prop :=
  @List.rec Oper (fun _ => St → List Nat → List Cl → (St → List Cl → Prop) → Prop) (fun s _ acc K => K s acc)
    (fun o _ ih s sk acc K => GuW ops s sk o.guard (fun b s sk => @Bool.rec (fun _ => Prop)
      (ih (putO s o.dst undef s.H) (addO s sk o.dst) (cl 0 :: acc) K)
      (opK o.op P X (atNext s) (fun v => ih (putO s o.dst v s.H) (remO sk o.dst) (cl 0 :: acc) K) (fun v H => ih (putO s o.dst v ⟨H.objs, H.next, lowMin s.H.low H.low⟩) (remO sk o.dst) (clsAt P o.op s H :: acc) K))
      b)) l
noncomputable def regW (P : Program) (X : Xt) (ops : Array Oper) (draw : Bool) (s : St) (K : Out → Prop) : Prop :=
  @Bool.rec (fun _ => Prop) (WpOps P X ops ops.toList (clear s) [] (fun s => K (.norm s)))
    (@Bool.rec (fun _ => Prop) False (WpD P X ops ops.toList (clear s) [] [] (fun s cls => dynOk ops cls = true ∧ K (.norm s))) (plainOps ops && statOk ops)) draw
/-- where a piece of code ends, and what is asked of the code behind. -/
noncomputable def sqW (k : St → (Out → Prop) → (Out → Prop) → Prop) (K E : Out → Prop) : Out → Prop :=
  fun o => @Out.rec (fun _ => Prop) (K .fail) (fun s => k s K E) (fun i s => K (.exit i s)) (fun l s => K (.goto l s)) (fun s => K (.ret s)) o
noncomputable def bkW (id : Nat) (K : Out → Prop) : Out → Prop := fun o => K (blockO id o)
/-- it comes to an end that is as asked. -/
def EvP (P : Program) (X : Xt) (c : Code) (s : St) (K : Out → Prop) : Prop := ∃ o o', Ev P X c s o ∧ OEq o o' ∧ K o'
noncomputable def sqE (P : Program) (X : Xt) (b : Code) (K : Out → Prop) : Out → Prop :=
  fun o => @Out.rec (fun _ => Prop) (K .fail) (fun s => EvP P X b s K) (fun i s => K (.exit i s)) (fun l s => K (.goto l s)) (fun s => K (.ret s)) o
noncomputable def sqJ (P : Program) (X : Xt) (b : Code) (K E : Out → Prop) : Out → Prop :=
  fun o => @Out.rec (fun _ => Prop) (K .fail) (fun s => EvP P X b s E) (fun i s => K (.exit i s)) (fun l s => K (.goto l s)) (fun s => K (.ret s)) o
/-! ### where ways meet again -/
noncomputable def hasG (l : List Oper) : Nat := @List.rec Oper (fun _ => Nat) 1 (fun o _ r => @Option.rec (Nat × Bool) (fun _ => Nat) r (fun _ => 2) o.guard) l
noncomputable def exitsN (c : Code) (i : Nat) : Nat :=
  @Code.rec (fun _ => Nat) 0 (fun _ _ _ => 0) (fun _ _ a b => Nat.add a b) (fun _ _ _ a b => Nat.add a b) (fun _ _ a => a) (fun _ _ => 0) (fun _ _ _ _ _ _ => 0) (fun j => bif' (Nat.beq j i) 1 0) (fun _ _ => 0) (fun _ => 0) (fun _ => 0) 0 (fun _ => 0) c
noncomputable def waysN (c : Code) : Nat :=
  @Code.rec (fun _ => Nat) 1 (fun _ ops _ => hasG ops.toList) (fun _ _ a b => Nat.mul a b) (fun _ _ _ a b => Nat.add a b) (fun i a r => Nat.add r (exitsN a i)) (fun _ _ => 0) (fun _ _ _ _ _ _ => 0) (fun _ => 0) (fun _ _ => 0) (fun _ => 1) (fun _ => 0) 0 (fun _ => 0) c
noncomputable def weightN (c : Code) : Nat :=
  @Code.rec (fun _ => Nat) 0 (fun _ ops _ => len ops.toList) (fun _ _ a b => Nat.add a b) (fun _ _ _ a b => Nat.add a b) (fun _ _ r => r) (fun _ _ => 4) (fun _ _ _ _ _ _ => 0) (fun _ => 0) (fun _ _ => 4) (fun _ => 0) (fun _ => 0) 0 (fun _ => 0) c
noncomputable def joinN (a b : Code) : Bool := Nat.ble 2 (waysN a) && Nat.ble 4 (weightN b)
/-- the predicate: K is asked of ends that are come to at once, E of those behind loops, and where ways meet. -/
noncomputable def Wp (P : Program) (X : Xt) (c : Code) : St → (Out → Prop) → (Out → Prop) → Prop :=
  @Code.rec (fun _ => St → (Out → Prop) → (Out → Prop) → Prop)
    (fun s K _ => K (.norm s))
    (fun _ ops draw s K _ => regW P X ops draw s K)
    (fun a b ia ib s K E => ia s (@Bool.rec (fun _ => Out → Prop) (sqW ib K E) (sqJ P X b K E) (joinN a b)) (sqE P X b E))
    (fun c _ _ ix iy s K E => cdW (vBool (ev s c)) (ix s K E) (iy s K E))
    (fun id _ ih s K E => ih s (bkW id K) (bkW id E))
    (fun a _ s _ E => EvP P X (.loop a) s E)
    (fun _ _ _ _ _ _ => fun _ _ _ => False)
    (fun id s K _ => K (.exit id s))
    (fun a _ s _ E => EvP P X (.scope a) s E)
    (fun _ s K _ => K (.norm s))
    (fun l s K _ => K (.goto l s))
    (fun s K _ => K (.ret s))
    (fun _ => fun _ _ _ => False) c

/-! ### it tells -/
section mem
variable {P : Program} {X : Xt}
theorem PU_eq {o : Option Value} {K : Value → Prop} (h : PU o K) : ∃ v, o = some v ∧ K v := by
  cases o with
  | none => exact h.elim
  | some v => exact ⟨v, rfl, h⟩
theorem ME_eq {o : Option (Value × AHeap)} {K : Value → AHeap → Prop} (h : ME o K) : ∃ v H, o = some (v, H) ∧ K v H := by
  cases o with
  | none => exact h.elim
  | some v => exact ⟨v.1, v.2, rfl, h⟩
/-- an operation comes to a value that is asked for. -/
def Opd (P : Program) (X : Xt) (o : Op) (s : St) (Kp : Value → Prop) (Km : Value → AHeap → Prop) : Prop :=
  ∃ k, (∃ v, opR o P (acall P X k) s = .pur v ∧ Kp v) ∨ ∃ v H, opR o P (acall P X k) s = .mem v H ∧ Km v H
theorem Opd.pu {o : Op} {s : St} {Kp : Value → Prop} {Km : Value → AHeap → Prop} {q : Option Value} (hq : ∀ cf, opR o P cf s = rp q) (h : PU q Kp) : Opd P X o s Kp Km := by
  obtain ⟨v, h1, h2⟩ := PU_eq h
  exact ⟨0, .inl ⟨v, by rw [hq, h1]; rfl, h2⟩⟩
theorem Opd.me {o : Op} {s : St} {Kp : Value → Prop} {Km : Value → AHeap → Prop} {q : Option (Value × AHeap)} (hq : ∀ cf, opR o P cf s = rm q) (h : ME q Km) : Opd P X o s Kp Km := by
  obtain ⟨v, H, h1, h2⟩ := ME_eq h
  exact ⟨0, .inr ⟨v, H, by rw [hq, h1]; rfl, h2⟩⟩
theorem Opd.cv {o : Op} {s : St} {Kp : Value → Prop} {Km : Value → AHeap → Prop} {q : Option Value} {r : Option (Value × AHeap)} (hq : ∀ cf, opR o P cf s = rpm q (rm r)) (h : CV q r Kp Km) : Opd P X o s Kp Km := by
  cases q with
  | none => exact Opd.me (q := r) (fun cf => hq cf) h
  | some v => exact ⟨0, .inl ⟨v, by rw [hq]; rfl, h⟩⟩
theorem Opd.cons {o : Op} {s : St} {Kp : Value → Prop} {Km : Value → AHeap → Prop} {v : Value} (hq : ∀ cf, opR o P cf s = .pur v) (h : Kp v) : Opd P X o s Kp Km := ⟨0, .inl ⟨v, hq _, h⟩⟩
theorem builtinK_eq {b : Builtin} {c : Call} {s : St} {ats : List TypeId} {args : List Value} {Kp : Value → Prop} {Km : Value → AHeap → Prop} (hq : ∀ cf, opR (.call c) P cf s = builtinR b ats args P s.H) (h : builtinK b ats args P s.H Kp Km) : Opd P X (.call c) s Kp Km := by
  cases b with
  | append => exact Opd.me hq h
  | cap => exact Opd.pu hq h
  | clear => exact Opd.me hq h
  | complex => exact Opd.pu hq h
  | copy => exact Opd.me hq h
  | delete => exact Opd.me hq h
  | imag => exact Opd.pu hq h
  | len => exact Opd.cv hq h
  | max => exact Opd.pu hq h
  | min => exact Opd.pu hq h
  | real => exact Opd.pu hq h
  | unsafeSliceData => exact Opd.me hq h
  | unsafeString => exact Opd.me hq h
  | _ => exact h.elim
theorem callK_eq {c : Call} {s : St} {Kp : Value → Prop} {Km : Value → AHeap → Prop} (h : callK P X c s Kp Km) : Opd P X (.call c) s Kp Km := by
  unfold callK at h
  cases hb : isBuiltin c.callee with
  | some b =>
    rw [hb] at h
    refine builtinK_eq (b := b) (ats := c.argTypes.toList) (args := mp (ev s) c.args.toList) (fun cf => ?_) h
    show callR c P cf s = _
    unfold callR
    rw [hb]
  | none =>
    rw [hb] at h
    replace h : CallV P X (calleeOf c.callee P s) (mp (ev s) c.args.toList) s.H Km := h
    unfold CallV at h
    cases hc : calleeOf c.callee P s with
    | none => rw [hc] at h; exact h.elim
    | some q =>
      rw [hc] at h
      obtain ⟨v, H', ⟨k, h1⟩, h2⟩ := h
      refine ⟨k, .inr ⟨v, H', ?_, h2⟩⟩
      show callR c P (acall P X k) s = _
      unfold callR
      rw [hb]
      show rm (obind (calleeOf c.callee P s) fun z => acall P X k z.1 (app z.2.1 (app (mp (ev s) c.args.toList) z.2.2)) s.H) = _
      rw [hc]
      show rm (acall P X k q.1 (app q.2.1 (app (mp (ev s) c.args.toList) q.2.2)) s.H) = _
      rw [h1]; rfl
theorem opK_eq {o : Op} {s : St} {Kp : Value → Prop} {Km : Value → AHeap → Prop} (h : opK o P X s Kp Km) : Opd P X o s Kp Km := by
  cases o with
  | move _ => exact Opd.cons (fun _ => rfl) h
  | assign _ => exact Opd.cons (fun _ => rfl) h
  | pick _ _ _ => exact Opd.pu (fun _ => rfl) h
  | alloc _ => exact Opd.me (fun _ => rfl) h
  | box _ _ => exact Opd.me (fun _ => rfl) h
  | build _ _ => exact Opd.pu (fun _ => rfl) h
  | buildSlice _ _ _ => exact Opd.me (fun _ => rfl) h
  | insert _ _ _ _ => exact Opd.me (fun _ => rfl) h
  | load _ _ => exact Opd.me (fun _ => rfl) h
  | store _ _ _ => exact Opd.me (fun _ => rfl) h
  | nilCheck _ => exact Opd.pu (fun _ => rfl) h
  | binOp _ _ _ _ _ => exact Opd.pu (fun _ => rfl) h
  | unOp _ _ _ => exact Opd.pu (fun _ => rfl) h
  | convert _ _ _ => exact Opd.cv (fun _ => rfl) h
  | makeInterface _ _ => exact Opd.pu (fun _ => rfl) h
  | makeFunc _ _ _ => exact Opd.cons (fun _ => rfl) h
  | makeMap _ _ => exact Opd.me (fun _ => rfl) h
  | makeSlice _ _ _ => exact Opd.me (fun _ => rfl) h
  | slice _ _ _ _ _ => exact Opd.pu (fun _ => rfl) h
  | fieldAddr _ _ _ => exact Opd.pu (fun _ => rfl) h
  | field _ _ _ => exact Opd.pu (fun _ => rfl) h
  | indexAddr _ _ _ => exact Opd.pu (fun _ => rfl) h
  | index _ _ _ => exact Opd.pu (fun _ => rfl) h
  | lookup _ _ _ _ => exact Opd.me (fun _ => rfl) h
  | mapUpdate _ _ _ _ => exact Opd.me (fun _ => rfl) h
  | range _ _ => exact Opd.me (fun _ => rfl) h
  | next _ _ => exact Opd.me (fun _ => rfl) h
  | extract _ _ => exact Opd.pu (fun _ => rfl) h
  | call c => exact callK_eq h
  | _ => exact h.elim
theorem elemN_eq {l : List Nat} {t : Nat} : elemN l t = true ↔ t ∈ l := by
  induction l with
  | nil => exact ⟨(fun h => by cases h), (fun h => by cases h)⟩
  | cons x l ih =>
    show bif' (Nat.beq x t) true (elemN l t) = true ↔ _
    by_cases e : x = t
    · subst e; rw [show Nat.beq x x = true from Nat.beq_refl x]; simp [bif_true]
    · rw [show Nat.beq x t = false from by rw [← Bool.not_eq_true]; exact fun g => e (Nat.eq_of_beq_eq_true g)]
      rw [bif_false, ih, List.mem_cons]
      exact ⟨.inr, fun h => h.resolve_left (fun g => e g.symm)⟩
theorem remN_eq {l : List Nat} {t u : Nat} (h : u ∈ remN l t) : u ∈ l ∧ u ≠ t := by
  induction l with
  | nil => cases h
  | cons x l ih =>
    replace h : u ∈ bif' (Nat.beq x t) (remN l t) (x :: remN l t) := h
    by_cases e : x = t
    · subst e
      rw [show Nat.beq x x = true from Nat.beq_refl x, bif_true] at h
      exact ⟨List.mem_cons_of_mem _ (ih h).1, (ih h).2⟩
    · rw [show Nat.beq x t = false from by rw [← Bool.not_eq_true]; exact fun g => e (Nat.eq_of_beq_eq_true g), bif_false, List.mem_cons] at h
      rcases h with h | h
      · subst h; exact ⟨List.mem_cons_self .., e⟩
      · exact ⟨List.mem_cons_of_mem _ (ih h).1, (ih h).2⟩
/-- what was left out is not there. -/
def Left (s : St) (sk : List Nat) : Prop := ∀ t, t ∈ sk → lookS s t = undef
theorem Left.put {s : St} {sk : List Nat} (h : Left s sk) (d : Option Nat) (v : Value) (H : AHeap) : Left (putO s d v H) (remO sk d) := by
  cases d with
  | none => exact fun t ht => h t ht
  | some d =>
    intro t ht
    obtain ⟨h1, h2⟩ := remN_eq (l := sk) ht
    show lookS (putS s d v H) t = _
    rw [look_putS, if_neg (fun g => h2 g.1.symm)]
    exact h t h1
theorem Left.skip {s : St} {sk : List Nat} (h : Left s sk) (d : Option Nat) : Left (putO s d undef s.H) (addO s sk d) := by
  cases d with
  | none => exact fun t ht => h t ht
  | some d =>
    intro t ht
    show lookS (putS s d undef s.H) t = _
    rw [look_putS]
    split
    · rfl
    · next hn =>
      replace ht : t ∈ bif' (wr s d) (d :: sk) sk := ht
      cases hw : wr s d with
      | true =>
        rw [hw, bif_true, List.mem_cons] at ht
        rcases ht with e | ht
        · exact absurd ⟨e.symm, hw⟩ hn
        · exact h t ht
      | false => rw [hw] at ht; exact h t ht
theorem Left.atNext {s : St} {sk : List Nat} (h : Left s sk) : Left (atNext s) sk := h
theorem isU_undef : isU undef = true := rfl
theorem cdW_eq {v : Option Bool} {A B : Prop} (h : cdW v A B) : (v = some true ∧ A) ∨ (v = some false ∧ B) := by
  cases v with
  | none => exact h.elim
  | some b => cases b with
    | true => exact .inl ⟨rfl, h⟩
    | false => exact .inr ⟨rfl, h⟩
theorem GuW_eq {ops : Array Oper} {s : St} {sk : List Nat} {g : Option (Nat × Bool)} {K : Bool → St → List Nat → Prop} (hl : Left s sk) (h : GuW ops s sk g K) :
    ∃ b s' sk', wantA ops s g = some b ∧ Eq' s s' ∧ Left s' sk' ∧ K b s' sk' := by
  cases g with
  | none => exact ⟨true, s, sk, rfl, Eq'.refl s, hl, h⟩
  | some g =>
    cases ho : nth ops.toList g.1 with
    | none =>
      unfold GuW at h
      replace h : @Option.rec Oper (fun _ => Prop) False _ (nth ops.toList g.1) := h
      rw [ho] at h
      exact h.elim
    | some o =>
      cases ht : o.dst with
      | none =>
        unfold GuW at h
        replace h : @Option.rec Oper (fun _ => Prop) False _ (nth ops.toList g.1) := h
        rw [ho] at h
        replace h : @Option.rec Nat (fun _ => Prop) False _ o.dst := h
        rw [ht] at h
        exact h.elim
      | some t =>
        unfold GuW at h
        replace h : @Option.rec Oper (fun _ => Prop) False _ (nth ops.toList g.1) := h
        rw [ho] at h
        replace h : @Option.rec Nat (fun _ => Prop) False _ o.dst := h
        rw [ht] at h
        have hy : ∀ y, (@Option.rec Bool (fun _ => Option (Option Bool)) (gd (isU (lookS s t)) (some none)) (fun b => some (some b)) (vBool (lookS s t))) = some y → yieldA ops s g.1 = some y := by
          intro y hy
          unfold yieldA
          rw [ho]
          show (obind o.dst _) = _
          rw [ht]
          exact hy
        have hw : ∀ y, yieldA ops s g.1 = some y → wantA ops s (some g) = some (@Option.rec Bool (fun _ => Bool) false (fun b => bEq b g.2) y) := by
          intro y hy
          show wantG ops s g = _
          unfold wantG
          rw [hy]; rfl
        cases he : elemN sk t with
        | true =>
          replace h : @Bool.rec (fun _ => Prop) _ (K false s sk) (elemN sk t) := h
          rw [he] at h
          refine ⟨false, s, sk, ?_, Eq'.refl s, hl, h⟩
          have hu := hl t (elemN_eq.1 he)
          exact hw none (hy none (by rw [hu]; rfl))
        | false =>
          replace h : @Bool.rec (fun _ => Prop) (cdW (vBool (lookS s t)) (K (bEq true g.2) (putS s t (.bool true) s.H) (remN sk t)) (K (bEq false g.2) (putS s t (.bool false) s.H) (remN sk t))) (K false s sk) (elemN sk t) := h
          rw [he] at h
          have fin : ∀ b, vBool (lookS s t) = some b → K (bEq b g.2) (putS s t (.bool b) s.H) (remN sk t) → ∃ b s' sk', wantA ops s (some g) = some b ∧ Eq' s s' ∧ Left s' sk' ∧ K b s' sk' := by
            intro b hb hk
            refine ⟨_, _, _, hw (some b) (hy (some b) (by rw [hb])), ?_, Left.put hl (some t) _ _, hk⟩
            have hv := vBool_eq hb
            have := Eq'.same s t
            rw [hv] at this
            exact this
          rcases cdW_eq h with ⟨h1, h2⟩ | ⟨h1, h2⟩
          · exact fin _ h1 h2
          · exact fin _ h1 h2
theorem WpOps_eq {ops : Array Oper} : ∀ {l : List Oper} {s : St} {sk : List Nat} {K : St → Prop}, Left s sk → WpOps P X ops l s sk K → ∃ s' s2, Ro P X ops l s s' ∧ Eq' s' s2 ∧ K s2 := by
  intro l
  induction l with
  | nil => intro s sk K _ h; exact ⟨s, s, Ro.nil, Eq'.refl s, h⟩
  | cons o l ih =>
    intro s0 sk0 K hl0 h
    obtain ⟨b, s, sk, hw, he, hl, h⟩ := GuW_eq (K := fun b s sk => @Bool.rec (fun _ => Prop)
      (WpOps P X ops l (putO s o.dst undef s.H) (addO s sk o.dst) K)
      (@Option.rec Call (fun _ => Prop) (opK o.op P X s (fun v => WpOps P X ops l (putO s o.dst v s.H) (remO sk o.dst) K) (fun v H => WpOps P X ops l (putO s o.dst v H) (remO sk o.dst) K)) (fun _ => False) (deferC o.op))
      b) hl0 h
    -- a step from the frame that knows the guard
    have fin : ∀ k s1 sk1, opStep P (acall P X k) ops o s0 = some s1 ∨ opStep P (acall P X k) ops o s = some s1 → Left s1 sk1 → WpOps P X ops l s1 sk1 K → ∃ s' s2, Ro P X ops (o :: l) s0 s' ∧ Eq' s' s2 ∧ K s2 := by
      intro k s1 sk1 hst hl1 hK
      obtain ⟨s', s2, h3, h4, h5⟩ := ih hl1 hK
      rcases hst with hst | hst
      · exact ⟨s', s2, Ro.cons ⟨k, hst⟩ h3, h4, h5⟩
      · have hx := he.opStep (P := P) (cf := acall P X k) ops o
        rw [hst] at hx
        generalize hz : opStep P (acall P X k) ops o s0 = z at hx
        cases hx with
        | some hx =>
          rename_i s3
          obtain ⟨k2, h3⟩ := h3
          have hy := Eq'.runOps (P := P) (cf := acall P X k2) ops l hx
          rw [h3] at hy
          generalize hq : runOps P (acall P X k2) ops l s3 = q at hy
          cases hy with
          | some hy => exact ⟨_, s2, Ro.cons ⟨k, hz⟩ ⟨k2, hq⟩, hy.trans h4, h5⟩
    have hw' : wantA ops s o.guard = some b := by rw [← he.wantA]; exact hw
    cases b with
    | false =>
      refine fin 0 _ _ (.inr ?_) (Left.skip hl o.dst) h
      unfold opStep
      rw [hw']; rfl
    | true =>
      cases hd : deferC o.op with
      | some c =>
        replace h : @Option.rec Call (fun _ => Prop) _ (fun _ => False) (deferC o.op) := h
        rw [hd] at h; exact h.elim
      | none =>
        replace h : @Option.rec Call (fun _ => Prop) (opK o.op P X s (fun v => WpOps P X ops l (putO s o.dst v s.H) (remO sk o.dst) K) (fun v H => WpOps P X ops l (putO s o.dst v H) (remO sk o.dst) K)) (fun _ => False) (deferC o.op) := h
        rw [hd] at h
        have st : ∀ k v H, end3 o s (opR o.op P (acall P X k) s) = some (putO s o.dst v H) → opStep P (acall P X k) ops o s = some (putO s o.dst v H) := by
          intro k v H he
          unfold opStep
          rw [hw']
          show doOp P (acall P X k) o s = _
          unfold doOp
          rw [hd]
          exact he
        obtain ⟨k, ⟨v, h1, h2⟩ | ⟨v, H, h1, h2⟩⟩ := opK_eq h
        · exact fin k _ _ (.inr (st k v s.H (by rw [h1]; rfl))) (Left.put hl o.dst v s.H) h2
        · exact fin k _ _ (.inr (st k v H (by rw [h1]; rfl))) (Left.put hl o.dst v H) h2
theorem RoD.cons' {ops : Array Oper} {o : Oper} {l : List Oper} {s s1 : St} {c : Cl} {acc : List Cl} {r : St × List Cl} {k : Nat} (h1 : opStepD P (acall P X k) ops o s = some (s1, c)) (h2 : RoD P X ops l s1 (c :: acc) r) : RoD P X ops (o :: l) s acc r := by
  obtain ⟨k2, h2⟩ := h2
  refine ⟨max k k2, ?_⟩
  show (obind (opStepD P (acall P X (max k k2)) ops o s) fun q => runOpsD P (acall P X (max k k2)) ops l q.1 (q.2 :: acc)) = _
  rw [show opStepD P (acall P X (max k k2)) ops o s = some (s1, c) from opStepD_mono (lv_mono k _ (Nat.le_max_left k k2)).1 h1]
  exact runOpsD_mono (lv_mono k2 _ (Nat.le_max_right k k2)).1 h2
theorem WpD_eq {ops : Array Oper} : ∀ {l : List Oper} {s : St} {sk : List Nat} {acc : List Cl} {K : St → List Cl → Prop}, Left s sk → WpD P X ops l s sk acc K → ∃ s' s2 cls, RoD P X ops l s acc (s', cls) ∧ Eq' s' s2 ∧ K s2 cls := by
  intro l
  induction l with
  | nil => intro s sk acc K _ h; exact ⟨s, s, acc, ⟨0, rfl⟩, Eq'.refl s, h⟩
  | cons o l ih =>
    intro s0 sk0 acc K hl0 h
    obtain ⟨b, s, sk, hw, he, hl, h⟩ := GuW_eq (K := fun b s sk => @Bool.rec (fun _ => Prop)
      (WpD P X ops l (putO s o.dst undef s.H) (addO s sk o.dst) (cl 0 :: acc) K)
      (opK o.op P X (atNext s) (fun v => WpD P X ops l (putO s o.dst v s.H) (remO sk o.dst) (cl 0 :: acc) K) (fun v H => WpD P X ops l (putO s o.dst v ⟨H.objs, H.next, lowMin s.H.low H.low⟩) (remO sk o.dst) (clsAt P o.op s H :: acc) K))
      b) hl0 h
    have fin : ∀ k s1 sk1 c, opStepD P (acall P X k) ops o s = some (s1, c) → Left s1 sk1 → WpD P X ops l s1 sk1 (c :: acc) K → ∃ s' s2 cls, RoD P X ops (o :: l) s0 acc (s', cls) ∧ Eq' s' s2 ∧ K s2 cls := by
      intro k s1 sk1 c hst hl1 hK
      obtain ⟨s', s2, cls, h3, h4, h5⟩ := ih hl1 hK
      have hx := he.opStepD (P := P) (cf := acall P X k) ops o
      rw [hst] at hx
      generalize hz : opStepD P (acall P X k) ops o s0 = z at hx
      cases hx with
      | some _ hx =>
        rename_i s3
        obtain ⟨k2, h3⟩ := h3
        have hy := Eq'.runOpsD (P := P) (cf := acall P X k2) ops l (c :: acc) hx
        rw [h3] at hy
        generalize hq : runOpsD P (acall P X k2) ops l s3 (c :: acc) = q at hy
        cases hy with
        | some _ hy => exact ⟨_, s2, cls, RoD.cons' hz ⟨k2, hq⟩, hy.trans h4, h5⟩
    have hw' : wantA ops s o.guard = some b := by rw [← he.wantA]; exact hw
    cases b with
    | false =>
      refine fin 0 _ _ (cl 0) ?_ (Left.skip hl o.dst) h
      unfold opStepD
      rw [hw']; rfl
    | true =>
      obtain ⟨k, ⟨v, h1, h2⟩ | ⟨v, H, h1, h2⟩⟩ := opK_eq h
      · refine fin k _ _ (cl 0) ?_ (Left.put hl o.dst v s.H) h2
        unfold opStepD
        rw [hw']
        show end3D P o s (opR o.op P (acall P X k) (atNext s)) = _
        rw [h1]; rfl
      · refine fin k _ _ (clsAt P o.op s H) ?_ (Left.put hl o.dst v ⟨H.objs, H.next, lowMin s.H.low H.low⟩) h2
        unfold opStepD
        rw [hw']
        show end3D P o s (opR o.op P (acall P X k) (atNext s)) = _
        rw [h1]; rfl
theorem EvP.alike {c : Code} {s s' : St} {K : Out → Prop} (he : Eq' s s') (h : EvP P X c s' K) : EvP P X c s K := by
  obtain ⟨o, o', h1, h2, h3⟩ := h
  obtain ⟨o2, h4, h5⟩ := Ev.alike he.symm h1
  refine ⟨o2, o', h5, ?_, h3⟩
  have : OEq o2 o := by
    cases h4 with
    | fail => exact .fail
    | norm h => exact .norm h.symm
    | exit i h => exact .exit i h.symm
    | goto l h => exact .goto l h.symm
    | ret h => exact .ret h.symm
  exact this.trans h2
theorem Left.nil (s : St) : Left s [] := fun t h => by cases h
theorem regW_eq {id : Nat} {ops : Array Oper} {d : Bool} {s : St} {K : Out → Prop} (h : regW P X ops d s K) : EvP P X (.region id ops d) s K := by
  cases d with
  | false =>
    obtain ⟨s', s2, h1, h2, h3⟩ := WpOps_eq (l := ops.toList) (s := clear s) (K := fun s => K (.norm s)) (Left.nil _) h
    exact ⟨_, _, Ev.region h1, .norm h2, h3⟩
  | true =>
    cases hst : (plainOps ops && statOk ops) with
    | false =>
      have h' : @Bool.rec (fun _ => Prop) False (WpD P X ops ops.toList (clear s) [] [] (fun s cls => dynOk ops cls = true ∧ K (.norm s))) (plainOps ops && statOk ops) := h
      rw [hst] at h'
      exact h'.elim
    | true =>
      have h' : @Bool.rec (fun _ => Prop) False (WpD P X ops ops.toList (clear s) [] [] (fun s cls => dynOk ops cls = true ∧ K (.norm s))) (plainOps ops && statOk ops) := h
      rw [hst] at h'
      obtain ⟨s', s2, cls, h1, he, h2, h3⟩ := WpD_eq (Left.nil _) h'
      exact ⟨_, _, Ev.region_draw hst h1 h2, .norm he, h3⟩
theorem EvP.mono {c : Code} {s : St} {K K' : Out → Prop} (h : EvP P X c s K) (hk : ∀ o, K o → K' o) : EvP P X c s K' := by
  obtain ⟨o, o', h1, h2, h3⟩ := h
  exact ⟨o, o', h1, h2, hk o' h3⟩
theorem EvP.seq {a b : Code} {s : St} {K : Out → Prop} (h : EvP P X a s (sqE P X b K)) : EvP P X (.seq a b) s K := by
  obtain ⟨o, o1, h1, he, h2⟩ := h
  cases he with
  | fail => exact absurd rfl h1.1
  | norm he =>
    obtain ⟨o', o2, h3, h5, h4⟩ := EvP.alike he (K := K) h2
    exact ⟨o', o2, Ev.seq h1 h3, h5, h4⟩
  | exit i he => exact ⟨_, _, Ev.seq_exit h1, .exit i he, h2⟩
  | goto l he =>
    refine ⟨_, _, ?_, .goto l he, h2⟩
    obtain ⟨n1, k1, h1⟩ := h1
    refine ⟨n1, k1, ?_⟩
    show andThen (exN P X k1 a s) (exN P X k1 b) = _
    rw [h1]; rfl
  | ret he => exact ⟨_, _, Ev.seq_ret h1, .ret he, h2⟩
theorem EvP.block {id : Nat} {a : Code} {s : St} {K : Out → Prop} (h : EvP P X a s (bkW id K)) : EvP P X (.block id a) s K := by
  obtain ⟨o, o', h1, he, h2⟩ := h
  refine ⟨blockO id o, _, ?_, ?_, h2⟩
  · obtain ⟨n1, k1, h1⟩ := h1
    refine ⟨?_, k1, ?_⟩
    · cases o with
      | fail => exact absurd rfl n1
      | exit i s' =>
        show bif' (Nat.beq i id) (Out.norm s') (Out.exit i s') ≠ .fail
        cases Nat.beq i id <;> simp [bif_true, bif_false]
      | _ => intro e; cases e
    · show blockO id (exN P X k1 a s) = _
      rw [h1]
  · cases he with
    | fail => exact .fail
    | norm he => exact .norm he
    | exit i he =>
      show OEq (bif' (Nat.beq i id) _ _) (bif' (Nat.beq i id) _ _)
      cases Nat.beq i id with
      | true => exact .norm he
      | false => exact .exit i he
    | goto l he => exact .goto l he
    | ret he => exact .ret he
theorem Wp.tellsG {c : Code} : ∀ {s : St} {K E G : Out → Prop}, (∀ o, K o → G o) → (∀ o, E o → G o) → Wp P X c s K E → EvP P X c s G := by
  induction c with
  | skip => intro s K E G hK _ h; exact ⟨_, _, Ev.skip, OEq.refl _, hK _ h⟩
  | region id ops d => intro s K E G hK _ h; exact (regW_eq h).mono hK
  | seq a b iha ihb =>
    intro s K E G hK hE h
    replace h : Wp P X a s (@Bool.rec (fun _ => Out → Prop) (sqW (Wp P X b) K E) (sqJ P X b K E) (joinN a b)) (sqE P X b E) := h
    have e1 : ∀ o, sqE P X b E o → sqE P X b G o := by
      intro o ho
      cases o with
      | norm s' => exact EvP.mono (K := E) ho hE
      | fail => exact hE _ ho
      | exit i s' => exact hE _ ho
      | goto l s' => exact hE _ ho
      | ret s' => exact hE _ ho
    refine EvP.seq (iha (G := sqE P X b G) ?_ e1 h)
    cases joinN a b with
    | true =>
      intro o ho
      cases o with
      | norm s' => exact EvP.mono (K := E) ho hE
      | fail => exact hK _ ho
      | exit i s' => exact hK _ ho
      | goto l s' => exact hK _ ho
      | ret s' => exact hK _ ho
    | false =>
      intro o ho
      cases o with
      | norm s' => exact ihb hK hE (s := s') ho
      | fail => exact hK _ ho
      | exit i s' => exact hK _ ho
      | goto l s' => exact hK _ ho
      | ret s' => exact hK _ ho
  | cond x a b iha ihb =>
    intro s K E G hK hE h
    replace h : cdW (vBool (ev s x)) (Wp P X a s K E) (Wp P X b s K E) := h
    rcases cdW_eq h with ⟨hv, h⟩ | ⟨hv, h⟩
    · obtain ⟨o, o', h1, h2, h3⟩ := iha hK hE h; exact ⟨o, o', Ev.cond hv h1, h2, h3⟩
    · obtain ⟨o, o', h1, h2, h3⟩ := ihb hK hE h; exact ⟨o, o', Ev.cond hv h1, h2, h3⟩
  | block id a ih =>
    intro s K E G hK hE h
    exact EvP.block (ih (K := bkW id K) (E := bkW id E) (G := bkW id G) (fun o ho => hK _ ho) (fun o ho => hE _ ho) h)
  | loop a ih => intro s K E G _ hE h; exact EvP.mono (K := E) h hE
  | scope a ih => intro s K E G _ hE h; exact EvP.mono (K := E) h hE
  | label l => intro s K E G hK _ h; exact ⟨_, _, Ev.label, OEq.refl _, hK _ h⟩
  | exit i => intro s K E G hK _ h; exact ⟨_, _, Ev.exit, OEq.refl _, hK _ h⟩
  | goto l => intro s K E G hK _ h; exact ⟨.goto l s, _, ⟨by simp, 0, rfl⟩, OEq.refl _, hK _ h⟩
  | ret => intro s K E G hK _ h; exact ⟨_, _, Ev.ret, OEq.refl _, hK _ h⟩
  | _ => intro s K E G _ _ h; exact h.elim
theorem Wp.tells {c : Code} {s : St} {K : Out → Prop} (h : Wp P X c s K K) : EvP P X c s K := Wp.tellsG (fun _ h => h) (fun _ h => h) h

/-! ### loops -/
/-- what is asked of a round. -/
def roundK {T : Type} (emb : T → St) (Inv : T → Prop) (μ : T → Nat) (n : Nat) (K : Out → Prop) : Out → Prop := fun o => match o with
  | .norm s' => ∃ t', s' = emb t' ∧ Inv t' ∧ μ t' < n
  | .fail => False
  | o => K o
theorem EvP.loop {T : Type} {a : Code} {K : Out → Prop} (emb : T → St) (Inv : T → Prop) (μ : T → Nat) (h : ∀ t, Inv t → EvP P X a (emb t) (roundK emb Inv μ (μ t) K)) :
    ∀ (t : T), Inv t → EvP P X (.loop a) (emb t) K := by
  suffices ∀ n t, μ t < n → Inv t → EvP P X (.loop a) (emb t) K from fun t ht => this (μ t + 1) t (Nat.lt_succ_self _) ht
  intro n
  induction n with
  | zero => intro t hn; omega
  | succ n ih =>
    intro t hn hI
    obtain ⟨o, o', h1, he, h2⟩ := h t hI
    cases he with
    | fail => exact h2.elim
    | norm he =>
      obtain ⟨t', rfl, h3, h4⟩ := h2
      obtain ⟨o', o2, h5, h7, h6⟩ := EvP.alike he (ih t' (by omega) h3)
      exact ⟨o', o2, Ev.loop_on h1 h5, h7, h6⟩
    | exit i he => exact ⟨_, _, Ev.loop_out h1, .exit i he, h2⟩
    | goto l he =>
      refine ⟨_, _, ?_, .goto l he, h2⟩
      obtain ⟨n1, k1, h1⟩ := h1
      refine ⟨n1, k1 + 1, ?_⟩
      show andThen (exN P X (k1 + 1) a (emb t)) _ = _
      rw [exN_le h1 n1 (Nat.le_succ _)]; rfl
    | ret he => exact ⟨_, _, Ev.loop_ret h1, .ret he, h2⟩
theorem CallP.mono {g : FuncId} {args : List Value} {H : AHeap} {K K' : Value → AHeap → Prop} (h : CallP P X g args H K) (hk : ∀ v H', K v H' → K' v H') : CallP P X g args H K' := by
  obtain ⟨v, H', h1, h2⟩ := h
  exact ⟨v, H', h1, hk _ _ h2⟩

/-! ### a call of a function that has a body -/
noncomputable def endK (P : Program) (rs : List ResultVar) (K : Value → AHeap → Prop) : Out → Prop := fun o =>
  @Out.rec (fun _ => Prop) False (fun s => s.df = [] ∧ @Option.rec (List Value) (fun _ => Prop) False (fun vs => K (tupled vs) s.H) (aresults P s rs)) (fun _ _ => False) (fun _ _ => False)
    (fun s => s.df = [] ∧ @Option.rec (List Value) (fun _ => Prop) False (fun vs => K (tupled vs) s.H) (aresults P s rs)) o
noncomputable def fillTop (args : List Value) (n : Nat) : Tr Value := Tr.ofL top (app args (repN top (Nat.sub n (len args)))) 0 .nil
theorem fill_get (args : List Value) (n k : Nat) : (Tr.ofL top args 0 .nil).get top k = (fillTop args n).get top k := by
  unfold fillTop
  rw [Tr.get_ofL, Tr.get_ofL, app_eq]
  simp only [Nat.zero_le, true_and, Nat.zero_add, Nat.sub_zero]
  have hrep : ∀ m, (repN top m).length = m := by intro m; induction m with | zero => rfl | succ m ih => exact congrArg Nat.succ ih
  have hget : ∀ m j, (repN top m).getD j top = top := by
    intro m
    induction m with
    | zero => intro j; rfl
    | succ m ih => intro j; cases j with
      | zero => rfl
      | succ j => exact ih j
  by_cases h1 : k < args.length
  · rw [if_pos h1, if_pos (by simp; omega)]
    simp [List.getD_eq_getElem?_getD, List.getElem?_append_left h1]
  · rw [if_neg h1]
    split
    · rw [List.getD_eq_getElem?_getD, List.getElem?_append_right (by omega), ← List.getD_eq_getElem?_getD, hget, Tr.get_nil]
    · rfl
theorem CallP.body {g : FuncId} {fn : Func} {c : Code} {args : List Value} {H : AHeap} {K : Value → AHeap → Prop} {nl : Nat} (hor : X.o g args H = none) (hg : nth P.funcs.toList g = some fn) (hb : fn.body = some c) (hl : Nat.ble (len args) fn.ntmps = true) (hn : crossFn P g = nl)
    (h : EvP P X c ⟨nl, fn.ntmps, [], fillTop args fn.ntmps, [], H⟩ (endK P fn.results.toList K)) : CallP P X g args H K := by
  obtain ⟨o, o1, h1, h0, h2⟩ := h
  subst hn
  have he : Eq' ⟨crossFn P g, fn.ntmps, [], fillTop args fn.ntmps, [], H⟩ ⟨crossFn P g, fn.ntmps, [], Tr.ofL top args 0 .nil, [], H⟩ := ⟨rfl, rfl, rfl, rfl, fun k => by
    show bif' (bitOf (crossFn P g) k) ((fillTop args fn.ntmps).get top k) _ = bif' (bitOf (crossFn P g) k) ((Tr.ofL top args 0 .nil).get top k) _
    rw [fill_get args fn.ntmps k]⟩
  obtain ⟨o', h3, h4⟩ := Ev.alike he h1
  have fin : ∀ s s' : St, Eq' s' s → endS o' = some s' → (s.df = [] ∧ @Option.rec (List Value) (fun _ => Prop) False (fun vs => K (tupled vs) s.H) (aresults P s fn.results.toList)) → CallP P X g args H K := by
    intro s s' hs ho ⟨hd, hr⟩
    rw [← hs.aresults] at hr
    cases ha : aresults P s' fn.results.toList with
    | none => rw [ha] at hr; exact hr.elim
    | some vs =>
      rw [ha] at hr
      refine ⟨_, _, Ca.body hor hg hb hl h4 ho ?_ ha, ?_⟩
      · rw [hs.df, hd]; rfl
      · rw [hs.H]; exact hr
  have hsym : OEq o' o := by
    cases h3 with
    | fail => exact .fail
    | norm h => exact .norm h.symm
    | exit i h => exact .exit i h.symm
    | goto l h => exact .goto l h.symm
    | ret h => exact .ret h.symm
  have h5 := hsym.trans h0
  cases h5 with
  | fail => exact h2.elim
  | norm hs => exact fin _ _ hs rfl h2
  | exit i hs => exact h2.elim
  | goto l hs => exact h2.elim
  | ret hs => exact fin _ _ hs rfl h2
/-! ### the steps of a proof -/
theorem sqE_norm {b : Code} {K : Out → Prop} {s : St} : sqE P X b K (.norm s) = EvP P X b s K := rfl
theorem sqE_exit {b : Code} {K : Out → Prop} {s : St} {i : Nat} : sqE P X b K (.exit i s) = K (.exit i s) := rfl
theorem sqE_ret {b : Code} {K : Out → Prop} {s : St} : sqE P X b K (.ret s) = K (.ret s) := rfl
theorem sqE_goto {b : Code} {K : Out → Prop} {s : St} {l : Nat} : sqE P X b K (.goto l s) = K (.goto l s) := rfl
theorem bkW_norm {K : Out → Prop} {s : St} {i : Nat} : bkW i K (.norm s) = K (.norm s) := rfl
theorem bkW_ret {K : Out → Prop} {s : St} {i : Nat} : bkW i K (.ret s) = K (.ret s) := rfl
theorem bkW_goto {K : Out → Prop} {s : St} {i l : Nat} : bkW i K (.goto l s) = K (.goto l s) := rfl
theorem bkW_exit {K : Out → Prop} {s : St} {i : Nat} : bkW i K (.exit i s) = K (.norm s) := by
  show K (bif' (Nat.beq i i) _ _) = _
  rw [show Nat.beq i i = true from Nat.beq_refl i]; rfl
theorem bkW_exit_ne {K : Out → Prop} {s : St} {i j : Nat} (h : j ≠ i) : bkW i K (.exit j s) = K (.exit j s) := by
  show K (bif' (Nat.beq j i) _ _) = _
  rw [show Nat.beq j i = false from by rw [← Bool.not_eq_true]; exact fun g => h (Nat.eq_of_beq_eq_true g)]; rfl
theorem cdW_true {A B : Prop} : cdW (some true) A B = A := rfl
theorem cdW_false {A B : Prop} : cdW (some false) A B = B := rfl
theorem cdW_ite {b : Bool} {A B : Prop} : cdW (some b) A B ↔ ((b = true → A) ∧ (b = false → B)) := by
  cases b with
  | true => exact ⟨fun h => ⟨fun _ => h, fun h => by cases h⟩, fun h => h.1 rfl⟩
  | false => exact ⟨fun h => ⟨(fun h => by cases h), fun _ => h⟩, fun h => h.2 rfl⟩
theorem PU_some {v : Value} {K : Value → Prop} : PU (some v) K = K v := rfl
theorem ME_some {v : Value} {H : AHeap} {K : Value → AHeap → Prop} : ME (some (v, H)) K = K v H := rfl
theorem CV_some {v : Value} {q : Option (Value × AHeap)} {Kp : Value → Prop} {Km : Value → AHeap → Prop} : CV (some v) q Kp Km = Kp v := rfl
theorem CV_none {q : Option (Value × AHeap)} {Kp : Value → Prop} {Km : Value → AHeap → Prop} : CV none q Kp Km = ME q Km := rfl
end mem
end Go.Ae
