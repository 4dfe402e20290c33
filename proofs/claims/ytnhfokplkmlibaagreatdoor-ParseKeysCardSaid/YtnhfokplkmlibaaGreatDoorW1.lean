/-
  What the second machine comes to, told by a predicate over where it ends. No condition.
-/
import Derived.Test.YtnhfokplkmlibaaGreatDoorAed
set_option linter.unusedVariables false
set_option linter.unusedSimpArgs false
namespace Go.Ae

/-! ### frames that read alike -/
structure Eq' (s s' : St) : Prop where
  nl : s.nl = s'.nl
  nt : s.nt = s'.nt
  df : s.df = s'.df
  H : s.H = s'.H
  lk : ∀ t, lookS s t = lookS s' t
inductive OEq : Out → Out → Prop where
  | fail : OEq .fail .fail
  | norm {s s' : St} (h : Eq' s s') : OEq (.norm s) (.norm s')
  | exit (i : Nat) {s s' : St} (h : Eq' s s') : OEq (.exit i s) (.exit i s')
  | goto (l : Nat) {s s' : St} (h : Eq' s s') : OEq (.goto l s) (.goto l s')
  | ret {s s' : St} (h : Eq' s s') : OEq (.ret s) (.ret s')
theorem Eq'.look {s s' : St} (h : Eq' s s') : lookS s = lookS s' := funext h.lk
theorem Eq'.ev {s s' : St} (h : Eq' s s') : ev s = ev s' := by
  funext x
  cases x with
  | tmp t => exact congrFun h.look t
  | _ => rfl
theorem OEq.refl (o : Out) : OEq o o := by
  cases o with
  | fail => exact .fail
  | norm s => exact .norm ⟨rfl, rfl, rfl, rfl, fun _ => rfl⟩
  | exit i s => exact .exit i ⟨rfl, rfl, rfl, rfl, fun _ => rfl⟩
  | goto l s => exact .goto l ⟨rfl, rfl, rfl, rfl, fun _ => rfl⟩
  | ret s => exact .ret ⟨rfl, rfl, rfl, rfl, fun _ => rfl⟩
theorem Eq'.evo {s s' : St} (h : Eq' s s') : evo s = evo s' := by
  funext x
  cases x with
  | none => rfl
  | some x => exact congrArg some (congrFun h.ev x)
theorem Eq'.evp {s s' : St} (h : Eq' s s') : evp s = evp s' := by
  funext ps
  unfold Go.Ae.evp
  rw [h.ev]
theorem look_cons (d : Nat) (v : Value) (l : List (Nat × Value)) (t : Nat) : Go.Ae.look ((d, v) :: l) t = if d = t then v else Go.Ae.look l t := by
  show bif' (Nat.beq d t) v (Go.Ae.look l t) = _
  by_cases e : d = t
  · subst e; rw [show Nat.beq d d = true from Nat.beq_refl d]; simp [bif_true]
  · rw [show Nat.beq d t = false from by rw [← Bool.not_eq_true]; exact fun g => e (Nat.eq_of_beq_eq_true g), if_neg e]; rfl
/-- is a slot written at all? -/
noncomputable def wr (s : St) (d : Nat) : Bool := bif' (bitOf s.nl d) (Nat.ble (Nat.succ d) s.nt) true
theorem look_putS (s : St) (d : Nat) (v : Value) (H : AHeap) (t : Nat) : lookS (putS s d v H) t = if d = t ∧ wr s d = true then v else lookS s t := by
  by_cases hb : bitOf s.nl d = true
  · have e : putS s d v H = ⟨s.nl, s.nt, s.reg, bif' (Nat.ble (Nat.succ d) s.nt) (s.tm.set top d v) s.tm, s.df, H⟩ := by unfold putS; rw [hb]; rfl
    have ew : wr s d = Nat.ble (Nat.succ d) s.nt := by unfold wr; rw [hb]; rfl
    rw [e, ew]
    show bif' (bitOf s.nl t) ((bif' (Nat.ble (Nat.succ d) s.nt) (s.tm.set top d v) s.tm).get top t) (Go.Ae.look s.reg t) = if d = t ∧ Nat.ble (Nat.succ d) s.nt = true then v else bif' (bitOf s.nl t) (s.tm.get top t) (Go.Ae.look s.reg t)
    by_cases hn : Nat.ble (Nat.succ d) s.nt = true
    · rw [hn]
      show bif' (bitOf s.nl t) ((s.tm.set top d v).get top t) (Go.Ae.look s.reg t) = _
      rw [Tr.get_set]
      by_cases e : d = t
      · subst e
        rw [if_pos rfl, if_pos ⟨rfl, rfl⟩, hb]; rfl
      · rw [if_neg (fun h => e h.symm), if_neg (fun h => e h.1)]
    · rw [Bool.not_eq_true] at hn
      rw [hn, if_neg (fun h => by cases h.2)]; rfl
  · rw [Bool.not_eq_true] at hb
    have e : putS s d v H = ⟨s.nl, s.nt, (d, v) :: s.reg, s.tm, s.df, H⟩ := by unfold putS; rw [hb]; rfl
    have ew : wr s d = true := by unfold wr; rw [hb]; rfl
    rw [e, ew]
    show bif' (bitOf s.nl t) (s.tm.get top t) (Go.Ae.look ((d, v) :: s.reg) t) = if d = t ∧ true = true then v else bif' (bitOf s.nl t) (s.tm.get top t) (Go.Ae.look s.reg t)
    rw [look_cons]
    by_cases e : d = t
    · subst e
      rw [if_pos rfl, if_pos ⟨rfl, rfl⟩, hb]; rfl
    · rw [if_neg e, if_neg (fun h => e h.1)]
theorem putS_nl (s : St) (d : Nat) (v : Value) (H : AHeap) : (putS s d v H).nl = s.nl ∧ (putS s d v H).nt = s.nt ∧ (putS s d v H).df = s.df ∧ (putS s d v H).H = H := by
  unfold putS
  cases bitOf s.nl d <;> exact ⟨rfl, rfl, rfl, rfl⟩
theorem Eq'.putS {s s' : St} (h : Eq' s s') (d : Nat) (v : Value) (H : AHeap) : Eq' (putS s d v H) (putS s' d v H) := by
  obtain ⟨a1, a2, a3, a4⟩ := putS_nl s d v H
  obtain ⟨b1, b2, b3, b4⟩ := putS_nl s' d v H
  refine ⟨a1.trans (h.nl.trans b1.symm), a2.trans (h.nt.trans b2.symm), a3.trans (h.df.trans b3.symm), a4.trans b4.symm, fun t => ?_⟩
  rw [look_putS, look_putS, h.lk]
  have : wr s d = wr s' d := by unfold wr; rw [h.nl, h.nt]
  rw [this]
/-- what a slot holds anyway. -/
theorem Eq'.same (s : St) (t : Nat) : Eq' s (Go.Ae.putS s t (lookS s t) s.H) := by
  obtain ⟨b1, b2, b3, b4⟩ := putS_nl s t (lookS s t) s.H
  refine ⟨b1.symm, b2.symm, b3.symm, b4.symm, fun u => ?_⟩
  rw [look_putS]
  split
  · next h => rw [h.1]
  · rfl
theorem Eq'.putO {s s' : St} (h : Eq' s s') (d : Option Nat) (v : Value) (H : AHeap) : Eq' (putO s d v H) (putO s' d v H) := by
  cases d with
  | none => exact ⟨h.nl, h.nt, h.df, rfl, h.lk⟩
  | some d => exact h.putS d v H
theorem look_clear (s : St) (t : Nat) : lookS (clear s) t = bif' (bitOf s.nl t) (lookS s t) top := by
  unfold lookS
  show bif' (bitOf s.nl t) (s.tm.get top t) (Go.Ae.look [] t) = _
  cases bitOf s.nl t <;> rfl
theorem Eq'.clear {s s' : St} (h : Eq' s s') : Eq' (clear s) (clear s') := ⟨h.nl, h.nt, h.df, h.H, fun t => by rw [look_clear, look_clear, h.nl, h.lk]⟩
theorem Eq'.atNext {s s' : St} (h : Eq' s s') : Eq' (atNext s) (atNext s') := ⟨h.nl, h.nt, h.df, by show AHeap.mk _ _ _ = AHeap.mk _ _ _; rw [h.H], h.lk⟩
theorem Eq'.heap {s s' : St} (h : Eq' s s') (d : List Deferred) (H : AHeap) : Eq' ⟨s.nl, s.nt, s.reg, s.tm, d, H⟩ ⟨s'.nl, s'.nt, s'.reg, s'.tm, d, H⟩ := ⟨h.nl, h.nt, rfl, rfl, h.lk⟩
theorem Eq'.refl (s : St) : Eq' s s := ⟨rfl, rfl, rfl, rfl, fun _ => rfl⟩
theorem Eq'.symm {s s' : St} (h : Eq' s s') : Eq' s' s := ⟨h.nl.symm, h.nt.symm, h.df.symm, h.H.symm, fun t => (h.lk t).symm⟩
theorem Eq'.trans {s s' s2 : St} (h : Eq' s s') (h2 : Eq' s' s2) : Eq' s s2 := ⟨h.nl.trans h2.nl, h.nt.trans h2.nt, h.df.trans h2.df, h.H.trans h2.H, fun t => (h.lk t).trans (h2.lk t)⟩

section mem
variable {P : Program} {cf : CallF}
theorem Eq'.calleeOf {s s' : St} (h : Eq' s s') (c : Callee) : calleeOf c P s = calleeOf c P s' := by
  cases c with
  | value f => show (obind (vFn (Go.Ae.ev s f)) _) = _; rw [h.ev]; rfl
  | invoke r n => show (obind (vIface (Go.Ae.ev s r)) _) = _; rw [h.ev]; rfl
  | builtin b => rfl
theorem Eq'.opR {s s' : St} (h : Eq' s s') (o : Op) : opR o P cf s = opR o P cf s' := by
  have e := h.ev
  have e1 := h.evo
  have e2 := h.evp
  have e3 := h.H
  cases o with
  | call c =>
    show callR c P cf s = callR c P cf s'
    unfold callR
    rw [h.calleeOf, e, e3]
  | move x => show R3.pur (Go.Ae.ev s x) = _; rw [e]; rfl
  | assign x => show R3.pur (Go.Ae.ev s x) = _; rw [e]; rfl
  | pick c a b => show rp (apick (Go.Ae.ev s c) (Go.Ae.ev s a) (Go.Ae.ev s b)) = _; rw [e]; rfl
  | alloc t => show rm (aalloc P t s.H) = _; rw [e3]; rfl
  | box t x => show rm (abox t (Go.Ae.ev s x) s.H) = _; rw [e, e3]; rfl
  | build t ps => show rp (abuild P t (Go.Ae.evp s ps)) = _; rw [e2]; rfl
  | buildSlice t n ps => show rm (abuildSl P t n (Go.Ae.evp s ps) s.H) = _; rw [e2, e3]; rfl
  | insert t m k v => show rm (aupdate P t (Go.Ae.ev s m) (Go.Ae.ev s k) (Go.Ae.ev s v) s.H) = _; rw [e, e3]; rfl
  | load t x => show rm (aload P t (Go.Ae.ev s x) s.H) = _; rw [e, e3]; rfl
  | store t x v => show rm (astore P t (Go.Ae.ev s x) (Go.Ae.ev s v) s.H) = _; rw [e, e3]; rfl
  | nilCheck x => show rp (anil (Go.Ae.ev s x)) = _; rw [e]; rfl
  | binOp op t x y u => show rp (abin P op t x y (Go.Ae.ev s x) (Go.Ae.ev s y)) = _; rw [e]; rfl
  | unOp op t x => show rp (pureSem (Op.unary op (Go.Ae.ev s x))) = _; rw [e]; rfl
  | convert a b x => show rpm (aconv P a b (Go.Ae.ev s x)) (rm (aconv1 P a b (Go.Ae.ev s x) s.H)) = _; rw [e, e3]; rfl
  | makeInterface t x => show rp (amkI P t (Go.Ae.ev s x)) = _; rw [e]; rfl
  | makeFunc f fi ca => show rp (some (.func f ⟨mp (Go.Ae.ev s) fi.toList⟩ ⟨mp (Go.Ae.ev s) ca.toList⟩)) = _; rw [e]; rfl
  | makeMap t r => show rm (amakeMap P t (Go.Ae.evo s r) s.H) = _; rw [e1, e3]; rfl
  | makeSlice t l c => show rm (amakeSlice P t (Go.Ae.ev s l) (Go.Ae.ev s c) s.H) = _; rw [e, e3]; rfl
  | slice t x lo hi mx => show rp (aslice P t (Go.Ae.ev s x) (Go.Ae.evo s lo) (Go.Ae.evo s hi) (Go.Ae.evo s mx)) = _; rw [e, e1]; rfl
  | fieldAddr t x f => show rp (afieldAddr P t (Go.Ae.ev s x) f) = _; rw [e]; rfl
  | field t x f => show rp (afield P t (Go.Ae.ev s x) f) = _; rw [e]; rfl
  | indexAddr t x i => show rp (aindexAddr P t (Go.Ae.ev s x) (Go.Ae.ev s i)) = _; rw [e]; rfl
  | index t x i => show rp (aindex P t (Go.Ae.ev s x) (Go.Ae.ev s i)) = _; rw [e]; rfl
  | lookup t x k ok => show rm (alookup P t (Go.Ae.ev s x) (Go.Ae.ev s k) ok s.H) = _; rw [e, e3]; rfl
  | mapUpdate t m k v => show rm (aupdate P t (Go.Ae.ev s m) (Go.Ae.ev s k) (Go.Ae.ev s v) s.H) = _; rw [e, e3]; rfl
  | range t x => show rm (arange P t (Go.Ae.ev s x) s.H) = _; rw [e, e3]; rfl
  | next x b => show rm (anext (Go.Ae.ev s x) b s.H) = _; rw [e, e3]; rfl
  | extract t i => show rp (aextract (Go.Ae.ev s t) i) = _; rw [e]; rfl
  | _ => rfl
theorem Eq'.deferD {s s' : St} (h : Eq' s s') (c : Call) : deferD c P s = deferD c P s' := by
  unfold Go.Ae.deferD
  rw [h.ev]
inductive SEq : Option St → Option St → Prop where
  | none : SEq none none
  | some {s s' : St} (h : Eq' s s') : SEq (some s) (some s')
theorem Eq'.wantA {s s' : St} (h : Eq' s s') (ops : Array Oper) (g : Option (Nat × Bool)) : wantA ops s g = wantA ops s' g := by
  cases g with
  | none => rfl
  | some g =>
    show wantG ops s g = wantG ops s' g
    unfold wantG yieldA
    rw [h.look]
theorem Eq'.end3 {s s' : St} (h : Eq' s s') (o : Oper) (r : R3) : SEq (end3 o s r) (end3 o s' r) := by
  cases r with
  | fail => exact .none
  | pur v => show SEq (Option.some (Go.Ae.putO s o.dst v s.H)) (Option.some (Go.Ae.putO s' o.dst v s'.H)); rw [h.H]; exact .some (h.putO ..)
  | mem v H => exact .some (h.putO ..)
theorem Eq'.doOp {s s' : St} (h : Eq' s s') (o : Oper) : SEq (doOp P cf o s) (doOp P cf o s') := by
  unfold Go.Ae.doOp
  cases deferC o.op with
  | none =>
    show SEq (Go.Ae.end3 o s (Go.Ae.opR o.op P cf s)) (Go.Ae.end3 o s' (Go.Ae.opR o.op P cf s'))
    rw [h.opR]; exact h.end3 ..
  | some c =>
    show SEq (obind (Go.Ae.deferD c P s) _) (obind (Go.Ae.deferD c P s') _)
    rw [h.deferD]
    cases Go.Ae.deferD c P s' with
    | none => exact .none
    | some d =>
      show SEq (Option.some (Go.Ae.putO ⟨s.nl, s.nt, s.reg, s.tm, d :: s.df, s.H⟩ o.dst undef s.H)) (Option.some (Go.Ae.putO ⟨s'.nl, s'.nt, s'.reg, s'.tm, d :: s'.df, s'.H⟩ o.dst undef s'.H))
      rw [h.df, h.H]
      exact .some ((h.heap _ _).putO ..)
theorem Eq'.opStep {s s' : St} (h : Eq' s s') (ops : Array Oper) (o : Oper) : SEq (opStep P cf ops o s) (opStep P cf ops o s') := by
  unfold Go.Ae.opStep
  rw [h.wantA]
  cases Go.Ae.wantA ops s' o.guard with
  | none => exact .none
  | some b => cases b with
    | true => exact h.doOp o
    | false => show SEq (Option.some (Go.Ae.putO s o.dst undef s.H)) (Option.some (Go.Ae.putO s' o.dst undef s'.H)); rw [h.H]; exact .some (h.putO ..)
theorem Eq'.runOps (ops : Array Oper) : ∀ (l : List Oper) {s s' : St}, Eq' s s' → SEq (runOps P cf ops l s) (runOps P cf ops l s') := by
  intro l
  induction l with
  | nil => intro s s' h; exact .some h
  | cons o l ih =>
    intro s s' h
    show SEq (obind (Go.Ae.opStep P cf ops o s) (Go.Ae.runOps P cf ops l)) (obind (Go.Ae.opStep P cf ops o s') (Go.Ae.runOps P cf ops l))
    have := h.opStep (P := P) (cf := cf) ops o
    generalize Go.Ae.opStep P cf ops o s = a at this
    generalize Go.Ae.opStep P cf ops o s' = b at this
    cases this with
    | none => exact .none
    | some h1 => exact ih h1
inductive DEq {α : Type} : Option (St × α) → Option (St × α) → Prop where
  | none : DEq none none
  | some {s s' : St} (x : α) (h : Eq' s s') : DEq (some (s, x)) (some (s', x))
theorem Eq'.clsAt {s s' : St} (h : Eq' s s') (o : Op) (H : AHeap) : clsAt P o s H = clsAt P o s' H := by
  unfold Go.Ae.clsAt clsLoad
  rw [h.ev, h.H]
theorem Eq'.opStepD {s s' : St} (h : Eq' s s') (ops : Array Oper) (o : Oper) : DEq (opStepD P cf ops o s) (opStepD P cf ops o s') := by
  unfold Go.Ae.opStepD
  rw [h.wantA]
  cases Go.Ae.wantA ops s' o.guard with
  | none => exact .none
  | some b => cases b with
    | true =>
      show DEq (end3D P o s (Go.Ae.opR o.op P cf (Go.Ae.atNext s))) (end3D P o s' (Go.Ae.opR o.op P cf (Go.Ae.atNext s')))
      rw [h.atNext.opR]
      cases Go.Ae.opR o.op P cf (Go.Ae.atNext s') with
      | fail => exact .none
      | pur v => show DEq (Option.some (Go.Ae.putO s o.dst v s.H, cl 0)) (Option.some (Go.Ae.putO s' o.dst v s'.H, cl 0)); rw [h.H]; exact .some _ (h.putO ..)
      | mem v H =>
        show DEq (Option.some (Go.Ae.putO s o.dst v ⟨H.objs, H.next, lowMin s.H.low H.low⟩, Go.Ae.clsAt P o.op s H)) (Option.some (Go.Ae.putO s' o.dst v ⟨H.objs, H.next, lowMin s'.H.low H.low⟩, Go.Ae.clsAt P o.op s' H))
        rw [h.clsAt, h.H]; exact .some _ (h.putO ..)
    | false => show DEq (Option.some (Go.Ae.putO s o.dst undef s.H, cl 0)) (Option.some (Go.Ae.putO s' o.dst undef s'.H, cl 0)); rw [h.H]; exact .some _ (h.putO ..)
theorem Eq'.runOpsD (ops : Array Oper) : ∀ (l : List Oper) {s s' : St} (acc : List Cl), Eq' s s' → DEq (runOpsD P cf ops l s acc) (runOpsD P cf ops l s' acc) := by
  intro l
  induction l with
  | nil => intro s s' acc h; exact .some _ h
  | cons o l ih =>
    intro s s' acc h
    show DEq (obind (Go.Ae.opStepD P cf ops o s) fun q => Go.Ae.runOpsD P cf ops l q.1 (q.2 :: acc)) (obind (Go.Ae.opStepD P cf ops o s') fun q => Go.Ae.runOpsD P cf ops l q.1 (q.2 :: acc))
    have := h.opStepD (P := P) (cf := cf) ops o
    generalize Go.Ae.opStepD P cf ops o s = a at this
    generalize Go.Ae.opStepD P cf ops o s' = b at this
    cases this with
    | none => exact .none
    | some x h1 => exact ih _ h1
theorem Eq'.region {s s' : St} (h : Eq' s s') (ops : Array Oper) (d : Bool) : OEq (region P cf ops d s) (region P cf ops d s') := by
  cases d with
  | false =>
    show OEq (normO (Go.Ae.runOps P cf ops ops.toList (Go.Ae.clear s))) (normO (Go.Ae.runOps P cf ops ops.toList (Go.Ae.clear s')))
    have := Eq'.runOps (P := P) (cf := cf) ops ops.toList h.clear
    generalize Go.Ae.runOps P cf ops ops.toList (Go.Ae.clear s) = a at this
    generalize Go.Ae.runOps P cf ops ops.toList (Go.Ae.clear s') = b at this
    cases this with
    | none => exact .fail
    | some h1 => exact .norm h1
  | true =>
    show OEq (bif' (plainOps ops && statOk ops) (drawnO ops (Go.Ae.runOpsD P cf ops ops.toList (Go.Ae.clear s) [])) .fail) (bif' (plainOps ops && statOk ops) (drawnO ops (Go.Ae.runOpsD P cf ops ops.toList (Go.Ae.clear s') [])) .fail)
    cases (plainOps ops && statOk ops) with
    | false => exact .fail
    | true =>
      show OEq (drawnO ops (Go.Ae.runOpsD P cf ops ops.toList (Go.Ae.clear s) [])) (drawnO ops (Go.Ae.runOpsD P cf ops ops.toList (Go.Ae.clear s') []))
      have := Eq'.runOpsD (P := P) (cf := cf) ops ops.toList [] h.clear
      generalize Go.Ae.runOpsD P cf ops ops.toList (Go.Ae.clear s) [] = a at this
      generalize Go.Ae.runOpsD P cf ops ops.toList (Go.Ae.clear s') [] = b at this
      cases this with
      | none => exact .fail
      | some x h1 =>
        show OEq (bif' (dynOk ops x) (.norm _) .fail) (bif' (dynOk ops x) (.norm _) .fail)
        cases dynOk ops x with
        | true => exact .norm h1
        | false => exact .fail
theorem OEq.trans {a b c : Out} (h : OEq a b) (h2 : OEq b c) : OEq a c := by
  cases h with
  | fail => exact h2
  | norm h => cases h2 with | norm h2 => exact .norm (h.trans h2)
  | exit i h => cases h2 with | exit _ h2 => exact .exit i (h.trans h2)
  | goto l h => cases h2 with | goto _ h2 => exact .goto l (h.trans h2)
  | ret h => cases h2 with | ret h2 => exact .ret (h.trans h2)
theorem loopN_eq {f : St → Out} (hf : ∀ s s', Eq' s s' → OEq (f s) (f s')) : ∀ n s s', Eq' s s' → OEq (loopN n f s) (loopN n f s') := by
  intro n
  induction n with
  | zero => intro s s' _; exact .fail
  | succ n ih =>
    intro s s' h
    show OEq (andThen (f s) (loopN n f)) (andThen (f s') (loopN n f))
    have := hf s s' h
    generalize f s = a at this
    generalize f s' = b at this
    cases this with
    | fail => exact .fail
    | norm h1 => exact ih _ _ h1
    | exit i h1 => exact .exit i h1
    | goto l h1 => exact .goto l h1
    | ret h1 => exact .ret h1
theorem scopeO_eq {cx : Code → St → Out} (hx : ∀ c s s', Eq' s s' → OEq (cx c s) (cx c s')) (body : Code) : ∀ n o o', OEq o o' → OEq (scopeO cx n body o) (scopeO cx n body o') := by
  intro n
  induction n with
  | zero => intro o o' _; exact .fail
  | succ n ih =>
    intro o o' h
    cases h with
    | fail => exact .fail
    | norm h1 => exact .norm h1
    | exit i h1 => exact .exit i h1
    | ret h1 => exact .ret h1
    | goto l h1 =>
      rename_i s s'
      show OEq (@Option.rec Code (fun _ => Out) (.goto l s) (fun rest => scopeO cx n body (cx rest s)) (findLabel body l)) (@Option.rec Code (fun _ => Out) (.goto l s') (fun rest => scopeO cx n body (cx rest s')) (findLabel body l))
      cases findLabel body l with
      | none => exact .goto l h1
      | some rest => exact ih _ _ (hx rest _ _ h1)
theorem exec_eq {cx : Code → St → Out} (hx : ∀ c s s', Eq' s s' → OEq (cx c s) (cx c s')) (n : Nat) (c : Code) : ∀ s s', Eq' s s' → OEq (exec P cf cx n c s) (exec P cf cx n c s') := by
  induction c with
  | skip => intro s s' h; exact .norm h
  | region id ops d => intro s s' h; exact h.region ops d
  | seq a b iha ihb =>
    intro s s' h
    show OEq (andThen (exec P cf cx n a s) (exec P cf cx n b)) (andThen (exec P cf cx n a s') (exec P cf cx n b))
    have := iha s s' h
    generalize exec P cf cx n a s = x at this
    generalize exec P cf cx n a s' = y at this
    cases this with
    | fail => exact .fail
    | norm h1 => exact ihb _ _ h1
    | exit i h1 => exact .exit i h1
    | goto l h1 => exact .goto l h1
    | ret h1 => exact .ret h1
  | cond x a b iha ihb =>
    intro s s' h
    show OEq (condO (vBool (ev s x)) (exec P cf cx n a s) (exec P cf cx n b s)) (condO (vBool (ev s' x)) (exec P cf cx n a s') (exec P cf cx n b s'))
    rw [h.ev]
    cases vBool (ev s' x) with
    | none => exact .fail
    | some t => cases t with
      | true => exact iha _ _ h
      | false => exact ihb _ _ h
  | block id a ih =>
    intro s s' h
    show OEq (blockO id (exec P cf cx n a s)) (blockO id (exec P cf cx n a s'))
    have := ih s s' h
    generalize exec P cf cx n a s = x at this
    generalize exec P cf cx n a s' = y at this
    cases this with
    | fail => exact .fail
    | norm h1 => exact .norm h1
    | exit i h1 =>
      show OEq (bif' (Nat.beq i id) _ _) (bif' (Nat.beq i id) _ _)
      cases Nat.beq i id with
      | true => exact .norm h1
      | false => exact .exit i h1
    | goto l h1 => exact .goto l h1
    | ret h1 => exact .ret h1
  | loop a ih => intro s s' h; exact loopN_eq ih n s s' h
  | scope a ih => intro s s' h; exact scopeO_eq hx a n _ _ (ih s s' h)
  | label l => intro s s' h; exact .norm h
  | exit i => intro s s' h; exact .exit i h
  | goto l => intro s s' h; exact .goto l h
  | ret => intro s s' h; exact .ret h
  | _ => intro s s' h; exact .fail
variable {X : Xt}
theorem lv_eq (n : Nat) : ∀ c s s', Eq' s s' → OEq ((lv P X n).cx c s) ((lv P X n).cx c s') := by
  induction n with
  | zero => intro c s s' _; exact .fail
  | succ n ih => intro c s s' h; exact exec_eq ih n c s s' h
theorem Ev.alike {c : Code} {s s' : St} {o : Out} (he : Eq' s s') (h : Ev P X c s o) : ∃ o', OEq o o' ∧ Ev P X c s' o' := by
  obtain ⟨hne, k, hk⟩ := h
  have := exec_eq (P := P) (cf := (lv P X k).ca) (lv_eq (P := P) (X := X) k) k c s s' he
  refine ⟨exN P X k c s', by rw [← hk]; exact this, ?_, k, rfl⟩
  intro hf
  replace this : OEq (exN P X k c s) (exN P X k c s') := this
  rw [hf, hk] at this
  cases this
  exact hne rfl
theorem Eq'.aresults {s s' : St} (h : Eq' s s') (l : List ResultVar) : aresults P s l = aresults P s' l := by
  induction l with
  | nil => rfl
  | cons r l ih =>
    show (obind (aresult P s r) fun v => obind (Go.Ae.aresults P s l) fun vs => some (v :: vs)) = (obind (aresult P s' r) fun v => obind (Go.Ae.aresults P s' l) fun vs => some (v :: vs))
    rw [ih]
    have : aresult P s r = aresult P s' r := by
      cases r with
      | tmp t => show some (lookS s t) = some (lookS s' t); rw [h.look]
      | cell a t => show (obind (aload P t (lookS s a) s.H) _) = (obind (aload P t (lookS s' a) s'.H) _); rw [h.look, h.H]
    rw [this]
end mem
end Go.Ae
