/-
  SessionNobody returns true, whatever text and number it is given, in every world in which some of Go's tables lie as the text lays them. No other condition.
-/
import Derived.Test.YtnaekhjaflfbjaaGreatDoorRows
import Derived.Test.YtnaekhjaflfbjaaGreatDoorAed
set_option linter.unusedVariables false
set_option maxRecDepth 100000
namespace Go.Proofs.YtnaekhjaflfbjaaGreatDoor
open Go.Ae

/-- functions without a Go body, by numbers. -/
noncomputable def X : Xt := ⟨fun g => bif' (Nat.beq g 432) 1 (bif' (Nat.beq g 403) 3 0), fun _ _ _ => none⟩
theorem fns : all' (fnOk 6) Tryz.prog.funcs.toList = true := by kernel_rfl
theorem xs : XOk Tryz.prog X := by
  refine XOk.of fun g => ?_
  by_cases h1 : g = 432
  · subst h1
    exact .inr (XAt.same Tryz.func432 (by kernel_rfl) (by kernel_rfl) (by kernel_rfl) (by kernel_rfl))
  · by_cases h2 : g = 403
    · subst h2
      exact .inr (XAt.index Tryz.func403 (by kernel_rfl) (by kernel_rfl) (by kernel_rfl) (by kernel_rfl))
    · left
      have e1 : Nat.beq g 432 = false := by rw [← Bool.not_eq_true]; exact fun h => h1 (Nat.eq_of_beq_eq_true h)
      have e2 : Nat.beq g 403 = false := by rw [← Bool.not_eq_true]; exact fun h => h2 (Nat.eq_of_beq_eq_true h)
      show bif' (Nat.beq g 432) 1 (bif' (Nat.beq g 403) 3 0) = 0
      rw [e1, e2]; rfl
theorem mixed : Tryz.prog.follows .mixedOrders = true := by kernel_rfl

def d64 : List Nat := [0, 1, 56, 2, 57, 49, 28, 3, 61, 58, 42, 50, 38, 29, 17, 4, 62, 47, 59, 36, 45, 43, 51, 22, 53, 39, 33, 30, 24, 18, 12, 5, 63, 55, 48, 27, 60, 41, 37, 16, 46, 35, 44, 21, 52, 32, 23, 11, 54, 26, 40, 15, 34, 20, 31, 10, 25, 14, 19, 9, 13, 8, 7, 6]
def p10 : List Nat := [1, 10, 100, 1000, 10000, 100000, 1000000, 10000000, 100000000, 1000000000, 10000000000, 100000000000, 1000000000000, 10000000000000, 100000000000000, 1000000000000000, 10000000000000000, 100000000000000000, 1000000000000000000, 10000000000000000000]
noncomputable def hp (t0 t1 : TypeId) : AHeap := ⟨Tr.set .dead (Tr.set .dead .nil 0 (tabRow t0 .u8 d64)) 1 (tabRow t1 .u64 p10), 6, 6⟩

/-- did it come to that, with nothing turned? -/
noncomputable def okOut (P : Program) (fn : Func) (m : Nat) (b : Bool) (o : Out) : Bool :=
  @Option.rec St (fun _ => Bool) false (fun s => Nat.beq (len s.df) 0 && (Nat.ble m s.H.low && @Option.rec (List Value) (fun _ => Bool) false (fun vs => @Option.rec Bool (fun _ => Bool) false (fun x => bEq x b) (vBool (tupled vs))) (aresults P s fn.results.toList))) (endS o)
theorem okOut_eq {P : Program} {fn : Func} {m : Nat} {b : Bool} {o : Out} (h : okOut P fn m b o = true) : ∃ s vs, endS o = some s ∧ Nat.beq (len s.df) 0 = true ∧ m ≤ s.H.low ∧ aresults P s fn.results.toList = some vs ∧ tupled vs = .bool b := by
  unfold okOut at h
  cases hs : endS o with
  | none => rw [hs] at h; cases h
  | some s =>
    rw [hs] at h
    replace h : (Nat.beq (len s.df) 0 && (Nat.ble m s.H.low && @Option.rec (List Value) (fun _ => Bool) false (fun vs => @Option.rec Bool (fun _ => Bool) false (fun x => bEq x b) (vBool (tupled vs))) (aresults P s fn.results.toList))) = true := h
    rw [Bool.and_eq_true, Bool.and_eq_true] at h
    obtain ⟨h1, h2, h3⟩ := h
    cases hv : aresults P s fn.results.toList with
    | none => rw [hv] at h3; cases h3
    | some vs =>
      rw [hv] at h3
      replace h3 : @Option.rec Bool (fun _ => Bool) false (fun x => bEq x b) (vBool (tupled vs)) = true := h3
      cases hb : vBool (tupled vs) with
      | none => rw [hb] at h3; cases h3
      | some x =>
        rw [hb] at h3
        have h4 : bEq x b = true := h3
        rw [bEq_eq, beq_iff_eq] at h4
        exact ⟨s, vs, rfl, h1, Nat.le_of_ble_eq_true h2, hv, by rw [vBool_eq hb, h4]⟩
def sA : Code → Code
  | .seq a _ => a
  | c => c
def sB : Code → Code
  | .seq _ b => b
  | c => c
/-- a call: two pieces by themselves, then the rest. -/
theorem Ca.three {P : Program} {X : Xt} {g : FuncId} {fn : Func} {R0 R1 C R : Code} {args : List Value} {H : AHeap} {s1 s2 : St} {k m : Nat} {b : Bool} (hor : X.o g args H = none) (hg : nth P.funcs.toList g = some fn) (hb : fn.body = some (.seq R0 (.seq (.seq R1 C) R))) (hl : Nat.ble (len args) fn.ntmps = true)
    (h0 : exN P X k R0 ⟨crossFn P g, fn.ntmps, [], Tr.ofL top args 0 .nil, [], H⟩ = .norm s1) (h1 : exN P X k R1 s1 = .norm s2) (h2 : okOut P fn m b (andThen (exN P X k C s2) (exN P X k R)) = true) : ∃ H', Ca P X g args H (.bool b) H' ∧ m ≤ H'.low := by
  obtain ⟨s, vs, e1, e2, e3, e4, e5⟩ := okOut_eq h2
  refine ⟨s.H, ?_, e3⟩
  rw [← e5]
  have he : exN P X k (.seq R0 (.seq (.seq R1 C) R)) ⟨crossFn P g, fn.ntmps, [], Tr.ofL top args 0 .nil, [], H⟩ = andThen (exN P X k C s2) (exN P X k R) := by
    show andThen (exN P X k R0 _) (fun s => andThen (andThen (exN P X k R1 s) (exN P X k C)) (exN P X k R)) = _
    rw [h0]
    show andThen (andThen (exN P X k R1 s1) (exN P X k C)) (exN P X k R) = _
    rw [h1]
    rfl
  refine Ca.body hor hg hb hl ⟨?_, k, he⟩ e1 e2 e4
  intro e
  rw [e] at e1
  cases e1

noncomputable abbrev Bd : Code := (Tryz.f3.body).getD .skip
noncomputable abbrev s0 (l : List UInt8) (n : Int) (t0 t1 : TypeId) : St := ⟨crossFn Tryz.prog 3, Tryz.f3.ntmps, [], Tr.ofL top [.string ⟨⟨l⟩⟩, .int .i64 n] 0 .nil, [], hp t0 t1⟩
noncomputable abbrev s1 (l : List UInt8) (n : Int) (t0 t1 : TypeId) : St := putS (clear (s0 l n t0 t1)) 4 (.bool false) (hp t0 t1)
noncomputable abbrev s2 (l : List UInt8) (n : Int) (t0 t1 : TypeId) (b : Bool) : St :=
  putS (putS (putS (clear (s1 l n t0 t1)) 11 (.string ⟨⟨l⟩⟩) (hp t0 t1)) 12 (.int .i64 (.ofNat (len l))) (hp t0 t1)) 13 (.bool b) (hp t0 t1)
theorem body_is : Tryz.f3.body = some (.seq (sA Bd) (.seq (.seq (sA (sA (sB Bd))) (sB (sA (sB Bd)))) (sB (sB Bd)))) := by kernel_rfl
theorem run0 (l : List UInt8) (n : Int) (t0 t1 : TypeId) : exN Tryz.prog X 4000 (sA Bd) (s0 l n t0 t1) = .norm (s1 l n t0 t1) := by kernel_rfl
theorem run1 (l : List UInt8) (n : Int) (t0 t1 : TypeId) : exN Tryz.prog X 4000 (sA (sA (sB Bd))) (s1 l n t0 t1) = .norm (s2 l n t0 t1 (iLt 100 (.ofNat (len l)))) := by kernel_rfl
theorem runT (l : List UInt8) (n : Int) (t0 t1 : TypeId) : okOut Tryz.prog Tryz.f3 6 true (andThen (exN Tryz.prog X 4000 (sB (sA (sB Bd))) (s2 l n t0 t1 true)) (exN Tryz.prog X 4000 (sB (sB Bd)))) = true := by kernel_rfl
theorem runF (l : List UInt8) (n : Int) (t0 t1 : TypeId) : okOut Tryz.prog Tryz.f3 6 true (andThen (exN Tryz.prog X 4000 (sB (sA (sB Bd))) (s2 l n t0 t1 false)) (exN Tryz.prog X 4000 (sB (sB Bd)))) = true := by kernel_rfl
theorem law_run (l : List UInt8) (n : Int) (t0 t1 : TypeId) : ∃ H', Ca Tryz.prog X 3 [.string ⟨⟨l⟩⟩, .int .i64 n] (hp t0 t1) (.bool true) H' ∧ 6 ≤ H'.low := by
  refine Ca.three (k := 4000) (fn := Tryz.f3) rfl (by kernel_rfl) body_is (by kernel_rfl) (run0 l n t0 t1) (run1 l n t0 t1) ?_
  cases iLt 100 (.ofNat (len l)) with
  | true => exact runT l n t0 t1
  | false => exact runF l n t0 t1

/-- the tables lie there. -/
structure Laid (w : World) : Prop where
  size : 6 ≤ w.heap.size
  t0 : ∃ (ty : TypeId) (cs : Array Value) (fr : Nat × Nat), w.heap[0]? = some (.cells cs ty fr) ∧ ∀ i z : Nat, d64[i]? = some z → cs[i]? = some (Value.int .u8 (z : Nat))
  t1 : ∃ (ty : TypeId) (cs : Array Value) (fr : Nat × Nat), w.heap[1]? = some (.cells cs ty fr) ∧ ∀ i z : Nat, p10[i]? = some z → cs[i]? = some (Value.int .u64 (z : Nat))
theorem law_any (s : ByteArray) (n : Int) (w : World) (h : Laid w) : Calls Tryz.prog 3 #[.string s, .int .i64 n] w fun e w' => e = .returned (.bool true) ∧ Go.RowKit.Below w.heap.size w w' := by
  obtain ⟨t0, cs0, fr0, a1, a2⟩ := h.t0
  obtain ⟨t1, cs1, fr1, b1, b2⟩ := h.t1
  obtain ⟨⟨l⟩⟩ := s
  obtain ⟨H', ⟨k, h1⟩, h2⟩ := law_run l n t0 t1
  refine table_call mixed (H := hp t0 t1) (FnsOk.of_all fns) xs (OrOk.none fun _ _ _ => rfl) Tryz.func3 (by kernel_rfl) h1 h2 rfl rfl h.size ?_
  intro r hr
  have hobj : ∀ r, (hp t0 t1).obj r = if r = 1 then tabRow t1 .u64 p10 else if r = 0 then tabRow t0 .u8 d64 else .dead := by
    intro r
    show (Tr.set .dead (Tr.set .dead .nil 0 (tabRow t0 .u8 d64)) 1 (tabRow t1 .u64 p10)).get .dead r = _
    rw [Tr.get_set, Tr.get_set, Tr.get_nil]
  rw [hobj]
  by_cases e4 : r = 1
  · subst e4; rw [if_pos rfl]; exact .inr ⟨t1, .u64, p10, cs1, fr1, rfl, b1, b2⟩
  · rw [if_neg e4]
    by_cases e0 : r = 0
    · subst e0; rw [if_pos rfl]; exact .inr ⟨t0, .u8, d64, cs0, fr0, rfl, a1, a2⟩
    · rw [if_neg e0]; exact .inl rfl
end Go.Proofs.YtnaekhjaflfbjaaGreatDoor
