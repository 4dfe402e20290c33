/-
  Maker.Shut: what it leaves. Condition: fewer than 2^20 nodes.
-/
import Derived.Test.YtkepcgknjfmgdaaMl
import Derived.StillTailTactics
import Derived.BigQuiet
set_option linter.unusedVariables false
set_option linter.unusedSimpArgs false
namespace Go.Proofs.Ar
open Go.RowKit Go.Lib Go.Sort
variable {w w1 w2 : World} {base mb : Nat} {nv ov : Value} {ls : List (Nd × Value)} {op : List Nat} {tk : Nat}

def ret0 (n : Int) (e : Ending) : Prop := e = .returned (.int .i64 n)

set_option maxHeartbeats 4000000 in
theorem shut_nil (w : World) : Calls Try.prog 11 #[.pointer none] w fun e w' => ret0 1 e ∧ w = w' := by
  go_enter Try.func11, Try.ntmps11
  go_wp2
  go_ret
  exact ⟨rfl, rfl⟩
set_option maxHeartbeats 4000000 in
theorem shut_none (h : Mk w base mb nv ov ls [] tk) : Calls Try.prog 11 #[.pointer (some ⟨mb, 0, none⟩)] w fun e w' => ret0 32 e ∧ w = w' := by
  obtain ⟨ao, co, rfl⟩ := h.oform
  have m0 := h.c0
  have m2 := h.c2
  clear h
  go_enter Try.func11, Try.ntmps11
  go_wp2
  go_ret
  exact ⟨rfl, rfl⟩

set_option maxHeartbeats 8000000 in
set_option maxRecDepth 1000000 in
theorem shut_some (op' : List Nat) (t : Nat) (p : Nd × Value) (h : Mk w base mb nv ov ls (op' ++ [t]) tk) (hp : ls[t]? = some p) (hn : ls.length < 1048576) (hop : op'.length < 1048576) :
    Calls Try.prog 11 #[.pointer (some ⟨mb, 0, none⟩)] w fun e w' => ret0 0 e ∧ Leaves w base mb (ls.set t ({ p.1 with til := tk }, p.2)) op' tk w' := by
  have htl : t < ls.length := (List.getElem?_eq_some_iff.1 hp).1
  obtain ⟨gn, cn, rfl⟩ := h.nform' (by omega)
  obtain ⟨go, co, rfl⟩ := h.oform' (by simp)
  obtain ⟨m, hm⟩ : ∃ m, m = (op' ++ [t]).length := ⟨_, rfl⟩
  have hm1 : m = op'.length + 1 := by rw [hm]; simp
  obtain ⟨n1, hn1⟩ : ∃ n1, n1 = op'.length := ⟨_, rfl⟩
  obtain ⟨N, hN⟩ : ∃ N, N = ls.length := ⟨_, rfl⟩
  have hcap : n1 ≤ co := by
    rcases h.opens.2 with ⟨e1, _⟩ | ⟨g', cap', cur, e1, _, _, e2, _⟩
    · simp at e1
    · simp only [Value.slice.injEq, Option.some.injEq, Addr.mk.injEq, and_true, true_and] at e1
      obtain ⟨_, rfl⟩ := e1
      rw [List.length_append] at e2
      simp at e2
      omega
  have hcapz : (n1 : Int) ≤ (co : Int) := by omega
  have H0 := Lib.hid h
  have m0 := h.c0
  have m1 : w.cell? ⟨mb, 1, none⟩ = some (.slice (some ⟨gn, 0, none⟩) N cn) := by rw [hN]; exact h.c1
  have m2 : w.cell? ⟨mb, 2, none⟩ = some (.slice (some ⟨go, 0, none⟩) m co) := by rw [hm]; exact h.c2
  have m3 := h.c3
  have mo : w.cell? ⟨go, n1, none⟩ = some (.int .i64 (t : Int)) := by rw [hn1]; exact h.cellO
  have k3 : w.cell? ⟨gn, t * 6 + 3, none⟩ = some (.int .i64 (p.1.til : Int)) := (h.cellN hp 3 (by omega)).1
  have f3 := (h.cellN hp 3 (by omega)).2
  have hmz : (0 : Int) < (m : Int) := by omega
  have hmp : 0 < m := by omega
  have hwm : IntKind.i64.wrap ((m : Int) - 1) = (n1 : Int) := by rw [IntKind.wrap_i64]; omega
  have hmn : (m : Int) - 1 = (n1 : Int) := by omega
  have hwn : IntKind.i64.wrap (n1 : Int) = (n1 : Int) := by rw [IntKind.wrap_i64]; omega
  have hn1p : (0 : Int) ≤ (n1 : Int) := by omega
  have hnm : (n1 : Int) < (m : Int) := by omega
  have htN : (t : Int) < (N : Int) := by omega
  have d1 : ((m : Int) == 0) = false := by simp; omega
  have HN := Lib.hid hN
  have HM := Lib.hid hm
  have HM1 := Lib.hid hm1
  have HN1 := Lib.hid hn1
  have HP := Lib.hid hp
  clear hm hm1 hn1 hN hp h
  go_enter Try.func11, Try.ntmps11
  go_upto_region 5 with fail
  go_still_tail 22, (by kernel_rfl)
  change wpList _ _ _ _ _ w.drew
  have H2 := Lib.hid (H0.out.drew.field (p' := ({ p.1 with til := tk }, p.2)) (u := .int .i64 (tk : Int)) HP.out (show 3 < 6 by omega) rfl rfl rfl)
  have k3' : w.drew.cell? ⟨gn, t * 6 + 3, none⟩ = some (.int .i64 (p.1.til : Int)) := k3
  have f3' : w.drew.frozen? ⟨gn, t * 6 + 3, none⟩ = false := f3
  have HB2 : Hid (Below base w w.drew) := (Below.refl _ w).drew
  generalize w.drew = V at H2 k3' f3' HB2 ⊢
  clear m0 m1 m2 m3 mo k3 f3 H0
  have HB3 := Lib.hid (HB2.out.setCell (p := ⟨gn, t * 6 + 3, none⟩) (by have := (H2.out.nodes.lt gn (by rfl)).1; exact this) (.int .i64 (tk : Int)))
  go_upto_region 6 with fail
  obtain ⟨U, hU⟩ : ∃ U, U = V.setCell ⟨gn, t * 6 + 3, none⟩ (.int .i64 (tk : Int)) := ⟨_, rfl⟩
  rw [← hU] at H2 HB3 ⊢
  have H3 := Lib.hid (show Mk U base mb (.slice (some ⟨gn, 0, none⟩) ls.length cn) (.slice (some ⟨go, 0, none⟩) (op' ++ [t]).length co) (ls.set t ({ p.1 with til := tk }, p.2)) (op' ++ [t]) tk from H2.out)
  have m2 : U.cell? ⟨mb, 2, none⟩ = some (.slice (some ⟨go, 0, none⟩) m co) := by rw [HM.out]; exact H3.out.c2
  have f2 := H3.out.fz 2
  have H4 := Lib.hid (H3.out.drew.openCut)
  clear k3' f3' H2 hU
  go_still_tail 14, (by kernel_rfl)
  change wpList _ _ _ _ _ U.drew
  have m2' : U.drew.cell? ⟨mb, 2, none⟩ = some (.slice (some ⟨go, 0, none⟩) m co) := m2
  have f2' : U.drew.frozen? ⟨mb, 2, none⟩ = false := f2
  have HB4 := Lib.hid ((HB3.out.drew).setCell (p := ⟨mb, 2, none⟩) H3.out.lo.1 (.slice (some ⟨go, 0, none⟩) n1 co))
  rw [← HN1.out] at H4
  generalize U.drew = X at H4 m2' f2' HB4 ⊢
  go_wp2
  go_ret
  refine ⟨rfl, _, _, H4.out, ?_⟩
  exact HB4.out
end Go.Proofs.Ar
