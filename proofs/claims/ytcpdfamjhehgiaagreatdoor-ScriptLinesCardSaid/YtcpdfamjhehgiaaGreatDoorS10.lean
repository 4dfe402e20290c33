/-
  Part 10 of the proof. No condition.
-/
import Derived.Test.YtcpdfamjhehgiaaGreatDoorS05
set_option linter.unusedVariables false
set_option linter.unusedSimpArgs false
set_option maxRecDepth 1000000
set_option maxHeartbeats 8000000
noncomputable section
namespace Go.Proofs.Lu
open Go.Ae
def X0:Xt:=⟨fun g=>au (Nat.beq g 153) 1 (au (Nat.beq g 154) 2 (au (Nat.beq g 339) 3 (au (Nat.beq g 338) 4 0))),fun _ _ _=>none⟩
theorem fns:all' (JD 8) Pg.funcs.toList=true:=by kernel_rfl
theorem ZY(g:Nat):X0 g=0∨Aw Pg g (X0 g):=by
 by_cases h1:g=153
 ·subst h1
  exact .inr (Aw.same Tryz.func153 (by kernel_rfl) (by kernel_rfl) (by kernel_rfl) (by kernel_rfl))
 by_cases h2:g=154
 ·subst h2
  exact .inr (Aw.room Tryz.func154 (by kernel_rfl) (by kernel_rfl) (by kernel_rfl) (by kernel_rfl))
 by_cases h3:g=339
 ·subst h3
  exact .inr (Aw.index Tryz.func339 (by kernel_rfl) (by kernel_rfl) (by kernel_rfl) (by kernel_rfl))
 by_cases h4:g=338
 ·subst h4
  exact .inr (Aw.count Tryz.func338 (by kernel_rfl) (by kernel_rfl) (by kernel_rfl) (by kernel_rfl))
 left
 have e:∀k,g≠k→Nat.beq g k=false:=fun k hk=>by rw[←Bool.not_eq_true];exact fun h=>hk (Nat.eq_of_beq_eq_true h)
 show au (Nat.beq g 153) 1 (au (Nat.beq g 154) 2 (au (Nat.beq g 339) 3 (au (Nat.beq g 338) 4 0)))=0
 rw[e _ h1,e _ h2,e _ h3,e _ h4];rfl
theorem xs0:Ky Pg X0:=Ky.of ZY
theorem xs:Ky Pg X:=Ky.of ZY
theorem mixed:Pg.follows .mixedOrders=true:=by kernel_rfl
theorem Kl:∀t0 t1 t5 t6:TypeId,Mo 8 true (a_ Pg X0 4000 10 [] (XR 8 t0 t1 t5 t6))=true:=fun t0 t1 t5 t6=>by kernel_rfl
theorem ors:yg Pg X 8:=by
 intro g args v H H' h
 replace h:au (Nat.beq g 10) (TL args H) none=some (v,H'):=h
 by_cases h9:g=10
 ·subst h9
  exact MS (Nat.le_refl _) mixed (l5.Mj fns) xs0 (yg.none fun _ _ _=>rfl) Tryz.func10 (by kernel_rfl) Kl h
 have e:∀k,g≠k→Nat.beq g k=false:=fun k hk=>by rw[←Bool.not_eq_true];exact fun h=>hk (Nat.eq_of_beq_eq_true h)
 rw[e 10 h9]at h
 cases h
end Go.Proofs.Lu
