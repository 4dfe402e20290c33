/-
  Where no function of a program begins a goroutine, no call does. No condition.
-/
import Derived.Test.YtnaekhjaflfbjaaGreatDoorRows
import GoSem.ClaimGoes
set_option maxRecDepth 100000
namespace Go.Proofs.YtnaekhjaflfbjaaGreatDoor
theorem goesBy_none {P : Program} (h : (P.funcs.toList.all fun fn => !fn.goes) = true) (c : OpenClaim) (hs : c.start = .entering) : false = c.goesBy P := by
  have h1 : ∀ g : Nat, (P.funcs[g]?).any Func.goes = false := by
    intro g
    cases hg : P.funcs[g]? with
    | none => rfl
    | some fn =>
      have := List.all_eq_true.1 h fn (List.mem_of_getElem? (by rw [Array.getElem?_toList]; exact hg))
      simpa using this
  have h2 : P.funcs.any Func.goes = false := by
    rw [← Array.any_toList, List.any_eq_false]
    intro fn hf
    have := List.all_eq_true.1 h fn hf
    simpa using this
  unfold OpenClaim.goesBy Program.goesAt Program.goesFrom
  rw [hs]
  cases P.funcNamed c.func with
  | none => rfl
  | some f =>
    show false = (P.goes f || false)
    unfold Program.goes
    rw [h2, Bool.and_false, Bool.or_false, Bool.or_false, eq_comm, List.any_eq_false]
    intro g _
    rw [h1 g]; simp
theorem none_goes : (Tryz.prog.funcs.toList.all fun fn => !fn.goes) = true := by kernel_rfl
end Go.Proofs.YtnaekhjaflfbjaaGreatDoor
