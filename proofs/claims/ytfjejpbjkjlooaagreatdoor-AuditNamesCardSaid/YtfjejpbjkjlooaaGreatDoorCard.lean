/-
  The tied card of AuditNames: the call returns true whatever two numbers it is given, and the arguments read behind it as before; the listed package-level variables begin as the program's text lays them.
-/
import Derived.Test.YtfjejpbjkjlooaaGreatDoorOver
import Derived.Test.YtfjejpbjkjlooaaGreatDoorCardFacts
import Derived.Test.YtfjejpbjkjlooaaGreatDoorCards
import Derived.Test.YtfjejpbjkjlooaaGreatDoorTie
namespace Go.Proofs.YtfjejpbjkjlooaaGreatDoor
open Go.ChangeShapes Go.WideShapes Go.ChangeAt Go.RowKit

theorem auditNames_card : Rows.AuditNamesCardSaid :=
  Claim7.holds_tied_plain_at .later [] [.data, .data, .data, .data, .pinned] true (true, "204e6565c6a90fbad43341da7745bc828940d8358679eb392a0e8120b46e30e8") false auditNames_holds (fun _ h => by cases h) card_wf (fun _ h => by cases h) auditNames_row_tie rfl ⟨rfl, rfl⟩ card_main rfl
    (fun f fn hf hfn => by
      obtain rfl : f = 3 := Option.some.inj (card_named.symm.trans hf) |>.symm
      obtain rfl : fn = Tryz.f3 := (Option.some.inj (Tryz.func3.symm.trans hfn)).symm
      exact ⟨card_looks, fun j t ht => by
        rw [Tryz.params3] at ht
        have hm : t ∈ [3, 3] := by simpa using Array.mem_of_getElem? ht
        exact (show Tryz.prog.wantsStandIn t = false by simpa using List.all_eq_true.1 card_stand t hm)⟩)
    card_goes
#print axioms auditNames_card
end Go.Proofs.YtfjejpbjkjlooaaGreatDoor
