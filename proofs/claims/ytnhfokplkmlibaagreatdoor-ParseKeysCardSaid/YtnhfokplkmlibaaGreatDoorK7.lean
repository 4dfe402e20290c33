/-
  The tied card of ParseKeys: the call returns true whatever numbers, and rows of numbers, it is given, and the arguments read behind it as before; the listed package-level variables begin as the program's text lays them.
-/
import Derived.Test.YtnhfokplkmlibaaGreatDoorK6
import Derived.Test.YtnhfokplkmlibaaGreatDoorCards
import Derived.Test.YtnhfokplkmlibaaGreatDoorTie
set_option linter.unusedSimpArgs false
set_option linter.unusedVariables false
namespace Go.Proofs.YtnhfokplkmlibaaGreatDoor
open Go.ChangeShapes Go.WideShapes Go.ChangeAt Go.RowKit

theorem parseKeys_card : Rows.ParseKeysCardSaid :=
  Claim7.holds_tied_plain_at .later [] [.data, .pinned] true (true, "7fea5fae2411f5d65629492da959d6194eaea16a97ae7ae53625cbb76f526de4") false parseKeys_holds (fun _ h => by cases h) card_wf (fun _ h => by cases h) parseKeys_row_tie rfl ⟨rfl, rfl⟩ card_main rfl
    (fun f fn hf hfn => by
      obtain rfl : f = 3 := Option.some.inj (card_named.symm.trans hf) |>.symm
      obtain rfl : fn = Tryz.f3 := (Option.some.inj (Tryz.func3.symm.trans hfn)).symm
      exact ⟨card_looks, fun j t ht => by
        rw [Tryz.params3] at ht
        have hm : t ∈ [22, 24, 24] := by simpa using Array.mem_of_getElem? ht
        exact (show Tryz.prog.wantsStandIn t = false by simpa using List.all_eq_true.1 card_stand t hm)⟩)
    card_goes
#print axioms parseKeys_card
end Go.Proofs.YtnhfokplkmlibaaGreatDoor
