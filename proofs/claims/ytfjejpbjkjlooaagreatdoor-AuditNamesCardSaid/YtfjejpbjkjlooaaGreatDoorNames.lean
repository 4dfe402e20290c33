import Derived.Test.YtfjejpbjkjlooaaGreatDoorWorks
namespace Go.Proofs.YtfjejpbjkjlooaaGreatDoor
open Go.Ae
set_option maxRecDepth 100000

/-- what a flaw is called. -/
def nm : Int → List UInt8
  | .ofNat 1 => [108, 111, 115, 116]
  | .ofNat 2 => [115, 116, 114, 97, 121]
  | .ofNat 3 => [111, 114, 100, 101, 114]
  | .ofNat 4 => [110, 97, 109, 101, 100]
  | .ofNat 5 => [114, 111, 119, 101, 100]
  | _ => []
noncomputable def okStr (n : Nat) (s : List UInt8) (o : Option (Value × AHeap)) : Bool := @Option.rec (Value × AHeap) (fun _ => Bool) false (fun p => (@Option.rec ByteArray (fun _ => Bool) false (fun x => strEq x ⟨⟨s⟩⟩) (vStr p.1)) && Nat.ble n p.2.low) o
theorem okStr_eq {n : Nat} {s : List UInt8} {o : Option (Value × AHeap)} (h : okStr n s o = true) : ∃ H', o = some (.string ⟨⟨s⟩⟩, H') ∧ n ≤ H'.low := by
  cases o with
  | none => cases h
  | some p =>
    replace h : ((@Option.rec ByteArray (fun _ => Bool) false (fun x => strEq x ⟨⟨s⟩⟩) (vStr p.1)) && Nat.ble n p.2.low) = true := h
    rw [Bool.and_eq_true] at h
    cases hb : vStr p.1 with
    | none => rw [hb] at h; cases h.1
    | some x =>
      rw [hb] at h
      have h1 : strEq x ⟨⟨s⟩⟩ = true := h.1
      rw [strEq_eq, beq_iff_eq, ByteArray.toList_eq, ByteArray.toList_eq] at h1
      have hx : x = ⟨⟨s⟩⟩ := by
        obtain ⟨⟨l⟩⟩ := x
        simp at h1
        rw [h1]
      exact ⟨p.2, by rw [← hx, ← vStr_eq hb], Nat.le_of_ble_eq_true h.2⟩
theorem name_run : ∀ a : Int, okStr 6 (nm a) (acall Tryz.prog X 60 4 [.int .i64 a] (heap0 6)) = true
  | .ofNat 0 => by kernel_rfl
  | .ofNat 1 => by kernel_rfl
  | .ofNat 2 => by kernel_rfl
  | .ofNat 3 => by kernel_rfl
  | .ofNat 4 => by kernel_rfl
  | .ofNat 5 => by kernel_rfl
  | .ofNat (n + 6) => by kernel_rfl
  | .negSucc n => by kernel_rfl
theorem name_any (a : Int) (w : World) (h : 6 ≤ w.heap.size) : Calls Tryz.prog 4 #[.int .i64 a] w fun e w' => e = .returned (.string ⟨⟨nm a⟩⟩) ∧ Go.RowKit.Below w.heap.size w w' := by
  obtain ⟨H', h1, h2⟩ := okStr_eq (name_run a)
  exact closed_call mixed (FnsOk.of_all fns) xs Tryz.func4 (by kernel_rfl) h1 h2 rfl rfl h
end Go.Proofs.YtfjejpbjkjlooaaGreatDoor
