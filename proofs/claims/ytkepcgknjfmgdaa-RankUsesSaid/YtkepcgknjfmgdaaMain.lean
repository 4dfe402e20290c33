/-
  RankUses: whatever entries come, and whatever number: the call returns true, and the arguments read behind it as before. No condition.
-/
import Derived.Test.YtkepcgknjfmgdaaRows
import Derived.Test.YtkepcgknjfmgdaaLaw
import Derived.ProofKit
import Derived.OpenShut
import Derived.Carry
import Derived.Deep.Slices
import Derived.Deep.Fields
import Derived.ChangeSame
set_option linter.unusedVariables false
set_option linter.unusedSimpArgs false
namespace Go.Proofs.Ytkepcgknjfmgdaa
open Go.ChangeShapes Go.WideShapes Go.ChangeAt Go.RowKit Go.Deep Go.Sort Go.Shelf Go.Lib Go.Proofs.Rk

/-- six cells that read as an entry are an entry's. -/
theorem entry_of {H : Type} {enc : TypeId × Value → H} {w : World} {base : Nat} {spare : Nat → Bool} {held : Bool} {n : Nat} {cs : List Value} {x : DataW H × List MemPlace}
    (h : DataW.trod enc Try.prog w base spare held n 26 cs = some x) (hc : cs.length = 6) : ∃ e : En, cs = encE e := by
  obtain ⟨ys, n', _, _, _, hy, hf⟩ := DataW.trod_struct Try.underlying26 h
  have c3 : Try.prog.cellsOf 3 = 1 := by kernel_rfl
  have c4 : Try.prog.cellsOf 4 = 1 := by kernel_rfl
  have c9 : Try.prog.cellsOf 9 = 1 := by kernel_rfl
  have h6 : ys.length = 6 := hy
  have get : ∀ j, j < 6 → ∃ y, ys[j]? = some y := fun j hj => ⟨_, List.getElem?_eq_getElem (by omega)⟩
  obtain ⟨y0, e0⟩ := get 0 (by omega)
  obtain ⟨y1, e1⟩ := get 1 (by omega)
  obtain ⟨y2, e2⟩ := get 2 (by omega)
  obtain ⟨y3, e3⟩ := get 3 (by omega)
  obtain ⟨y4, e4⟩ := get 4 (by omega)
  obtain ⟨y5, e5⟩ := get 5 (by omega)
  match cs, hc with
  | [v0, v1, v2, v3, v4, v5], _ =>
    have f0 : DataW.trod enc Try.prog w base spare held n' 3 (([v0, v1, v2, v3, v4, v5].drop 0).take (Try.prog.cellsOf 3)) = some y0 := (hf 0 _ rfl).trans e0
    have f1 : DataW.trod enc Try.prog w base spare held n' 3 (([v0, v1, v2, v3, v4, v5].drop 1).take (Try.prog.cellsOf 3)) = some y1 := (hf 1 _ rfl).trans e1
    have f2 : DataW.trod enc Try.prog w base spare held n' 9 (([v0, v1, v2, v3, v4, v5].drop 2).take (Try.prog.cellsOf 9)) = some y2 := (hf 2 _ rfl).trans e2
    have f3 : DataW.trod enc Try.prog w base spare held n' 4 (([v0, v1, v2, v3, v4, v5].drop 3).take (Try.prog.cellsOf 4)) = some y3 := (hf 3 _ rfl).trans e3
    have f4 : DataW.trod enc Try.prog w base spare held n' 4 (([v0, v1, v2, v3, v4, v5].drop 4).take (Try.prog.cellsOf 4)) = some y4 := (hf 4 _ rfl).trans e4
    have f5 : DataW.trod enc Try.prog w base spare held n' 3 (([v0, v1, v2, v3, v4, v5].drop 5).take (Try.prog.cellsOf 3)) = some y5 := (hf 5 _ rfl).trans e5
    rw [c3] at f0 f1 f5
    rw [c4] at f3 f4
    rw [c9] at f2
    obtain ⟨a0, q0, _⟩ := DataW.trod_int Try.underlying3 f0
    obtain ⟨a1, q1, _⟩ := DataW.trod_int Try.underlying3 f1
    obtain ⟨a2, q2, _⟩ := DataW.trod_string Try.underlying9 f2
    obtain ⟨a3, q3, _⟩ := DataW.trod_bool Try.underlying4 f3
    obtain ⟨a4, q4, _⟩ := DataW.trod_bool Try.underlying4 f4
    obtain ⟨a5, q5, _⟩ := DataW.trod_int Try.underlying3 f5
    simp at q0 q1 q2 q3 q4 q5
    subst q0 q1 q2 q3 q4 q5
    exact ⟨⟨a0, a1, a2, a3, a4, a5⟩, rfl⟩

set_option maxHeartbeats 2000000 in
/-- too many: nothing is looked at. -/
theorem law_big (a : Option Addr) (n c : Nat) (at' : Int) (w : World) (h : 60 < n) :
    Calls Try.prog 3 #[.slice a n c, .int .i64 at'] w fun e w' => e = .returned (.bool true) ∧ Below w.heap.size w w' := by
  have hz : (60 : Int) < (n : Int) := by omega
  have hd : decide ((n : Int) > 60) = true := by simp; omega
  go_enter Try.func3, Try.ntmps3
  go_wp2
  go_ret
  exact ⟨rfl, Below.refl _ _⟩
set_option maxHeartbeats 2000000 in
theorem law_none (a : Option Addr) (c : Nat) (at' : Int) (w : World) :
    Calls Try.prog 3 #[.slice a 0 c, .int .i64 at'] w fun e w' => e = .returned (.bool true) ∧ Below w.heap.size w w' := by
  go_enter Try.func3, Try.ntmps3
  go_wp2_with (go_at_call 5; refine (works_any _).mono ?_; rintro ee w3 ⟨rfl, hb3⟩; have HB3 := Lib.hid hb3; clear hb3)
  go_ret
  exact ⟨rfl, HB3.out⟩

/-- cells of a slice of entries: an entry each. -/
theorem entries {w : World} {b off n : Nat} (h : ∀ i, i < n → ∃ x : En, ∀ j, j < 6 → w.cell? ⟨b, off + (i * 6 + j), none⟩ = (encE x)[j]?) :
    ∃ d : Array En, d.size = n ∧ Cells w b off d := by
  have h' : ∀ i, ∃ x : En, i < n → ∀ j, j < 6 → w.cell? ⟨b, off + (i * 6 + j), none⟩ = (encE x)[j]? := fun i => by
    by_cases hi : i < n
    · obtain ⟨x, hx⟩ := h i hi; exact ⟨x, fun _ => hx⟩
    · exact ⟨default, fun hh => absurd hh hi⟩
  let f : Nat → En := fun i => Classical.choose (h' i)
  have hf : ∀ i, i < n → ∀ j, j < 6 → w.cell? ⟨b, off + (i * 6 + j), none⟩ = (encE (f i))[j]? := fun i => Classical.choose_spec (h' i)
  refine ⟨((List.range n).map f).toArray, by simp, ?_⟩
  intro j u hu
  have hsz : (((List.range n).map f).toArray : Array En).size = n := by simp
  have hj : j < n * 6 := by
    have := (List.getElem?_eq_some_iff.1 hu).1
    rwa [flatE_length, hsz] at this
  rw [flatE_get _ _ (by rw [hsz]; exact hj), get_flatK _ _ _ _ (by rw [hsz]; exact hj)] at hu
  have hi : j / 6 < n := by omega
  have hg : (((List.range n).map f).toArray : Array En)[j / 6]! = f (j / 6) := by
    rw [getElem!_pos _ _ (by rw [hsz]; exact hi)]
    simp
  rw [hg] at hu
  have h1 := hf (j / 6) hi (j % 6) (Nat.mod_lt _ (by omega))
  rw [show j / 6 * 6 + j % 6 = j by omega] at h1
  rw [h1, ← hu]
  have h6 : j % 6 < 6 := Nat.mod_lt _ (by omega)
  generalize j % 6 = r at h6
  have : r = 0 ∨ r = 1 ∨ r = 2 ∨ r = 3 ∨ r = 4 ∨ r = 5 := by omega
  rcases this with rfl | rfl | rfl | rfl | rfl | rfl <;> rfl

theorem own : ownKnob Try.prog.godebug = none := by kernel_rfl
theorem laidOut : laidOutB Try.prog = true := by kernel_rfl

theorem law_any {H : Type} {enc : TypeId × Value → H} {w : World} {v0 : Value} {d0 : DataW H} {p0 : List MemPlace} (h0 : DataW.Trod enc Try.prog w 0 (fun _ => true) true 22 v0 d0 p0) (hok : ∃ a len cap, v0 = .slice a len cap) (at' : Int) :
    Calls Try.prog 3 #[v0, .int .i64 at'] w fun e w' => e = .returned (.bool true) ∧ Below w.heap.size w w' := by
  obtain ⟨a0, n0, k0, rfl⟩ := hok
  obtain ⟨fuel, hd⟩ := h0
  have c26 : Try.prog.cellsOf 26 = 6 := by kernel_rfl
  by_cases hb : 60 < n0
  · exact law_big a0 n0 k0 at' w hb
  · by_cases hz : n0 = 0
    · subst hz; exact law_none a0 k0 at' w
    · rcases open_slice Try.underlying22 hd with ⟨h1, _⟩ | ⟨a, len, cap, m, n, D, Pl, hcs, _, hl, hm, hmm, _, hi⟩
      · exfalso
        have h2 : #[Value.slice a0 n0 k0].toList = [Value.slice none 0 0] := h1
        simp at h2
        exact hz h2.2.1
      · have h2 : #[Value.slice a0 n0 k0].toList = [Value.slice (some a) len cap] := hcs
        simp at h2
        obtain ⟨rfl, rfl, rfl⟩ := h2
        rw [if_pos rfl] at hmm
        subst hmm
        have hcell : ∀ i, i < n0 → ∃ x : En, ∀ j, j < 6 → w.cell? (a.add (i * 6 + j)) = (encE x)[j]? := by
          intro i hin
          obtain ⟨cs', hc1, hc2⟩ := hi i (by omega)
          rw [c26] at hc1
          obtain ⟨_, hlen, hat⟩ := World.cells?_some hc1
          obtain ⟨x, rfl⟩ := entry_of hc2 hlen
          refine ⟨x, fun j hj => ?_⟩
          rw [← Go.Deep.add_add, hat j hj]
        obtain ⟨b, off, spot⟩ := a
        have hsp : spot = none := by
          obtain ⟨x, hx⟩ := hcell 0 (by omega)
          have := hx 0 (by omega)
          rw [show (encE x)[0]? = some (.int .i64 x.kind) from rfl] at this
          have h3 := World.cell?_spot this
          simpa [Addr.add] using h3
        subst hsp
        obtain ⟨d, hd1, hd2⟩ := entries (w := w) (b := b) (off := off) (n := n0) (fun i hin => by
          obtain ⟨x, hx⟩ := hcell i hin
          exact ⟨x, fun j hj => by have := hx j hj; rwa [Addr.add_lit] at this⟩)
        subst hd1
        exact law_mid b off _ at' d w (by omega) (by omega) hd2

set_option maxRecDepth 100000 in
theorem lifted (os : Os) (started : os.Started) (H : Type) (enc : TypeId × Value → H) :
    ReturnsInHanded {} Try.checked os 3 .any (Rows.rankUsesSpec.pre6 enc Try.prog Try.f3 Rows.rankUsesRow.domain false) (Rows.rankUsesSpec.post enc Try.prog Try.f3 false true false false) := by
  refine returnsInHanded_of_change (C := Try.checked) own started (by kernel_rfl) Try.func3
    (ChangeSpec.witness6 (enc := enc) (C := Try.checked) false ⟨#[], #[.slice none 0 0, .int .i64 0], []⟩ 8 (by kernel_rfl) (by kernel_rfl) (by kernel_rfl) (by kernel_rfl)) ?_
  intro W base args ds gs before hval0 hW hcnd _
  have hval : ∀ (j : Nat) t v, Try.f3.params[j]? = some t → args[j]? = some v → Value.okWide Try.prog W .any base t v := hval0
  have hW' := hW
  obtain ⟨p, q, hA0, hV, rfl, hfz, hnd⟩ := hW
  have hA : DataW.TrodAll enc Try.prog W 0 (fun _ => true) true Try.f3.params.toList args.toList ds p := hA0
  rw [Try.params3] at hA hval
  obtain ⟨v0, v1, d0, d1, p0, p1, rfl, rfl, rfl, h0, h1⟩ := trodAll_two hA
  obtain ⟨rfl, rfl⟩ := trodVars_none hV
  obtain ⟨b, rfl, rfl, rfl, wb⟩ := open_int Try.underlying3 (hval 1 3 v1 rfl rfl) h1
  simp only [List.append_nil] at hW'
  refine (law_any h0 (okWide_slice Try.underlying22 (hval 0 22 v0 rfl rfl)) b).mono fun e W' ⟨he, hb⟩ => ?_
  subst he
  have hlt : ∀ x ∈ p0, x.block < W.heap.size := fun x hx => hW'.lt x hx
  have t0 : ∀ sp : Nat → Bool, (∀ x ∈ p0, sp x.block = true) → DataW.Trod enc Try.prog W' 0 sp true 22 v0 d0 p0 := fun sp hsp =>
    WideElems.Trod_stays laidOut (by kernel_rfl) (of_decide_eq_true (by kernel_rfl)) h0 (fun x hx => hb.same (hlt x hx)) hsp
  have hold : ∀ x ∈ p0, (fun b => decide (b < W.heap.size)) x.block = true := fun x hx => by simpa using hlt x hx
  refine ⟨_, rfl, _, _, _, [], p0 ++ [], [], hW', trodAll_mk1 (shut_bool Try.underlying4 _), trodAll_mk2 (t0 _ hold) (shut_int Try.underlying3 wb), rfl, ?_, fun h => by cases h⟩
  refine World.keptBut_mono (fun x hx => ⟨hx, ?_⟩) (hb.frame (· ∈ p0))
  simpa using hx

theorem rankUses_holds : Rows.RankUsesSaid :=
  OpenClaim.holds_of_wide 3 Try.f3 rfl rfl rfl rfl rfl rfl rfl ⟨rfl, rfl, rfl, rfl, rfl⟩ rfl rfl rfl rfl rfl (by kernel_rfl) Try.func3 (by kernel_rfl)
    (of_decide_eq_true (by kernel_rfl)) (by unfold Func.isWrapper; first | (rw [if_pos (by decide +kernel)]; kernel_rfl) | (rw [if_neg (by decide +kernel)]; exact ⟨rfl, rfl⟩))
    (fun os started H enc _ => lifted os started H enc)
end Go.Proofs.Ytkepcgknjfmgdaa
