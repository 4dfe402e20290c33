/-
  ArenaMakes: whatever steps come: the call returns true, and the argument reads behind it as before. No condition.
-/
import Derived.Test.YtkepcgknjfmgdaaRows
import Derived.Test.YtkepcgknjfmgdaaAl
import Derived.ProofKit
import Derived.OpenShut
import Derived.Carry
import Derived.Deep.Slices
import Derived.Deep.Fields
import Derived.ChangeSame
set_option linter.unusedVariables false
set_option linter.unusedSimpArgs false
namespace Go.Proofs.Ytkepcgknjfmgdaa
open Go.ChangeShapes Go.WideShapes Go.ChangeAt Go.RowKit Go.Deep Go.Sort Go.Shelf Go.Lib Go.Proofs.Ar

/-- two cells that read as a step are two numbers. -/
theorem act_of {H : Type} {enc : TypeId × Value → H} {w : World} {base : Nat} {spare : Nat → Bool} {held : Bool} {n : Nat} {cs : List Value} {x : DataW H × List MemPlace}
    (h : DataW.trod enc Try.prog w base spare held n 33 cs = some x) (hc : cs.length = 2) : ∃ a b : Int, cs = [.int .i64 a, .int .i64 b] := by
  obtain ⟨ys, n', _, _, _, hy, hf⟩ := DataW.trod_struct Try.underlying33 h
  have c3 : Try.prog.cellsOf 3 = 1 := by kernel_rfl
  have h2 : ys.length = 2 := hy
  have get : ∀ j, j < 2 → ∃ y, ys[j]? = some y := fun j hj => ⟨_, List.getElem?_eq_getElem (by omega)⟩
  obtain ⟨y0, e0⟩ := get 0 (by omega)
  obtain ⟨y1, e1⟩ := get 1 (by omega)
  match cs, hc with
  | [v0, v1], _ =>
    have f0 : DataW.trod enc Try.prog w base spare held n' 3 (([v0, v1].drop 0).take (Try.prog.cellsOf 3)) = some y0 := (hf 0 _ rfl).trans e0
    have f1 : DataW.trod enc Try.prog w base spare held n' 3 (([v0, v1].drop 1).take (Try.prog.cellsOf 3)) = some y1 := (hf 1 _ rfl).trans e1
    rw [c3] at f0 f1
    obtain ⟨a0, q0, _⟩ := DataW.trod_int Try.underlying3 f0
    obtain ⟨a1, q1, _⟩ := DataW.trod_int Try.underlying3 f1
    simp at q0 q1
    subst q0 q1
    exact ⟨a0, a1, rfl⟩

set_option maxHeartbeats 8000000 in
set_option maxRecDepth 1000000 in
theorem law_none (a : Option Addr) (c : Nat) (w : World) :
    Calls Try.prog 4 #[.slice a 0 c] w fun e w' => e = .returned (.bool true) ∧ Below w.heap.size w w' := by
  have hfd : ∀ (a : Option Addr) (l c : Nat) (w : World), (Instr.field 39 (.agg #[.slice a l c]) 0).run Try.prog w = .ok (.slice a l c) w := fun _ _ _ _ => by kernel_rfl
  go_enter Try.func4, Try.ntmps4
  go_upto_region 5 with (go_at_call 8; refine (begin_does _).mono ?_; rintro ee w1 ⟨mb, rfl, hmb, hl⟩; have HMB := Lib.hid hmb; have HL := Lib.hid hl; clear hmb hl)
  go_loopg [8] 0 (fun kx s8 wr => s8 = .int .i64 0 ∧ Hid (wr = w1))
  case atStart => exact ⟨rfl, rfl⟩
  case round =>
    obtain ⟨rfl, hw⟩ := hrel
    obtain rfl := hw.out
    obtain ⟨nv, ov, hM, hB⟩ := HL.out
    have HB := Lib.hid hB
    clear HL hM hB HMB
    go_wp2_with (first | (go_at_call 9; (with_reducible refine (open_nil _ _).mono ?_); rintro ee w3 ⟨rfl, rfl⟩) | (go_at_call 10; (with_reducible refine (leaf_nil _ _).mono ?_); rintro ee w3 ⟨rfl, rfl⟩) | (go_at_call 11; (with_reducible refine (shut_nil _).mono ?_); rintro ee w3 ⟨rfl, rfl⟩) | (go_at_call 12; (with_reducible refine (tree_nil _).mono ?_); rintro ee w4 ⟨⟨ta, tc, rfl⟩, hb2⟩; have HB2 := Lib.hid hb2; clear hb2) | (go_at_call 9; (with_reducible refine (open_bare _ _ _ (by simp)).mono ?_); rintro ee w3 ⟨rfl, rfl⟩) | (go_at_call 15; (with_reducible refine (works_any _).mono ?_); rintro ee w3 ⟨rfl, hb3⟩; have HB3 := Lib.hid hb3; clear hb3))
    go_ret
    refine ⟨rfl, ?_⟩
    have B1 := HB.out.trans (HB2.out.mono HB.out.size)
    have B2 := B1.alloc B1.size
    exact (B2 _).trans (HB3.out.mono (B2 _).size)

theorem own : ownKnob Try.prog.godebug = none := by kernel_rfl
theorem laidOut : laidOutB Try.prog = true := by kernel_rfl

theorem law_any {H : Type} {enc : TypeId × Value → H} {w : World} {v0 : Value} {d0 : DataW H} {p0 : List MemPlace} (h0 : DataW.Trod enc Try.prog w 0 (fun _ => true) true 29 v0 d0 p0) (hok : ∃ a len cap, v0 = .slice a len cap) :
    Calls Try.prog 4 #[v0] w fun e w' => e = .returned (.bool true) ∧ Below w.heap.size w w' := by
  obtain ⟨a0, n0, k0, rfl⟩ := hok
  obtain ⟨fuel, hd⟩ := h0
  have c33 : Try.prog.cellsOf 33 = 2 := by kernel_rfl
  by_cases hz : n0 = 0
  · subst hz; exact law_none _ _ w
  · rcases open_slice Try.underlying29 hd with ⟨h1, _⟩ | ⟨a, len, cap, m, n, D, Pl, hcs, _, hl, hm, hmm, _, hi⟩
    · exfalso
      have h2 : #[Value.slice a0 n0 k0].toList = [Value.slice none 0 0] := h1
      simp at h2
      exact hz h2.2.1
    · have h2 : #[Value.slice a0 n0 k0].toList = [Value.slice (some a) len cap] := hcs
      simp at h2
      obtain ⟨rfl, rfl, rfl⟩ := h2
      rw [if_pos rfl] at hmm
      subst hmm
      have hcell : ∀ i, i < n0 → ∃ x y : Int, w.cell? (a.add (i * 2)) = some (.int .i64 x) ∧ w.cell? (a.add (i * 2 + 1)) = some (.int .i64 y) := by
        intro i hin
        obtain ⟨cs', hc1, hc2⟩ := hi i (by omega)
        rw [c33] at hc1
        obtain ⟨_, hlen, hat⟩ := World.cells?_some hc1
        obtain ⟨x, y, rfl⟩ := act_of hc2 hlen
        refine ⟨x, y, ?_, ?_⟩
        · have := hat 0 (by omega)
          rw [Go.Deep.add_add] at this
          exact this
        · rw [← Go.Deep.add_add, hat 1 (by omega)]; rfl
      obtain ⟨b, off, spot⟩ := a
      have hsp : spot = none := by
        obtain ⟨x, y, hx, _⟩ := hcell 0 (by omega)
        have h3 := World.cell?_spot hx
        simpa [Addr.add] using h3
      subst hsp
      refine law_acts b off _ _ w (by omega) fun i hin => ?_
      obtain ⟨x, y, hx, hy⟩ := hcell i hin
      rw [Addr.add_lit] at hx hy
      exact ⟨x, y, hx, by rw [← hy]; congr 2⟩

set_option maxRecDepth 100000 in
theorem lifted (os : Os) (started : os.Started) (H : Type) (enc : TypeId × Value → H) :
    ReturnsInHanded {} Try.checked os 4 .any (Rows.arenaMakesSpec.pre6 enc Try.prog Try.f4 Rows.arenaMakesRow.domain false) (Rows.arenaMakesSpec.post enc Try.prog Try.f4 false true false false) := by
  refine returnsInHanded_of_change (C := Try.checked) own started (by kernel_rfl) Try.func4
    (ChangeSpec.witness6 (enc := enc) (C := Try.checked) false ⟨#[], #[.slice none 0 0], []⟩ 8 (by kernel_rfl) (by kernel_rfl) (by kernel_rfl) (by kernel_rfl)) ?_
  intro W base args ds gs before hval0 hW hcnd _
  have hval : ∀ (j : Nat) t v, Try.f4.params[j]? = some t → args[j]? = some v → Value.okWide Try.prog W .any base t v := hval0
  have hW' := hW
  obtain ⟨p, q, hA0, hV, rfl, hfz, hnd⟩ := hW
  have hA : DataW.TrodAll enc Try.prog W 0 (fun _ => true) true Try.f4.params.toList args.toList ds p := hA0
  rw [Try.params4] at hA hval
  obtain ⟨v0, d0, rfl, rfl, h0⟩ := trodAll_one hA
  obtain ⟨rfl, rfl⟩ := trodVars_none hV
  simp only [List.append_nil] at hW'
  refine (law_any h0 (okWide_slice Try.underlying29 (hval 0 29 v0 rfl rfl))).mono fun e W' ⟨he, hb⟩ => ?_
  subst he
  have hlt : ∀ x ∈ p, x.block < W.heap.size := fun x hx => hW'.lt x (by simpa using hx)
  have t0 : ∀ sp : Nat → Bool, (∀ x ∈ p, sp x.block = true) → DataW.Trod enc Try.prog W' 0 sp true 29 v0 d0 p := fun sp hsp =>
    WideElems.Trod_stays laidOut (by kernel_rfl) (of_decide_eq_true (by kernel_rfl)) h0 (fun x hx => hb.same (hlt x hx)) hsp
  have hold : ∀ x ∈ p, (fun b => decide (b < W.heap.size)) x.block = true := fun x hx => by simpa using hlt x hx
  refine ⟨_, rfl, _, _, _, [], p, [], hW', trodAll_mk1 (shut_bool Try.underlying4 _), trodAll_mk1 (t0 _ hold), rfl, ?_, fun h => by cases h⟩
  refine World.keptBut_mono (fun x hx => ⟨hx, ?_⟩) (hb.frame (· ∈ p))
  simpa using hx

theorem arenaMakes_holds : Rows.ArenaMakesSaid :=
  OpenClaim.holds_of_wide 4 Try.f4 rfl rfl rfl rfl rfl rfl rfl ⟨rfl, rfl, rfl, rfl, rfl⟩ rfl rfl rfl rfl rfl (by kernel_rfl) Try.func4 (by kernel_rfl)
    (of_decide_eq_true (by kernel_rfl)) (by unfold Func.isWrapper; first | (rw [if_pos (by decide +kernel)]; kernel_rfl) | (rw [if_neg (by decide +kernel)]; exact ⟨rfl, rfl⟩))
    (fun os started H enc _ => lifted os started H enc)
end Go.Proofs.Ytkepcgknjfmgdaa
