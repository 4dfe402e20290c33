/-
  SessionNobody: whatever text and number it is given: the call returns true; the listed package-level variables begin as the program's text lays them.
-/
import Derived.Test.YtnaekhjaflfbjaaGreatDoorLaw
import Derived.Test.YtnaekhjaflfbjaaGreatDoorGoes
import Derived.Test.YtnaekhjaflfbjaaGreatDoorFacts
import Derived.Test.YtnaekhjaflfbjaaGreatDoorCards
import Derived.Test.YtnaekhjaflfbjaaGreatDoorTie
import Derived.SevenTiedAt
import Derived.ProofKit
import Derived.OpenShut
import Derived.Carry
import Derived.Deep.Slices
import Derived.Deep.Fields
import Derived.ChangeSame
import Derived.LaidMore
import Derived.Lay
import Derived.Stop.Joined
set_option linter.unusedVariables false
set_option maxRecDepth 100000
namespace Go.Proofs.YtnaekhjaflfbjaaGreatDoor
open Go.Ae Go.ChangeShapes Go.WideShapes Go.ChangeAt Go.RowKit Go.Deep

theorem own : ownKnob Tryz.prog.godebug = none := by kernel_rfl
theorem laidOut : laidOutB Tryz.prog = true := by kernel_rfl
theorem tab_of {W : World} {fuel : Nat} {t E : TypeId} {n : Nat} {k : IntKind} {zs : List Nat} {cs : Array Value} {p : List MemPlace} (hu : Tryz.prog.underlying t = some (.array n E)) (hE : Tryz.prog.underlying E = some (.int k)) (hc : Tryz.prog.cellsOf E = 1)
    (hn : zs.length = n) (hd : DataW.trod (fun _ => ()) Tryz.prog W 0 (fun _ => true) false fuel t cs.toList = some (.agg (zs.map fun z => .lit (.int k (z : Nat))), p)) : ∀ i z : Nat, zs[i]? = some z → cs[i]? = some (Value.int k (z : Nat)) := by
  intro i z hz
  have hi : i < zs.length := (List.getElem?_eq_some_iff.1 hz).1
  obtain ⟨xs, m, _, ex, _, hl, hel⟩ := DataW.trod_array hu hd
  have h1 := hel i (by omega)
  rw [hc, Nat.mul_one, List.getElem?_eq_getElem (by omega)] at h1
  obtain ⟨y, e1, e2, _⟩ := DataW.trod_int hE h1
  have e3 : (xs.map (·.1)) = zs.map fun n => .lit (.int k (n : Nat)) := (DataW.agg.inj (Prod.mk.inj ex).1).symm
  have e4 : (xs.map (·.1))[i]? = (zs.map fun n => (DataW.lit (.int k (n : Nat)) : DataW Unit))[i]? := by rw [e3]
  rw [List.getElem?_map, List.getElem?_map, List.getElem?_eq_getElem (by omega : i < xs.length), hz, e2] at e4
  have hy : y = (z : Nat) := by simpa using e4
  have : cs.toList[i]? = some (.int k y) := by
    have h0 : ((cs.toList.drop i).take 1)[0]? = some (.int k y) := by rw [e1]; rfl
    simpa using h0
  rw [hy] at this
  simpa using this
theorem of_laid {W : World} (h6 : 6 ≤ W.heap.size) (h : laidMetH Tryz.prog Rows.sessionNobodyRow.laid W) : Laid W := by
  rw [MakeChecks.laidMetH_plain _ _ _ (by kernel_rfl)] at h
  obtain ⟨ps, ⟨ga, ta, csa, fa, pa, qa, hga, hta, hva, hda, ⟨gb, tb, csb, fb, pb, qb, hgb, htb, hvb, hdb, ⟨gc, tc, csc, fc, pc, qc, hgc, htc, hvc, hdc, ⟨gd, td, csd, fd, pd, qd, hgd, htd, hvd, hdd, _⟩, _⟩, _⟩, _⟩, _, _⟩ := h
  obtain rfl := Option.some.inj ((show Tryz.prog.globalNamed "math/bits.deBruijn32tab" = some 4 by kernel_rfl).symm.trans hga)
  obtain rfl := Option.some.inj ((show Tryz.prog.globalNamed "math/bits.deBruijn64tab" = some 0 by kernel_rfl).symm.trans hgb)
  obtain rfl := Option.some.inj ((show Tryz.prog.globalNamed "internal/strconv.uint64pow10" = some 1 by kernel_rfl).symm.trans hgc)
  obtain rfl := Option.some.inj ((show (Tryz.prog.globals[0]?).map (·.type) = some 466 by kernel_rfl).symm.trans htb)
  obtain rfl := Option.some.inj ((show (Tryz.prog.globals[1]?).map (·.type) = some 481 by kernel_rfl).symm.trans htc)
  have block : ∀ {n : String} {g : Nat} {cs : Array Value}, Tryz.prog.globalNamed n = some g → W.var? Tryz.prog n = some cs → ∃ ty fr, W.heap[g]? = some (.cells cs ty fr) := by
    intro n g cs hg hv
    simp only [World.var?, hg, Option.bind_some] at hv
    split at hv
    · next cs' ty fr hh => cases hv; exact ⟨ty, fr, hh⟩
    · cases hv
  obtain ⟨tyb, frb, bb⟩ := block hgb hvb
  obtain ⟨tyc, frc, bc⟩ := block hgc hvc
  refine ⟨h6, ⟨tyb, csb, frb, bb, ?_⟩, ⟨tyc, csc, frc, bc, ?_⟩⟩
  · exact tab_of (zs := d64) (k := .u8) Tryz.underlying466 Tryz.underlying5 (by kernel_rfl) rfl hdb
  · exact tab_of (zs := p10) (k := .u64) Tryz.underlying481 Tryz.underlying109 (by kernel_rfl) rfl hdc
theorem g5 : (((begin Tryz.prog (fun _ _ => 0) default).world.heap[5]?).bind Obj.row?).isSome = true := by kernel_rfl
theorem gsz : Nat.blt 5 Tryz.prog.globals.size = true := by kernel_rfl
theorem six_le {W : World} (h : W.ShapedOpen Tryz.prog) : 6 ≤ W.heap.size := by
  obtain ⟨⟨z, t⟩, hz⟩ := Option.isSome_iff_exists.1 g5
  obtain ⟨cs, h1, _⟩ := h.1 5 z t (Nat.le_of_ble_eq_true (n := 6) gsz) hz
  have := (Array.getElem?_eq_some_iff.1 h1).1
  omega
theorem lifted (os : Os) (started : os.Started) (H : Type) (enc : TypeId × Value → H) :
    ReturnsInHanded {} Tryz.checked os 3 .any (fun w args => (Rows.sessionNobodySpec.pre enc Tryz.prog Tryz.f3 [] false w args ∧ laidMetH Tryz.prog Rows.sessionNobodyRow.laid w) ∧ sizedMet enc Tryz.prog Tryz.f3 (OpenSpec.ofChange Rows.sessionNobodySpec) false w args)
      (Rows.sessionNobodySpec.post enc Tryz.prog Tryz.f3 false true false false) := by
  refine returnsInHanded_of_calls (C := Tryz.checked) own started (by kernel_rfl)
    (ChangeSpec.witness_shaped (enc := enc) (C := Tryz.checked) (os := os) (X := fun w _ => laidMetH Tryz.prog Rows.sessionNobodyRow.laid w) false (World.laidAll Tryz.prog os Rows.sessionNobodyRow.laid) #[.string ⟨#[]⟩, .int .i64 0] 8 (World.laidAll_os _ _ _)
      (World.shaped_of_ZipB (by kernel_rfl) (by kernel_rfl)) (by kernel_rfl) (by kernel_rfl) (by kernel_rfl)
      (by rw [MakeChecks.laidMetH_plain _ _ _ (by kernel_rfl)]; exact laidMet_laidAll _ (by kernel_rfl) (by kernel_rfl))) ?_
  intro w0 tape i _ hsh _ hok hpre _
  obtain ⟨_, _, _, fn', hfn', _, _, _, _, hval0⟩ := hok
  obtain rfl : fn' = Tryz.f3 := Option.some.inj (hfn'.symm.trans Tryz.func3)
  obtain ⟨⟨⟨ds, gs, before, hw, _⟩, hx⟩, _⟩ := hpre
  have hW := DataW.Whole.of_heap (w' := w0.forCall tape i) (by rfl) hw
  have hL : laidMetH Tryz.prog Rows.sessionNobodyRow.laid (w0.forCall tape i) := laidMetH.of_heap (by rfl) hx
  have h6 := six_le hsh
  suffices hmain : Calls Tryz.prog 3 i.args (w0.forCall tape i) fun e W' => ∃ v, e = .returned v ∧ Rows.sessionNobodySpec.post enc Tryz.prog Tryz.f3 false true false false (w0.forCall tape i) i.args v W' from
    hmain.mono fun e W' ⟨v, he, hp⟩ => by subst he; exact ChangeSpec.post_blind hp
  have hval : ∀ (j : Nat) t v, Tryz.f3.params[j]? = some t → i.args[j]? = some v → Value.okWide Tryz.prog (w0.forCall tape i) .any w0.heap.size t v := hval0
  clear hval0 hw hx hsh
  generalize w0.forCall tape i = W at *
  generalize i.args = args at *
  have hW' := hW
  obtain ⟨p, q, hA0, hV, rfl, _, _⟩ := hW
  have hA : DataW.TrodAll enc Tryz.prog W 0 (fun _ => true) true Tryz.f3.params.toList args.toList ds p := hA0
  rw [Tryz.params3] at hA hval
  obtain ⟨v0, vs0, d0, ds0, p0, q0, hargs, rfl, rfl, h0, r0⟩ := trodAll_cons hA
  obtain ⟨v1, vs1, d1, ds1, p1, q1, rfl, rfl, rfl, h1, r1⟩ := trodAll_cons r0
  obtain ⟨rfl, rfl, rfl⟩ := trodAll_nil r1
  obtain rfl : args = #[v0, v1] := by cases args; simp_all
  obtain ⟨rfl, rfl⟩ := trodVars_none hV
  simp only [List.append_nil] at hW'
  obtain ⟨fuel, hd⟩ := id h0
  obtain ⟨s, rfl⟩ := okWide_string Tryz.underlying9 (hval 0 9 v0 rfl rfl)
  obtain ⟨z, rfl, rfl, rfl, hz⟩ := open_int Tryz.underlying3 (hval 1 3 v1 rfl rfl) h1
  refine (law_any s z W (of_laid h6 hL)).mono fun e W' ⟨he, hb⟩ => ?_
  subst he
  have hlt : ∀ x ∈ p0, x.block < W.heap.size := fun x hx => hW'.lt x (by simpa using hx)
  have g0 : DataW.Trod enc Tryz.prog W' 0 (fun b => decide (b < W.heap.size)) true 9 (.string s) d0 p0 :=
    WideElems.Trod_stays laidOut (by kernel_rfl) (of_decide_eq_true (by kernel_rfl)) h0 (fun x hx => hb.same (hlt x hx)) (fun x hx => by simpa using hlt x hx)
  have g1 : DataW.Trod enc Tryz.prog W' 0 (fun b => decide (b < W.heap.size)) true 3 (.int .i64 z) (.lit (.int .i64 z)) [] :=
    WideElems.Trod_stays laidOut (by kernel_rfl) (of_decide_eq_true (by kernel_rfl)) h1 (fun x hx => by cases hx) (fun x hx => by cases hx)
  refine ⟨_, rfl, _, _, _, [], p0 ++ ([] ++ []), [], hW', trodAll_mk1 (shut_bool Tryz.underlying4 _), trodAll_cons_mk g0 (trodAll_cons_mk g1 trodAll_mk0), rfl, ?_, fun h => by cases h⟩
  simp only [List.append_nil]
  refine World.keptBut_mono (fun x hx => ⟨hx, ?_⟩) (hb.frame (· ∈ p0))
  simpa using hx
theorem named : Tryz.pinned.checked.prog.funcNamed Rows.sessionNobodyRow.func = some 3 := by kernel_rfl
theorem instance' : Tryz.f3.isInstance Tryz.pinned.checked.prog Rows.sessionNobodyRow.origin Rows.sessionNobodyRow.targs := of_decide_eq_true (by kernel_rfl)
theorem wrapper : Tryz.f3.isWrapper Tryz.pinned.checked.prog Rows.sessionNobodyRow.wrapper Rows.sessionNobodyRow.mainSum := by
  unfold Func.isWrapper
  first | (rw [if_pos (by decide +kernel)]; kernel_rfl) | (rw [if_neg (by decide +kernel)]; exact ⟨rfl, rfl⟩)
theorem holds : Rows.SessionNobodySaid :=
  OpenClaim.holds_of_wide 3 Tryz.f3 rfl rfl rfl rfl rfl rfl rfl ⟨rfl, rfl, rfl, rfl, rfl⟩ rfl rfl rfl rfl rfl named Tryz.func3 closed instance' wrapper (fun os started H enc _ => lifted os started H enc)
theorem card_wf : Rows.sessionNobodyRow.wfByText (OpenSpec.ofChange Rows.sessionNobodySpec) = true := by kernel_rfl
theorem card_main : Tryz.pinned.checked.prog.mainIs = some (true, "7569d0652d7f0bae081ce1ddbfc6868a3c7969cac5a23be8c10c0117a339fa12".toList) := by kernel_rfl
theorem card_named : Tryz.prog.funcNamed "souffleur/souffleurlaw34.SessionNobody" = some 3 := by kernel_rfl
theorem card_looks : false = Tryz.pinned.checked.prog.looks [] := by kernel_rfl
theorem card_stand : ([9, 3].all fun u => !Tryz.prog.wantsStandIn u) = true := by kernel_rfl
theorem card_goes : false = Rows.sessionNobodyRow.goesBy Tryz.pinned.checked.prog := goesBy_none (P := Tryz.pinned.checked.prog) none_goes Rows.sessionNobodyRow rfl
theorem sessionNobody_card : Rows.SessionNobodyCardSaid :=
  Claim7.holds_tied_plain_at .later [] [.data, .data, .data, .data, .pinned] true (true, "7569d0652d7f0bae081ce1ddbfc6868a3c7969cac5a23be8c10c0117a339fa12") false holds (fun _ h => by cases h) card_wf (fun _ h => by cases h) sessionNobody_row_tie rfl ⟨rfl, rfl⟩ card_main rfl
    (fun f fn hf hfn => by
      obtain rfl : f = 3 := Option.some.inj (card_named.symm.trans hf) |>.symm
      obtain rfl : fn = Tryz.f3 := (Option.some.inj (Tryz.func3.symm.trans hfn)).symm
      exact ⟨card_looks, fun j t ht => by
        rw [Tryz.params3] at ht
        have hm : t ∈ [9, 3] := by simpa using Array.mem_of_getElem? ht
        exact (show Tryz.prog.wantsStandIn t = false by simpa using List.all_eq_true.1 card_stand t hm)⟩)
    card_goes
#print axioms sessionNobody_card
end Go.Proofs.YtnaekhjaflfbjaaGreatDoor
