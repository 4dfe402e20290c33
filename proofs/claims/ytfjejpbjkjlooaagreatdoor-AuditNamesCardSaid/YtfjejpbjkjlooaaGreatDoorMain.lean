/-
  AuditNames: each flaw has a name, and no two the same one: the call returns true whatever two numbers it is given, and the arguments read behind it as before. The tied card: the listed package-level variables begin as the program's text lays them.
-/
import Derived.Test.YtfjejpbjkjlooaaGreatDoorLaw
import Derived.Test.YtfjejpbjkjlooaaGreatDoorCards
import Derived.Test.YtfjejpbjkjlooaaGreatDoorTie
import Derived.ProofKit
import Derived.OpenShut
import Derived.LaidMore
import Derived.Lay
import Derived.SevenTiedAt
import Derived.Stop.Joined
namespace Go.Proofs.YtfjejpbjkjlooaaGreatDoor
open Go.ChangeShapes Go.WideShapes Go.ChangeAt Go.RowKit

theorem own : ownKnob Tryz.prog.godebug = none := by kernel_rfl

theorem tab_of {W : World} {fuel : Nat} {t E : TypeId} {n : Nat} {k : IntKind} {zs : List Nat} {cs : Array Value} {p : List MemPlace} (hu : Tryz.prog.underlying t = some (.array n E)) (hE : Tryz.prog.underlying E = some (.int k)) (hc : Tryz.prog.cellsOf E = 1)
    (hn : zs.length = n) (hd : DataW.trod (fun _ => ()) Tryz.prog W 0 (fun _ => true) false fuel t cs.toList = some (.agg (zs.map fun z => .lit (.int k (z : Nat))), p)) : ∀ i z : Nat, zs[i]? = some z → cs[i]? = some (Value.int k (z : Nat)) := by
  intro i z hz
  have hi : i < zs.length := (List.getElem?_eq_some_iff.1 hz).1
  obtain ⟨xs, m, _, ex, _, hl, hel⟩ := DataW.trod_array hu hd
  have h1 := hel i (by omega)
  rw [hc, Nat.mul_one, List.getElem?_eq_getElem (by omega)] at h1
  obtain ⟨y, e1, e2, _⟩ := DataW.trod_int hE h1
  have e3 : (xs.map (·.1)) = zs.map fun n => .lit (.int k (n : Nat)) := (DataW.agg.inj (Prod.mk.inj ex).1).symm
  have e4 : (xs.map (·.1))[i]? = (zs.map fun n => (DataW.lit (.int k (n : Nat)) : DataW Unit))[i]? := by rw [e3]
  rw [List.getElem?_map, List.getElem?_map, List.getElem?_eq_getElem (by omega : i < xs.length), hz, e2] at e4
  have hy : y = (z : Nat) := by simpa using e4
  have : cs.toList[i]? = some (.int k y) := by
    have h0 : ((cs.toList.drop i).take 1)[0]? = some (.int k y) := by rw [e1]; rfl
    simpa using h0
  rw [hy] at this
  simpa using this

theorem of_laid {W : World} (h : laidMetH Tryz.prog Rows.auditNamesRow.laid W) : Laid W := by
  rw [MakeChecks.laidMetH_plain _ _ _ (by kernel_rfl)] at h
  obtain ⟨ps, ⟨ga, ta, csa, fa, pa, qa, hga, hta, hva, hda, ⟨gb, tb, csb, fb, pb, qb, hgb, htb, hvb, hdb, ⟨gc, tc, csc, fc, pc, qc, hgc, htc, hvc, hdc, _⟩, _⟩, _⟩, _, _⟩ := h
  obtain rfl := Option.some.inj ((show Tryz.prog.globalNamed "math/bits.deBruijn32tab" = some 5 by kernel_rfl).symm.trans hga)
  obtain rfl := Option.some.inj ((show Tryz.prog.globalNamed "math/bits.deBruijn64tab" = some 0 by kernel_rfl).symm.trans hgb)
  obtain rfl := Option.some.inj ((show Tryz.prog.globalNamed "internal/strconv.uint64pow10" = some 4 by kernel_rfl).symm.trans hgc)
  obtain rfl := Option.some.inj ((show (Tryz.prog.globals[0]?).map (·.type) = some 312 by kernel_rfl).symm.trans htb)
  obtain rfl := Option.some.inj ((show (Tryz.prog.globals[4]?).map (·.type) = some 498 by kernel_rfl).symm.trans htc)
  have block : ∀ {n : String} {g : Nat} {cs : Array Value}, Tryz.prog.globalNamed n = some g → W.var? Tryz.prog n = some cs → ∃ ty fr, W.heap[g]? = some (.cells cs ty fr) := by
    intro n g cs hg hv
    simp only [World.var?, hg, Option.bind_some] at hv
    split at hv
    · next cs' ty fr hh => cases hv; exact ⟨ty, fr, hh⟩
    · cases hv
  obtain ⟨tya, fra, ba⟩ := block hga hva
  obtain ⟨tyb, frb, bb⟩ := block hgb hvb
  obtain ⟨tyc, frc, bc⟩ := block hgc hvc
  refine ⟨?_, ⟨tyb, csb, frb, bb, ?_⟩, ⟨tyc, csc, frc, bc, ?_⟩⟩
  · have := (Array.getElem?_eq_some_iff.1 ba).1
    omega
  · exact tab_of (zs := d64) (k := .u8) Tryz.underlying312 Tryz.underlying5 (by kernel_rfl) rfl hdb
  · exact tab_of (zs := p10) (k := .u64) Tryz.underlying498 Tryz.underlying222 (by kernel_rfl) rfl hdc

set_option maxRecDepth 100000 in
theorem lifted (os : Os) (started : os.Started) (H : Type) (enc : TypeId × Value → H) :
    ReturnsInHanded {} Tryz.checked os 3 .any (fun w args => (Rows.auditNamesSpec.pre enc Tryz.prog Tryz.f3 [] false w args ∧ laidMetH Tryz.prog Rows.auditNamesRow.laid w) ∧ sizedMet enc Tryz.prog Tryz.f3 (OpenSpec.ofChange Rows.auditNamesSpec) false w args)
      (Rows.auditNamesSpec.post enc Tryz.prog Tryz.f3 false true false false) := by
  refine returnsInHanded_of_change_and (C := Tryz.checked) (X := fun w _ => laidMetH Tryz.prog Rows.auditNamesRow.laid w) (fun _ _ _ hh h => h.of_heap hh) own started (by kernel_rfl) Tryz.func3
    (ChangeSpec.witness_shaped (enc := enc) (C := Tryz.checked) (os := os) (X := fun w _ => laidMetH Tryz.prog Rows.auditNamesRow.laid w) false (World.laidAll Tryz.prog os Rows.auditNamesRow.laid) #[.int .i64 0, .int .i64 0] 8 (World.laidAll_os _ _ _)
      (World.shaped_of_ZipB (by kernel_rfl) (by kernel_rfl)) (by kernel_rfl) (by kernel_rfl) (by kernel_rfl)
      (by rw [MakeChecks.laidMetH_plain _ _ _ (by kernel_rfl)]; exact laidMet_laidAll _ (by kernel_rfl) (by kernel_rfl))) ?_
  intro W base args ds gs before hval0 hW _ _ hL _
  have hval : ∀ (j : Nat) t v, Tryz.f3.params[j]? = some t → args[j]? = some v → Value.okWide Tryz.prog W .any base t v := hval0
  have hW' := hW
  obtain ⟨p, q, hA0, hV, rfl, _, _⟩ := hW
  have hA : DataW.TrodAll enc Tryz.prog W 0 (fun _ => true) true Tryz.f3.params.toList args.toList ds p := hA0
  rw [Tryz.params3] at hA hval
  obtain ⟨v0, v1, d0, d1, p0, p1, rfl, rfl, rfl, h0, h1⟩ := trodAll_two hA
  obtain ⟨rfl, rfl⟩ := trodVars_none hV
  obtain ⟨a, rfl, rfl, rfl, wa⟩ := open_int Tryz.underlying3 (hval 0 3 v0 rfl rfl) h0
  obtain ⟨b, rfl, rfl, rfl, wb⟩ := open_int Tryz.underlying3 (hval 1 3 v1 rfl rfl) h1
  simp only [List.append_nil] at hW'
  refine (law_any a b W (of_laid hL)).mono fun e W' ⟨he, hb⟩ => ?_
  subst he
  exact ⟨_, rfl, _, _, _, [], [], [], hW', trodAll_mk1 (shut_bool Tryz.underlying4 _), trodAll_mk2 (shut_int Tryz.underlying3 wa) (shut_int Tryz.underlying3 wb), rfl, hb.frame _, fun h => by cases h⟩

end Go.Proofs.YtfjejpbjkjlooaaGreatDoor
