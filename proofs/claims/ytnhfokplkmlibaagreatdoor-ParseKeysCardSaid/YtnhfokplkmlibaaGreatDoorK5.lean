/-
  ParseKeys: whatever numbers, and rows of numbers, it is given: the call returns true, and the arguments read behind it as before; the listed package-level variables begin as the program's text lays them.
-/
import Derived.Test.YtnhfokplkmlibaaGreatDoorK4
import Derived.Test.YtnhfokplkmlibaaGreatDoorFacts
import Derived.SevenTiedAt
import Derived.Stop.Joined
set_option linter.unusedSimpArgs false
set_option linter.unusedVariables false
set_option maxRecDepth 100000
namespace Go.Proofs.YtnhfokplkmlibaaGreatDoor
open Go.Ae Go.Ae.Keys Go.Proofs.Lk Go.ChangeShapes Go.WideShapes Go.ChangeAt Go.RowKit Go.Deep

theorem own : ownKnob Tryz.prog.godebug = none := by kernel_rfl
theorem laidOut : laidOutB Tryz.prog = true := by kernel_rfl
theorem of_laid {W : World} (h : laidMetH Tryz.prog Rows.parseKeysRow.laid W) : Lk.Laid W := by
  rw [MakeChecks.laidMetH_plain _ _ _ (by kernel_rfl)] at h
  obtain ⟨ps, ⟨ga, ta, csa, fa, pa, qa, hga, hta, hva, hda, ⟨gb, tb, csb, fb, pb, qb, hgb, htb, hvb, hdb, _⟩, _⟩, _, _⟩ := h
  obtain rfl := Option.some.inj ((show Tryz.prog.globalNamed "unicode/utf8.acceptRanges" = some 2 by kernel_rfl).symm.trans hga)
  obtain rfl := Option.some.inj ((show Tryz.prog.globalNamed "unicode/utf8.first" = some 1 by kernel_rfl).symm.trans hgb)
  obtain rfl := Option.some.inj ((show (Tryz.prog.globals[2]?).map (·.type) = some 381 by kernel_rfl).symm.trans hta)
  obtain rfl := Option.some.inj ((show (Tryz.prog.globals[1]?).map (·.type) = some 378 by kernel_rfl).symm.trans htb)
  have block : ∀ {n : String} {g : Nat} {cs : Array Value}, Tryz.prog.globalNamed n = some g → W.var? Tryz.prog n = some cs → ∃ ty fr, W.heap[g]? = some (.cells cs ty fr) := by
    intro n g cs hg hv
    simp only [World.var?, hg, Option.bind_some] at hv
    split at hv
    · next cs' ty fr hh => cases hv; exact ⟨ty, fr, hh⟩
    · cases hv
  obtain ⟨tya, fra, ba⟩ := block hga hva
  obtain ⟨tyb, frb, bb⟩ := block hgb hvb
  refine ⟨?_, ⟨tyb, csb, frb, bb, first_of hdb⟩, ⟨tya, csa, fra, ba, ranges_of hda⟩⟩
  have := (Array.getElem?_eq_some_iff.1 ba).1
  omega
/-- two numbers that are handed. -/
theorem nums_of {H : Type} {enc : TypeId × Value → H} {W : World} {v : Value} {d : DataW H} {p : List MemPlace} (h : DataW.Trod enc Tryz.prog W 0 (fun _ => true) true 22 v d p) {cs : Array Value} (hv : v = .agg cs) :
    ∃ a b : Int, v = .agg ⟨[vi a, vi b]⟩ ∧ In a ∧ In b := by
  subst hv
  obtain ⟨fuel, hd⟩ := h
  have c3 : Tryz.prog.cellsOf 3 = 1 := by kernel_rfl
  have c22 : Tryz.prog.cellsOf 22 = 2 := by kernel_rfl
  obtain ⟨xs, m, _, ex, hl, hn, hel⟩ := DataW.trod_array Tryz.underlying22 hd
  rw [c22] at hl
  have wf : ∀ z : Int, (Lit.int IntKind.i64 z).wf = true → In z := by
    intro z e3
    have e3 : (decide (IntKind.i64.min ≤ z) && decide (z ≤ IntKind.i64.max)) = true := e3
    rw [Bool.and_eq_true, decide_eq_true_iff, decide_eq_true_iff] at e3
    have m1 : IntKind.i64.min = -9223372036854775808 := by decide
    have m2 : IntKind.i64.max = 9223372036854775807 := by decide
    rw [m1, m2] at e3
    exact ⟨e3.1, by omega⟩
  obtain ⟨l⟩ := cs
  have hl : l.length = 2 := hl
  match l, hl with
  | [x, y], _ =>
    have f0 := hel 0 (by omega)
    have f1 := hel 1 (by omega)
    rw [c3, List.getElem?_eq_getElem (by omega)] at f0 f1
    have g0 : DataW.trod enc Tryz.prog W 0 (fun _ => true) true m 3 [x] = some xs[0] := f0
    have g1 : DataW.trod enc Tryz.prog W 0 (fun _ => true) true m 3 [y] = some xs[1] := f1
    obtain ⟨a, e1, _, w1⟩ := DataW.trod_int Tryz.underlying3 g0
    obtain ⟨b, e2, _, w2⟩ := DataW.trod_int Tryz.underlying3 g1
    cases e1
    cases e2
    exact ⟨a, b, rfl, wf a w1, wf b w2⟩
/-- two rows of numbers that are handed. -/
theorem rows_of {H : Type} {enc : TypeId × Value → H} {W : World} {v : Value} {d : DataW H} {p : List MemPlace} (h : DataW.Trod enc Tryz.prog W 0 (fun _ => true) true 24 v d p) {cs : Array Value} (hv : v = .agg cs) (hw : ∀ x ∈ DataW.weights Tryz.prog 24 d, x ≤ reachBytes) :
    ∃ (x y : Value) (l m : List Int), v = .agg ⟨[x, y]⟩ ∧ IntsAt (absH W T0) x l ∧ l.length ≤ 140737488355328 ∧ VR (tmap W (absH W T0)) x x ∧ IntsAt (absH W T0) y m ∧ m.length ≤ 140737488355328 ∧ VR (tmap W (absH W T0)) y y := by
  subst hv
  obtain ⟨fuel, hd⟩ := h
  have c23 : Tryz.prog.cellsOf 23 = 1 := by kernel_rfl
  have c24 : Tryz.prog.cellsOf 24 = 2 := by kernel_rfl
  obtain ⟨xs, m, _, ex, hl, hn, hel⟩ := DataW.trod_array Tryz.underlying24 hd
  rw [c24] at hl
  obtain ⟨l⟩ := cs
  have hl : l.length = 2 := hl
  have ed : d = .agg (xs.map (·.1)) := (Prod.mk.inj ex).1
  match l, hl with
  | [x, y], _ =>
    have f0 := hel 0 (by omega)
    have f1 := hel 1 (by omega)
    rw [c23, List.getElem?_eq_getElem (by omega)] at f0 f1
    match xs, hn, ed, f0, f1 with
    | [(d0, p0), (d1, p1)], _, ed, f0, f1 =>
      have g0 : DataW.trod enc Tryz.prog W 0 (fun _ => true) true m 23 [x] = some (d0, p0) := f0
      have g1 : DataW.trod enc Tryz.prog W 0 (fun _ => true) true m 23 [y] = some (d1, p1) := f1
      have hws : DataW.weights Tryz.prog 24 d = DataW.weights Tryz.prog 23 d0 ++ (DataW.weights Tryz.prog 23 d1 ++ []) := by
        rw [ed]
        show DataW.weights Tryz.prog 24 (.agg [d0, d1]) = _
        simp only [DataW.weights, Tryz.underlying24, DataW.weightsAll]
      rw [hws] at hw
      obtain ⟨l0, h1, h2, h3⟩ := ints_of g0 (fun z hz => hw z (List.mem_append_left _ hz))
      obtain ⟨l1, h4, h5, h6⟩ := ints_of g1 (fun z hz => hw z (by simp [hz]))
      exact ⟨x, y, l0, l1, rfl, h1, h2, h3, h4, h5, h6⟩
theorem law_any {W : World} (hL : Lk.Laid W) {H : Type} {enc : TypeId × Value → H} {v0 v1 v2 : Value} {d0 d1 d2 : DataW H} {p0 p1 p2 : List MemPlace} (h0 : DataW.Trod enc Tryz.prog W 0 (fun _ => true) true 22 v0 d0 p0) (h1 : DataW.Trod enc Tryz.prog W 0 (fun _ => true) true 24 v1 d1 p1) (h2 : DataW.Trod enc Tryz.prog W 0 (fun _ => true) true 24 v2 d2 p2)
    (o0 : ∃ cs, v0 = .agg cs) (o1 : ∃ cs, v1 = .agg cs) (o2 : ∃ cs, v2 = .agg cs) (hw : (DataW.weightsEach Tryz.prog [22, 24, 24] [d0, d1, d2]).all (· ≤ reachBytes) = true) :
    Calls Tryz.prog 3 #[v0, v1, v2] W fun e w' => e = .returned (.bool true) ∧ Below W.heap.size W w' := by
  obtain ⟨c0, o0⟩ := o0
  obtain ⟨c1, o1⟩ := o1
  obtain ⟨c2, o2⟩ := o2
  have hw : ∀ x ∈ DataW.weights Tryz.prog 22 d0 ++ (DataW.weights Tryz.prog 24 d1 ++ (DataW.weights Tryz.prog 24 d2 ++ [])), x ≤ reachBytes := by
    intro x hx
    have := List.all_eq_true.1 hw x hx
    simpa using this
  obtain ⟨a, b, rfl, ha, hb⟩ := nums_of h0 o0
  obtain ⟨x1, y1, l1, m1, rfl, g1, g2, g3, g4, g5, g6⟩ := rows_of h1 o1 (fun z hz => hw z (by simp [hz]))
  obtain ⟨x2, y2, l2, m2, rfl, k1, k2, k3, k4, k5, k6⟩ := rows_of h2 o2 (fun z hz => hw z (by simp [hz]))
  have hwf : Wf (absH W T0) := Nat.le_refl _
  have hlaw := law_spec hwf hL.tabs ha hb g1 g4 k1 k4 g2 g5 k2 k5
  refine read_call (P := Tryz.prog) (X := X) (H := absH W T0) (b := true) (args := [.agg ⟨[vi a, vi b]⟩, .agg ⟨[x1, y1]⟩, .agg ⟨[x2, y2]⟩]) hL.size mixed (FnsOk.of_all fns) xs ors Tryz.func3 (by kernel_rfl) ?_ (Nat.le_refl _) (absH_rd fun r o h => nomatch h) (args' := [_, _, _]) ?_
  · exact CallP.mono hlaw fun v H' ⟨e, hx⟩ => ⟨e, hx.low _ (Nat.le_refl _) (Nat.le_refl _) fun _ h => nomatch h⟩
  · exact .cons _ _ _ _ (.agg _ _ (.cons _ _ _ _ (.sc _ rfl) (.cons _ _ _ _ (.sc _ rfl) .nil))) (.cons _ _ _ _ (.agg _ _ (.cons _ _ _ _ g3 (.cons _ _ _ _ g6 .nil))) (.cons _ _ _ _ (.agg _ _ (.cons _ _ _ _ k3 (.cons _ _ _ _ k6 .nil))) .nil))
theorem okWide_agg {P : Program} {w : World} {r : Reach} {base : Nat} {t e : TypeId} {n : Nat} {v : Value} (ht : P.underlying t = some (.array n e)) (h : Value.okWide P w r base t v) : ∃ cs, v = .agg cs := by
  unfold Value.okWide at h
  rw [ht] at h
  obtain ⟨cs, h1, _⟩ := h
  exact ⟨cs, h1⟩
theorem lifted (os : Os) (started : os.Started) (H : Type) (enc : TypeId × Value → H) :
    ReturnsInHanded {} Tryz.checked os 3 .any (fun w args => (Rows.parseKeysSpec.pre enc Tryz.prog Tryz.f3 [] false w args ∧ laidMetH Tryz.prog Rows.parseKeysRow.laid w) ∧ sizedMet enc Tryz.prog Tryz.f3 (OpenSpec.ofChange Rows.parseKeysSpec) false w args)
      (Rows.parseKeysSpec.post enc Tryz.prog Tryz.f3 false true false false) := by
  refine returnsInHanded_of_change_and (C := Tryz.checked) (X := fun w _ => laidMetH Tryz.prog Rows.parseKeysRow.laid w) (fun _ _ _ hh h => h.of_heap hh) own started (by kernel_rfl) Tryz.func3
    (ChangeSpec.witness_shaped (enc := enc) (C := Tryz.checked) (os := os) (X := fun w _ => laidMetH Tryz.prog Rows.parseKeysRow.laid w) false (World.laidAll Tryz.prog os Rows.parseKeysRow.laid) #[.agg ⟨[vi 0, vi 0]⟩, .agg ⟨[.slice none 0 0, .slice none 0 0]⟩, .agg ⟨[.slice none 0 0, .slice none 0 0]⟩] 8 (World.laidAll_os _ _ _)
      (World.shaped_of_ZipB (by kernel_rfl) (by kernel_rfl)) (by kernel_rfl) (by kernel_rfl) (by kernel_rfl)
      (by rw [MakeChecks.laidMetH_plain _ _ _ (by kernel_rfl)]; exact laidMet_laidAll _ (by kernel_rfl) (by kernel_rfl))) ?_
  intro W base args ds gs before hval0 hW _ hwt hL _
  have hval : ∀ (j : Nat) t v, Tryz.f3.params[j]? = some t → args[j]? = some v → Value.okWide Tryz.prog W .any base t v := hval0
  have hW' := hW
  obtain ⟨p, q, hA0, hV, rfl, _, _⟩ := hW
  have hA : DataW.TrodAll enc Tryz.prog W 0 (fun _ => true) true Tryz.f3.params.toList args.toList ds p := hA0
  rw [Tryz.params3] at hA hval hwt
  obtain ⟨v0, vs0, d0, ds0, p0, q0, hargs, rfl, rfl, h0, r0⟩ := trodAll_cons hA
  obtain ⟨v1, vs1, d1, ds1, p1, q1, rfl, rfl, rfl, h1, r1⟩ := trodAll_cons r0
  obtain ⟨v2, vs2, d2, ds2, p2, q2, rfl, rfl, rfl, h2, r2⟩ := trodAll_cons r1
  obtain ⟨rfl, rfl, rfl⟩ := trodAll_nil r2
  obtain rfl : args = #[v0, v1, v2] := by cases args; simp_all
  obtain ⟨rfl, rfl⟩ := trodVars_none hV
  simp only [List.append_nil] at hW' hwt
  have hwt' : (DataW.weightsEach Tryz.prog [22, 24, 24] [d0, d1, d2]).all (· ≤ reachBytes) = true := hwt
  refine (law_any (of_laid hL) h0 h1 h2 (okWide_agg Tryz.underlying22 (hval 0 22 v0 rfl rfl)) (okWide_agg Tryz.underlying24 (hval 1 24 v1 rfl rfl)) (okWide_agg Tryz.underlying24 (hval 2 24 v2 rfl rfl)) hwt').mono fun e W' ⟨he, hb⟩ => ?_
  subst he
  have hlt : ∀ x ∈ p0 ++ (p1 ++ p2), x.block < W.heap.size := fun x hx => hW'.lt x (by simpa using hx)
  have stays : ∀ {t : TypeId} {v : Value} {d : DataW H} {ps : List MemPlace}, Tryz.prog.readableRec t = true → t < Tryz.prog.types.size → (∀ x ∈ ps, x ∈ p0 ++ (p1 ++ p2)) → DataW.Trod enc Tryz.prog W 0 (fun _ => true) true t v d ps → ∀ sp : Nat → Bool, (∀ x ∈ ps, sp x.block = true) → DataW.Trod enc Tryz.prog W' 0 sp true t v d ps := fun hr ht hsub h sp hsp =>
    WideElems.Trod_stays laidOut hr ht h (fun x hx => hb.same (hlt x (hsub x hx))) hsp
  have hold : ∀ x ∈ p0 ++ (p1 ++ p2), (fun b => decide (b < W.heap.size)) x.block = true := fun x hx => by simpa using hlt x hx
  have g0 := stays (by kernel_rfl) (of_decide_eq_true (by kernel_rfl)) (fun x hx => by simp [hx]) h0 (fun b => decide (b < W.heap.size)) (fun x hx => hold x (by simp [hx]))
  have g1 := stays (by kernel_rfl) (of_decide_eq_true (by kernel_rfl)) (fun x hx => by simp [hx]) h1 (fun b => decide (b < W.heap.size)) (fun x hx => hold x (by simp [hx]))
  have g2 := stays (by kernel_rfl) (of_decide_eq_true (by kernel_rfl)) (fun x hx => by simp [hx]) h2 (fun b => decide (b < W.heap.size)) (fun x hx => hold x (by simp [hx]))
  refine ⟨_, rfl, _, _, _, [], p0 ++ (p1 ++ (p2 ++ [])), [], hW', trodAll_mk1 (shut_bool Tryz.underlying4 _), trodAll_cons_mk g0 (trodAll_cons_mk g1 (trodAll_cons_mk g2 trodAll_mk0)), rfl, ?_, fun h => by cases h⟩
  refine World.keptBut_mono (fun x hx => ⟨hx, ?_⟩) (hb.frame (· ∈ p0 ++ (p1 ++ p2)))
  simpa using hx
end Go.Proofs.YtnhfokplkmlibaaGreatDoor
