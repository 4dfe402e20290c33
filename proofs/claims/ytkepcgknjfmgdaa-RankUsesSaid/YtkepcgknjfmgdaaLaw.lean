/-
  RankUses: the walk of the law. Condition: between 1 and 60 entries.
-/
import Derived.Test.YtkepcgknjfmgdaaEq
import Derived.Test.YtkepcgknjfmgdaaRWorks
import Derived.Test.YtkepcgknjfmgdaaFound
import Derived.BigQuiet
set_option linter.unusedVariables false
set_option linter.unusedSimpArgs false
namespace Go.Proofs.Rk
open Go.Shelf Go.RowKit Go.Lib Go.Sort Go.Rk

/-- x and y lie there, both as dx. -/
structure Two (w : World) (n gx gy : Nat) (dx : Array En) (W : World) : Prop where
  hx : HoldsK encE 6 W gx 0 dx
  hy : HoldsK encE 6 W gy 0 dx
  bx : gx < W.heap.size
  bY : gy < W.heap.size
  below : Below w.heap.size w W
  size : dx.size = n
theorem holdsK_below {w W : World} {B g : Nat} {d : Array En} (h : HoldsK encE 6 w g 0 d) (hb : Below B w W) (hg : g < B) : HoldsK encE 6 W g 0 d := by
  intro j hj
  have := h j hj
  exact ⟨by rw [hb.cell (p := ⟨g, 0 + j, none⟩) hg]; exact this.1, by rw [hb.frozen (p := ⟨g, 0 + j, none⟩) hg]; exact this.2⟩

theorem and255 (a : Int) : 0 ≤ bits .and .i64 a 255 ∧ bits .and .i64 a 255 ≤ 255 := by
  have h : (BitVec.ofInt 64 a &&& BitVec.ofInt 64 255).toNat ≤ 255 := by
    rw [BitVec.toNat_and]
    exact Nat.and_le_right
  show 0 ≤ IntKind.i64.wrap ((BitVec.ofInt 64 a &&& BitVec.ofInt 64 255).toNat : Int) ∧ IntKind.i64.wrap ((BitVec.ofInt 64 a &&& BitVec.ofInt 64 255).toNat : Int) ≤ 255
  generalize (BitVec.ofInt 64 a &&& BitVec.ofInt 64 255).toNat = q at h
  rw [IntKind.wrap_i64]
  omega
/-- more[k].Uses is written. -/
theorem holds_uses {W : World} {g : Nat} {d : Array En} (h : HoldsK encE 6 W g 0 d) (k : Nat) (hk : k < d.size) (u : Int) :
    HoldsK encE 6 (W.setCell ⟨g, k * 6 + 5, none⟩ (.int .i64 u)) g 0 (d.setIfInBounds k { d[k]! with uses := u }) := by
  intro j hj
  rw [size_flatK] at hj
  have hj' : j < d.size * 6 := by simpa using hj
  have h0 := h j (by rw [size_flatK]; exact hj')
  rw [Nat.zero_add] at h0 ⊢
  rw [get_flatK _ _ _ _ hj]
  have h6 : j % 6 < 6 := Nat.mod_lt _ (by omega)
  rw [get_flatK _ _ _ _ hj'] at h0
  refine ⟨?_, by rw [World.frozen?_setCell]; exact h0.2⟩
  by_cases c : j = k * 6 + 5
  · subst c
    rw [World.cell?_setCell_same' _ _ _ (by rw [h0.1]; rfl), show (k * 6 + 5) / 6 = k by omega, show (k * 6 + 5) % 6 = 5 by omega, getElem!_set_same d k _ hk]
    rfl
  · rw [World.cell?_setCell_other _ _ _ _ (by intro e; cases e; exact c rfl), h0.1]
    by_cases c2 : j / 6 = k
    · have c3 : j % 6 ≠ 5 := by omega
      rw [c2, getElem!_set_same d k _ hk]
      generalize j % 6 = r at h6 c3
      have : r = 0 ∨ r = 1 ∨ r = 2 ∨ r = 3 ∨ r = 4 := by omega
      rcases this with rfl | rfl | rfl | rfl | rfl <;> rfl
    · rw [getElem!_set_other d k _ _ c2]

abbrev aggE (x : En) : Value := .agg #[.int .i64 x.kind, .int .i64 x.id, .string x.name, .bool x.lit, .bool x.clean, .int .i64 x.uses]
theorem row_cell {W : World} {g : Nat} {d : Array En} (h : HoldsK encE 6 W g 0 d) (i r : Nat) (hi : i < d.size) (hr : r < 6) : W.cell? ⟨g, i * 6 + r, none⟩ = some ((encE d[i]!)[r]!) := by
  have h1 := (h (i * 6 + r) (by rw [size_flatK]; omega)).1
  rw [Nat.zero_add, get_flatK _ _ _ _ (by omega), show (i * 6 + r) / 6 = i by omega, show (i * 6 + r) % 6 = r by omega] at h1
  exact h1
/-- the six cells of an element, in all worlds that a region passes through. -/
theorem row_at {W : World} {g : Nat} {d : Array En} (h : HoldsK encE 6 W g 0 d) (hg : g < W.heap.size) (i : Nat) (hi : i < d.size) (x : En) (hx : d[i]! = x) (n : Nat) (os : Array Obj) :
    (grow (W.drewN n) os).cell? ⟨g, i * 6, none⟩ = some (.int .i64 x.kind) ∧ (grow (W.drewN n) os).cell? ⟨g, i * 6 + 1, none⟩ = some (.int .i64 x.id) ∧ (grow (W.drewN n) os).cell? ⟨g, i * 6 + 2, none⟩ = some (.string x.name) ∧
    (grow (W.drewN n) os).cell? ⟨g, i * 6 + 3, none⟩ = some (.bool x.lit) ∧ (grow (W.drewN n) os).cell? ⟨g, i * 6 + 4, none⟩ = some (.bool x.clean) ∧ (grow (W.drewN n) os).cell? ⟨g, i * 6 + 5, none⟩ = some (.int .i64 x.uses) := by
  subst hx
  have e : ∀ r, (grow (W.drewN n) os).cell? ⟨g, i * 6 + r, none⟩ = W.cell? ⟨g, i * 6 + r, none⟩ := fun r => cell?_grow _ _ _ (by exact hg)
  refine ⟨(e 0).trans (row_cell h i 0 hi (by omega)), (e 1).trans (row_cell h i 1 hi (by omega)), (e 2).trans (row_cell h i 2 hi (by omega)), (e 3).trans (row_cell h i 3 hi (by omega)), (e 4).trans (row_cell h i 4 hi (by omega)), (e 5).trans (row_cell h i 5 hi (by omega))⟩
theorem ahead_grown (x y : En) (v : Bool) (hv : ahead x y = v) (w : World) (n : Nat) (os : Array Obj) : Calls Try.prog 7 #[aggE x, aggE y] (grow (w.drewN n) os) fun e w' => e = .returned (.bool v) ∧ ∃ q os', w' = grow ((grow (w.drewN n) os).drewN q) os' := by
  rw [← hv]
  exact ahead_calls x y _
theorem Two.grown {w : World} {n gx gy : Nat} {dx : Array En} {W : World} (h : Two w n gx gy dx W) (q : Nat) (os : Array Obj) : Two w n gx gy dx (grow (W.drewN q) os) := by
  have hb : Below W.heap.size W (grow (W.drewN q) os) := by
    refine ⟨rfl, rfl, rfl, by rw [size_grow]; exact Nat.le_add_right _ _, fun k hk => ?_⟩
    show (W.heap ++ os)[k]? = _
    rw [Array.getElem?_append_left hk]
  exact ⟨holdsK_below h.hx hb h.bx, holdsK_below h.hy hb h.bY, Nat.lt_of_lt_of_le h.bx hb.size, Nat.lt_of_lt_of_le h.bY hb.size, h.below.trans (hb.mono h.below.size), h.size⟩

/-- the row that was turned, and what it was sorted to. -/
structure Duo (w : World) (gm gz : Nat) (dm dz : Array En) (W : World) : Prop where
  hx : HoldsK encE 6 W gm 0 dm
  hy : HoldsK encE 6 W gz 0 dz
  bx : gm < W.heap.size
  bY : gz < W.heap.size
  below : Below w.heap.size w W
theorem Duo.grown {w : World} {gm gz : Nat} {dm dz : Array En} {W : World} (h : Duo w gm gz dm dz W) (q : Nat) (os : Array Obj) : Duo w gm gz dm dz (grow (W.drewN q) os) := by
  have hb : Below W.heap.size W (grow (W.drewN q) os) := by
    refine ⟨rfl, rfl, rfl, by rw [size_grow]; exact Nat.le_add_right _ _, fun k hk => ?_⟩
    show (W.heap ++ os)[k]? = _
    rw [Array.getElem?_append_left hk]
  exact ⟨holdsK_below h.hx hb h.bx, holdsK_below h.hy hb h.bY, Nat.lt_of_lt_of_le h.bx hb.size, Nat.lt_of_lt_of_le h.bY hb.size, h.below.trans (hb.mono h.below.size)⟩

set_option maxHeartbeats 8000000 in
set_option maxRecDepth 1000000 in
theorem law_mid (b off c : Nat) (at' : Int) (d : Array En) (w : World) (h1 : 0 < d.size) (h60 : d.size ≤ 60) (hc : Cells w b off d) :
    Calls Try.prog 3 #[.slice (some ⟨b, off, none⟩) d.size c, .int .i64 at'] w fun e w' => e = .returned (.bool true) ∧ Below w.heap.size w w' := by
  have mixed := Try.lays39.mixed
  have hs1 := sort_calls b off c d w (by omega) hc
  obtain ⟨⟨p1, _, _⟩, p2, _⟩ := stable_ok swo_ahead d
  obtain ⟨dx, hdx⟩ : ∃ D, D = stable ahead d.size d := ⟨_, rfl⟩
  rw [← hdx] at hs1 p1 p2
  have p3 : stable ahead dx.size dx = dx := by
    refine (stable_ok swo_ahead dx).2.2 ?_
    rw [p1]; exact p2
  have hs2 : ∀ (g cap : Nat) (w1 : World), HoldsK encE 6 w1 g 0 dx → Calls Try.prog 6 #[.slice (some ⟨g, 0, none⟩) d.size cap] w1 fun e w' => ∃ g cap, e = .returned (.slice (some ⟨g, 0, none⟩) d.size cap) ∧ w1.heap.size ≤ g ∧ g < w'.heap.size ∧ HoldsK encE 6 w' g 0 dx ∧ d.size ≤ cap ∧ cap ≤ maxLen ∧ Below w1.heap.size w1 w' := by
    intro g cap w1 h
    have := sort_calls g 0 cap dx w1 (by omega) (Cells.of_holds h)
    rw [p3, p1] at this
    exact this
  obtain ⟨n, hn⟩ : ∃ n, n = d.size := ⟨_, rfl⟩
  rw [← hn] at hs1 hs2 p1 h1 h60 ⊢
  have P1 : Hid (dx.size = n) := p1
  have P2 : Hid (SortedIn ahead 0 n dx) := by rw [hn]; exact p2
  have H1 := Lib.hid hs1
  have H2 := Lib.hid hs2
  clear hs1 hs2 hn hdx p1 p2 p3 hc
  have d1 : decide ((n : Int) > 60) = false := by simp; omega
  have d2 : ((n : Int) == 0) = false := by simp; omega
  have d3 : ¬ (60 : Int) < (n : Int) := by omega
  go_enter Try.func3, Try.ntmps3
  go_wp2_with (first | (go_at_call_of 6 (Value.slice (some ⟨b, off, none⟩) n c); go_loud (refine H1.out.mono ?_; rintro ee w1 ⟨gx, capx, rfl, b1, b2, b3, b4, b5, b6⟩; have B1 := Lib.hid b1; have B2 := Lib.hid b2; have B3 := Lib.hid b3; have B6 := Lib.hid b6; clear b1 b2 b3 b4 b5 b6)) | (go_at_call 6; refine (H2.out _ _ _ B3.out).mono ?_; rintro ee w2 ⟨gy, capy, rfl, c1, c2, c3, c4, c5, c6⟩; have C1 := Lib.hid c1; have C2 := Lib.hid c2; have C3 := Lib.hid c3; have C6 := Lib.hid c6; clear c1 c2 c3 c4 c5 c6))
  have hT : Hid (Two w n gx gy dx w2) := ⟨holdsK_below B3.out C6.out B2.out, C3.out, Nat.lt_of_lt_of_le B2.out C6.out.size, C2.out, B6.out.trans (C6.out.mono B6.out.size), P1.out⟩
  clear B1 B2 B3 B6 C1 C2 C3 C6
  go_loopg [7] n (fun kx s7 wr => ∃ (i : Nat) (iz : Int), s7 = .int .i64 iz ∧ Hid (iz = (i : Int)) ∧ i ≤ n ∧ n - i ≤ kx ∧ Hid (Two w n gx gy dx wr))
  case atStart => exact ⟨0, 0, rfl, rfl, Nat.zero_le _, Nat.le_refl _, hT⟩
  case round =>
    clear hT
    obtain ⟨i, iz, rfl, hiz, hin, hkx, hT⟩ := hrel
    by_cases hlt : i < n
    · have hltz : iz < (n : Int) := by have := hiz.out; omega
      have hpz : 0 ≤ iz := by have := hiz.out; omega
      have hez : iz.toNat = i := by have := hiz.out; omega
      obtain ⟨x, hx⟩ : ∃ x, dx[i]! = x := ⟨_, rfl⟩
      have rxa := row_at hT.out.hx hT.out.bx i (by rw [hT.out.size]; omega) x hx
      have xa0 := fun n os => (rxa n os).1
      have xa1 := fun n os => (rxa n os).2.1
      have xa2 := fun n os => (rxa n os).2.2.1
      have xa3 := fun n os => (rxa n os).2.2.2.1
      have xa4 := fun n os => (rxa n os).2.2.2.2.1
      have xa5 := fun n os => (rxa n os).2.2.2.2.2
      clear rxa
      have rya := row_at hT.out.hy hT.out.bY i (by rw [hT.out.size]; omega) x hx
      have ya0 := fun n os => (rya n os).1
      have ya1 := fun n os => (rya n os).2.1
      have ya2 := fun n os => (rya n os).2.2.1
      have ya3 := fun n os => (rya n os).2.2.2.1
      have ya4 := fun n os => (rya n os).2.2.2.2.1
      have ya5 := fun n os => (rya n os).2.2.2.2.2
      clear rya
      have hE : ∀ w, (Op.equalIn 10000 26 (aggE x) (aggE x)).run Try.prog w = .ok true w := fun w => by rw [eqE]; simp
      have HX := Lib.hid hx
      clear hx
      by_cases hi0 : i = 0
      · have hz : decide (iz > 0) = false := by have := hiz.out; simp; omega
        have hz2 : ¬ 0 < iz := by have := hiz.out; omega
        have HI := Lib.hid hi0
        clear hi0
        go_wp2_with fail
        refine wp_region_quiet_grown (by assumption) (by kernel_rfl) ?_
        repeat (go_big_quiet_step (fail))
        refine wpQuiet_nil ?_
        intro _ hw'
        obtain ⟨⟨nq, osq⟩, hw''⟩ := hw'
        subst hw''
        clear xa0 xa1 xa2 xa3 xa4 xa5 ya0 ya1 ya2 ya3 ya4 ya5 hE
        go_wp2_with fail
        go_roundg (n - (i + 1))
        case measure => omega
        case rel => exact ⟨i + 1, iz + 1, rfl, (show _ = _ by have := hiz.out; omega), by omega, Nat.le_refl _, hT.out.grown _ _⟩
      · obtain ⟨ip, hip⟩ : ∃ ip, ip = i - 1 := ⟨_, rfl⟩
        have hipn : ip < n := by omega
        have hz : decide (iz > 0) = true := by have := hiz.out; simp; omega
        have hz2 : 0 < iz := by have := hiz.out; omega
        have ray : IntKind.i64.wrap (iz - 1) = (ip : Int) := by have := hiz.out; rw [IntKind.wrap_i64]; omega
        have ryy : iz - 1 = (ip : Int) := by have := hiz.out; omega
        obtain ⟨z, hzz⟩ : ∃ z, dx[ip]! = z := ⟨_, rfl⟩
        have hA : ahead x z = false := by
          have := P2.out ip i (Nat.zero_le _) (by omega) hlt
          rw [HX.out, hzz] at this
          exact this
        have ha := fun n os => ahead_grown x z false hA wr n os
        have rza := row_at hT.out.hx hT.out.bx ip (by rw [hT.out.size]; omega) z hzz
        have za0 := fun n os => (rza n os).1
        have za1 := fun n os => (rza n os).2.1
        have za2 := fun n os => (rza n os).2.2.1
        have za3 := fun n os => (rza n os).2.2.2.1
        have za4 := fun n os => (rza n os).2.2.2.2.1
        have za5 := fun n os => (rza n os).2.2.2.2.2
        clear rza
        clear hip hi0 hA hzz
        go_wp2_with fail
        refine wp_region_quiet_grown (by assumption) (by kernel_rfl) ?_
        repeat (go_big_quiet_step (first | (go_at_call 7; refine Calls.grown_of (ha _ _))))
        refine wpQuiet_nil ?_
        intro _ hw'
        obtain ⟨⟨nq, osq⟩, hw''⟩ := hw'
        subst hw''
        clear xa0 xa1 xa2 xa3 xa4 xa5 ya0 ya1 ya2 ya3 ya4 ya5 za0 za1 za2 za3 za4 za5 hE ha
        go_wp2_with fail
        go_roundg (n - (i + 1))
        case measure => omega
        case rel => exact ⟨i + 1, iz + 1, rfl, (show _ = _ by have := hiz.out; omega), by omega, Nat.le_refl _, hT.out.grown _ _⟩
    · have hltz : ¬ iz < (n : Int) := by have := hiz.out; omega
      have H3 := and255 at'
      obtain ⟨a, hra⟩ : ∃ a, bits .and .i64 at' 255 = a := ⟨_, rfl⟩
      rw [hra] at H3
      obtain ⟨ha1, ha2⟩ := H3
      obtain ⟨kk, hkk⟩ : ∃ kk, kk = (a % (n : Int)).toNat := ⟨_, rfl⟩
      have hm0 := Int.emod_nonneg a (show (n : Int) ≠ 0 by omega)
      have hm1 := Int.emod_lt_of_pos a (show (0 : Int) < (n : Int) by omega)
      have hkn : kk < n := by omega
      have hmm : a % (n : Int) = (kk : Int) := by omega
      have htm : a.tmod (n : Int) = (kk : Int) := by rw [Int.tmod_eq_emod_of_nonneg ha1]; exact hmm
      clear hkk hm0 hm1 hlt hiz hin hkx
      have HRA := Lib.hid hra
      have hmaxn : n ≤ maxLen := by unfold maxLen; omega
      have HMN := Lib.hid hmaxn
      clear hmaxn
      go_wp2_with (at_builtin; refine wpList_append_own _ rfl _ _ 22 rfl wr.heap.size 26 i26 z26 6 48 Try.underlying22 info26 zero26 size26 bytes26 zcells26 (by omega) _ _ _ rfl (World.ownsRow_made wr #[] 0 (Nat.le_refl _) (Nat.zero_le _) (by simp)) ⟨gx, 0, none⟩ n capx (flatE dx) rfl ?qc1 ?qc2 ?qc3 ?qc4 ?qc5 ?qc6 ?_)
      case qc1 => rw [flatE_length, hT.out.size]
      case qc2 =>
        intro j u hj
        refine Lib.cell?_alloc_some _ ?_
        have := Cells.of_holds hT.out.hx j u hj
        rwa [Nat.zero_add] at this
      case qc3 => exact flatE_one dx
      case qc4 => exact HMN.out
      case qc5 => omega
      intro v' w1 hown hgrow hnil
      obtain ⟨gm, capm, rfl, e1, e2, e3, e4, e5⟩ := holds_of_owns (g := 0) (cap := 0) (d := dx) (by simpa using hown) (fun e => hnil e) hT.out.size.symm
      have hbw : Below wr.heap.size wr w1 := ((Below.refl _ wr).alloc (Nat.le_refl _) _).grown hgrow (by simp) (by intro k hk; simp [Value.ownBlock] at hk; omega)
      rw [hT.out.size]
      have B0 := Lib.hid (hT.out.below.trans (hbw.mono hT.out.below.size))
      have hgw : w.heap.size ≤ gm := Nat.le_trans hT.out.below.size e1
      have GW := Lib.hid hgw
      clear hown hgrow hnil hbw hgw
      obtain ⟨xk, hxk⟩ : ∃ x, dx[kk]! = x := ⟨_, rfl⟩
      have hks : kk < dx.size := by rw [hT.out.size]; exact hkn
      have c5 : w1.cell? ⟨gm, kk * 6 + 5, none⟩ = some (.int .i64 xk.uses) := by
        have := row_cell e3 kk 5 hks (by omega)
        rw [hxk] at this
        exact this
      have f5 : w1.frozen? ⟨gm, kk * 6 + 5, none⟩ = false := by
        have := (e3 (kk * 6 + 5) (by rw [size_flatK]; omega)).2
        rwa [Nat.zero_add] at this
      obtain ⟨u, hu⟩ : ∃ u, max 0 (min xk.uses 1073741824) = u := ⟨_, rfl⟩
      have hu1 : 0 ≤ u := by omega
      have hu2 : u ≤ 1073741824 := by omega
      have HM := Lib.hid (holds_uses e3 kk hks (u + 1))
      have hmore : ({ dx[kk]! with uses := u + 1 } : En) = more dx[kk]! := by rw [hxk, more, hu]
      rw [hmore] at HM
      have E2 := Lib.hid e2
      have HXK := Lib.hid hxk
      have HT := hT
      clear e1 e2 e3 e4 e5 hmore hxk hT hks
      by_cases hbig : 1000000 < u + 1
      · have hbz : u + 1 > 1000000 := hbig
        go_wp2_with (go_at_call 5; refine (works_any _).mono ?_; rintro ee w3 ⟨rfl, hb3⟩; have HB3 := Lib.hid hb3; clear hb3)
        go_ret
        refine ⟨rfl, ?_⟩
        have h1 := B0.out.setCell (p := ⟨gm, kk * 6 + 5, none⟩) GW.out (.int .i64 (u + 1))
        exact h1.trans (HB3.out.mono (by have := h1.size; simpa using this))
      · have hbz : u + 1 ≤ 1000000 := by omega
        obtain ⟨m, hmd⟩ : ∃ m, m = more dx[kk]! := ⟨_, rfl⟩
        obtain ⟨dm, hdm⟩ : ∃ dm, dm = dx.setIfInBounds kk m := ⟨_, rfl⟩
        rw [← hmd, ← hdm] at HM
        obtain ⟨dz, hdz⟩ : ∃ dz, dz = stable ahead dx.size dm := ⟨_, rfl⟩
        have hdms : dm.size = n := by rw [hdm]; simp; exact HT.out.size
        have hdmk : dm[kk]! = m := by rw [hdm]; exact getElem!_set_same dx kk m (by rw [HT.out.size]; exact hkn)
        have hdzs : dz.size = n := by
          have := (stable_ok swo_ahead dm).1.1
          rw [hdz, HT.out.size, ← hdms, this]
        have hfound : ∃ i, i ≤ kk ∧ dz[i]! = m := by
          have := found dx kk (by rw [HT.out.size]; exact hkn) (by rw [HT.out.size]; exact P2.out) (by rw [HXK.out, hu]; exact hbz)
          rw [← hmd, ← hdm, ← hdz] at this
          exact this
        have hsort := fun (W : World) (h : HoldsK encE 6 W gm 0 dm) => sort_calls gm 0 capm dm W (by omega) (Cells.of_holds h)
        have hrw : stable ahead dm.size dm = dz := by rw [hdz, hdms, HT.out.size]
        rw [hrw, hdms] at hsort
        have HS := Lib.hid (hsort _ HM.out)
        have FOUND := Lib.hid hfound
        have DMS := Lib.hid hdms
        have DMK := Lib.hid hdmk
        have DZS := Lib.hid hdzs
        have E2' := Lib.hid (show gm < (w1.setCell ⟨gm, kk * 6 + 5, none⟩ (.int .i64 (u + 1))).heap.size by simpa using E2.out)
        have B1 := Lib.hid (B0.out.setCell (p := ⟨gm, kk * 6 + 5, none⟩) GW.out (.int .i64 (u + 1)))
        clear hsort hfound hdms hdmk hdzs hrw hmd hdm hdz
        go_wp2_with (go_at_call 6; refine HS.out.mono ?_; rintro ee w3 ⟨gz, capz, rfl, z1, z2, z3, z4, z5, z6⟩; have Z1 := Lib.hid z1; have Z2 := Lib.hid z2; have Z3 := Lib.hid z3; have Z6 := Lib.hid z6; clear z1 z2 z3 z4 z5 z6)
        have hD : Hid (Duo w gm gz dm dz w3) := ⟨holdsK_below HM.out Z6.out E2'.out, Z3.out, Nat.lt_of_lt_of_le E2'.out Z6.out.size, Z2.out, B1.out.trans (Z6.out.mono B1.out.size)⟩
        clear Z1 Z2 Z3 Z6 HM HS
        go_loopg [11] (kk + 1) (fun kx s11 wr => ∃ (i : Nat), s11 = .int .i64 i ∧ i ≤ kk + 1 ∧ kk + 1 - i ≤ kx ∧ Hid (∀ j, j < i → dz[j]! ≠ m) ∧ Hid (Duo w gm gz dm dz wr))
        case atStart => exact ⟨0, rfl, Nat.zero_le _, Nat.le_refl _, fun j hj => absurd hj (Nat.not_lt_zero _), hD⟩
        case round =>
          clear hD
          obtain ⟨i, rfl, hik, hkx, hno, hD⟩ := hrel
          by_cases hle : i ≤ kk
          · have hlez : (i : Int) ≤ (kk : Int) := by omega
            have hinz : (i : Int) < (n : Int) := by omega
            have hknz : (kk : Int) < (n : Int) := by omega
            obtain ⟨x, hx⟩ : ∃ x, dz[i]! = x := ⟨_, rfl⟩
            have rxa := row_at hD.out.hy hD.out.bY i (by rw [DZS.out]; omega) x hx
            have xa0 := fun n os => (rxa n os).1
            have xa1 := fun n os => (rxa n os).2.1
            have xa2 := fun n os => (rxa n os).2.2.1
            have xa3 := fun n os => (rxa n os).2.2.2.1
            have xa4 := fun n os => (rxa n os).2.2.2.2.1
            have xa5 := fun n os => (rxa n os).2.2.2.2.2
            clear rxa
            have rya := row_at hD.out.hx hD.out.bx kk (by rw [DMS.out]; exact hkn) m DMK.out
            have ya0 := fun n os => (rya n os).1
            have ya1 := fun n os => (rya n os).2.1
            have ya2 := fun n os => (rya n os).2.2.1
            have ya3 := fun n os => (rya n os).2.2.2.1
            have ya4 := fun n os => (rya n os).2.2.2.2.1
            have ya5 := fun n os => (rya n os).2.2.2.2.2
            clear rya
            have HX := Lib.hid hx
            clear hx
            by_cases hxm : x = m
            · have hE : ∀ w, (Op.equalIn 10000 26 (aggE x) (aggE m)).run Try.prog w = .ok true w := fun w => by rw [eqE, decide_eq_true hxm]
              clear hxm
              go_wp2_with fail
              refine wp_region_quiet_grown (by assumption) (by kernel_rfl) ?_
              repeat (go_big_quiet_step (fail))
              refine wpQuiet_nil ?_
              intro _ hw'
              obtain ⟨⟨nq, osq⟩, hw''⟩ := hw'
              subst hw''
              clear xa0 xa1 xa2 xa3 xa4 xa5 ya0 ya1 ya2 ya3 ya4 ya5 hE
              have hD2 := Lib.hid (hD.out.grown nq osq)
              generalize grow (wr.drewN nq) osq = w4 at hD2 ⊢
              go_wp2_with (go_at_call 5; refine (works_any _).mono ?_; rintro ee w5 ⟨rfl, hb5⟩; have HB5 := Lib.hid hb5; clear hb5)
              go_ret
              exact ⟨rfl, hD2.out.below.trans (HB5.out.mono hD2.out.below.size)⟩
            · have hE : ∀ w, (Op.equalIn 10000 26 (aggE x) (aggE m)).run Try.prog w = .ok false w := fun w => by rw [eqE, decide_eq_false hxm]
              have HXM := Lib.hid hxm
              clear hxm
              go_wp2_with fail
              refine wp_region_quiet_grown (by assumption) (by kernel_rfl) ?_
              repeat (go_big_quiet_step (fail))
              refine wpQuiet_nil ?_
              intro _ hw'
              obtain ⟨⟨nq, osq⟩, hw''⟩ := hw'
              subst hw''
              clear xa0 xa1 xa2 xa3 xa4 xa5 ya0 ya1 ya2 ya3 ya4 ya5 hE
              have hD2 := Lib.hid (hD.out.grown nq osq)
              generalize grow (wr.drewN nq) osq = w4 at hD2 ⊢
              go_wp2_with fail
              go_roundg (kk + 1 - (i + 1))
              case measure => omega
              case rel =>
                refine ⟨i + 1, by go_num, by omega, Nat.le_refl _, ?_, hD2⟩
                intro j hj
                by_cases c : j = i
                · subst c; rw [HX.out]; exact HXM.out
                · exact hno.out j (by omega)
          · exfalso
            obtain ⟨j, hj, he⟩ := FOUND.out
            exact hno.out j (by omega) he
end Go.Proofs.Rk
