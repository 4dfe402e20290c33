/-
  The steps' equations in one bundle; blocks that are found by instances. No condition.
-/
import Derived.Test.YtnhfokplkmlibaaGreatDoorW15
set_option linter.unusedVariables false
set_option linter.unusedSimpArgs false
namespace Go.Ae
/-- the equations of pure steps. -/
theorem PP : type_of% (And.intro @bkW_exit_ne' <| And.intro @PU_some <| And.intro @ME_some <| And.intro @CV_some <| And.intro @fld_ptr <| And.intro @lenA_sl <| And.intro @lenT_str <| And.intro @abin_lss <| And.intro @abin_gtr <| And.intro @abin_leq <| And.intro @abin_geq <| And.intro @abin_eql <| And.intro @abin_neq <| And.intro @abin_seql <| And.intro @abin_sneq <| And.intro @not_bool <| And.intro @vBool_bool <| And.intro @cdW_true <| And.intro @cdW_false <| And.intro @anil_ptr <| And.intro @min2 <| And.intro @max2 <| And.intro @cvI_int <| And.intro @cvT_int <| And.intro @cvT_str <| And.intro @sqE_norm <| And.intro @sqE_exit <| And.intro @sqE_ret <| And.intro @bkW_norm <| And.intro @bkW_ret <| And.intro @bkW_exit <| And.intro @rdW_norm <| And.intro @rdW_exit <| And.intro @rdW_ret <| And.intro @lk_hit <| And.intro @lk_miss <| And.intro @abin_and' <| And.intro @abin_or' <| And.intro @abin_andNot' <| And.intro @abin_shl_4 <| And.intro @abin_shl_6 <| And.intro @abin_shl_12 <| And.intro @abin_shl_18 <| And.intro @abin_shl_31 <| And.intro @abin_shr_4 <| And.intro @abin_shr_6 <| And.intro @abin_shr_12 <| And.intro @abin_shr_18 <| And.intro @abin_shr_31 <| And.intro @abin_add_u8 <| And.intro @abin_add_i32 <| And.intro @abin_sub_u8 <| And.intro @abin_sub_i32 <| And.intro @abin_mul_u8 <| And.intro @abin_mul_i32 <| And.intro @ext2 <| And.intro (@List.getElem?_cons_zero Value) <| And.intro (@List.getElem?_cons_succ Value) <| And.intro @Nat.zero_add <| And.intro @Nat.add_zero <| And.intro (@List.set_cons_zero Blk) (@List.set_cons_succ Blk)) := And.intro @bkW_exit_ne' <| And.intro @PU_some <| And.intro @ME_some <| And.intro @CV_some <| And.intro @fld_ptr <| And.intro @lenA_sl <| And.intro @lenT_str <| And.intro @abin_lss <| And.intro @abin_gtr <| And.intro @abin_leq <| And.intro @abin_geq <| And.intro @abin_eql <| And.intro @abin_neq <| And.intro @abin_seql <| And.intro @abin_sneq <| And.intro @not_bool <| And.intro @vBool_bool <| And.intro @cdW_true <| And.intro @cdW_false <| And.intro @anil_ptr <| And.intro @min2 <| And.intro @max2 <| And.intro @cvI_int <| And.intro @cvT_int <| And.intro @cvT_str <| And.intro @sqE_norm <| And.intro @sqE_exit <| And.intro @sqE_ret <| And.intro @bkW_norm <| And.intro @bkW_ret <| And.intro @bkW_exit <| And.intro @rdW_norm <| And.intro @rdW_exit <| And.intro @rdW_ret <| And.intro @lk_hit <| And.intro @lk_miss <| And.intro @abin_and' <| And.intro @abin_or' <| And.intro @abin_andNot' <| And.intro @abin_shl_4 <| And.intro @abin_shl_6 <| And.intro @abin_shl_12 <| And.intro @abin_shl_18 <| And.intro @abin_shl_31 <| And.intro @abin_shr_4 <| And.intro @abin_shr_6 <| And.intro @abin_shr_12 <| And.intro @abin_shr_18 <| And.intro @abin_shr_31 <| And.intro @abin_add_u8 <| And.intro @abin_add_i32 <| And.intro @abin_sub_u8 <| And.intro @abin_sub_i32 <| And.intro @abin_mul_u8 <| And.intro @abin_mul_i32 <| And.intro @ext2 <| And.intro (@List.getElem?_cons_zero Value) <| And.intro (@List.getElem?_cons_succ Value) <| And.intro @Nat.zero_add <| And.intro @Nat.add_zero <| And.intro (@List.set_cons_zero Blk) (@List.set_cons_succ Blk)
/-! ### blocks that are found -/
class BlkL (L : List Blk) (r : Nat) (ty : outParam TypeId) (cs : outParam (List Value)) : Prop where
  at' : ∃ i : Nat, L[i]? = some ((r, ty, cs) : Blk)
instance BlkL.there {r : Nat} {ty : TypeId} {cs : List Value} {b : Blk} {L : List Blk} [h : BlkL L r ty cs] : BlkL (b :: L) r ty cs := ⟨let ⟨i, hi⟩ := h.at'; ⟨i + 1, hi⟩⟩
instance BlkL.here {r : Nat} {ty : TypeId} {cs : List Value} {L : List Blk} : BlkL ((r, ty, cs) :: L) r ty cs := ⟨⟨0, rfl⟩⟩
class PutL (L : List Blk) (r : Nat) (F : List Value → List Value) (ty : outParam TypeId) (cs : outParam (List Value)) (L' : outParam (List Blk)) : Prop where
  at' : ∃ i : Nat, L[i]? = some ((r, ty, cs) : Blk) ∧ L' = L.set i (r, ty, F cs)
instance PutL.there {r : Nat} {F : List Value → List Value} {ty : TypeId} {cs : List Value} {b : Blk} {L L' : List Blk} [h : PutL L r F ty cs L'] : PutL (b :: L) r F ty cs (b :: L') := ⟨let ⟨i, hi, e⟩ := h.at'; ⟨i + 1, hi, by rw [e]; rfl⟩⟩
instance PutL.here {r : Nat} {F : List Value → List Value} {ty : TypeId} {cs : List Value} {L : List Blk} : PutL ((r, ty, cs) :: L) r F ty cs ((r, ty, F cs) :: L) := ⟨⟨0, rfl, rfl⟩⟩
section steps
variable {S : List Nat} {H0 H : AHeap} {L L' : List Blk} {K : Value → AHeap → Prop} {r o n : Nat} {ty : TypeId} {cs : List Value} {v : Value}
theorem SH.ldC (hS : SH S H0 H L) [hb : BlkL L r ty cs] (k : K v H) (hv : cs[o]? = some v := by rfl) : ME (ldW none (.pointer (some ⟨r, o, none⟩)) H) K := let ⟨i, hi⟩ := hb.at'; hS.ld i hi hv k
theorem SH.ldNC (hS : SH S H0 H L) [hb : BlkL L r ty cs] (k : K (.agg ⟨(cs.drop o).take n⟩) H) (hn : o + n ≤ cs.length := by exact Nat.le_of_ble_eq_true rfl) : ME (ldW (some n) (.pointer (some ⟨r, o, none⟩)) H) K := let ⟨i, hi⟩ := hb.at'; hS.ldN i hi hn k
theorem SH.ldCQ (hS : SH S H0 H L) [hb : BlkL L r ty cs] (k : K v (Go.Ae.hN H)) (hv : cs[o]? = some v := by rfl) : ME (ldW none (.pointer (some ⟨r, o, none⟩)) (Go.Ae.hN H)) K := let ⟨i, hi⟩ := hb.at'; hS.ldQ i hi hv k
theorem SH.ldNCQ (hS : SH S H0 H L) [hb : BlkL L r ty cs] (k : K (.agg ⟨(cs.drop o).take n⟩) (Go.Ae.hN H)) (hn : o + n ≤ cs.length := by exact Nat.le_of_ble_eq_true rfl) : ME (ldW (some n) (.pointer (some ⟨r, o, none⟩)) (Go.Ae.hN H)) K := let ⟨i, hi⟩ := hb.at'; hS.ldNQ i hi hn k
theorem SH.stC (hS : SH S H0 H L) [hb : PutL L r (fun cs => splice cs o (cellsL v)) ty cs L'] (k : ∀ H1, SH S H0 H1 L' → K undef H1) (hl : (cellsL v).length = n := by rfl) (hn : o + n ≤ cs.length := by exact Nat.le_of_ble_eq_true rfl) (hk : all' okCell (cellsL v) = true := by rfl) : ME (stW n (.pointer (some ⟨r, o, none⟩)) v H) K := by
  obtain ⟨i, hi, e⟩ := hb.at'
  subst e
  exact hS.st i hi hl hn hk k
end steps
section agg
variable {q : Option Value} {K : Value → Prop} {a b c d e f g h i : Value}
theorem PU.b1 (hq : q = some (.agg ⟨[a]⟩)) (k : K (.agg ⟨[a]⟩)) : PU q K := .of hq k
theorem PU.b2 (hq : q = some (.agg ⟨[a, b]⟩)) (k : K (.agg ⟨[a, b]⟩)) : PU q K := .of hq k
theorem PU.b3 (hq : q = some (.agg ⟨[a, b, c]⟩)) (k : K (.agg ⟨[a, b, c]⟩)) : PU q K := .of hq k
theorem PU.b4 (hq : q = some (.agg ⟨[a, b, c, d]⟩)) (k : K (.agg ⟨[a, b, c, d]⟩)) : PU q K := .of hq k
theorem PU.b5 (hq : q = some (.agg ⟨[a, b, c, d, e]⟩)) (k : K (.agg ⟨[a, b, c, d, e]⟩)) : PU q K := .of hq k
theorem PU.b6 (hq : q = some (.agg ⟨[a, b, c, d, e, f]⟩)) (k : K (.agg ⟨[a, b, c, d, e, f]⟩)) : PU q K := .of hq k
theorem PU.b7 (hq : q = some (.agg ⟨[a, b, c, d, e, f, g]⟩)) (k : K (.agg ⟨[a, b, c, d, e, f, g]⟩)) : PU q K := .of hq k
theorem PU.b8 (hq : q = some (.agg ⟨[a, b, c, d, e, f, g, h]⟩)) (k : K (.agg ⟨[a, b, c, d, e, f, g, h]⟩)) : PU q K := .of hq k
theorem PU.b9 (hq : q = some (.agg ⟨[a, b, c, d, e, f, g, h, i]⟩)) (k : K (.agg ⟨[a, b, c, d, e, f, g, h, i]⟩)) : PU q K := .of hq k
end agg
/-! ### rows and their types -/
def TyR (H : AHeap) (r : Nat) (ty : TypeId) : Prop := ∃ R, H.obj r = .row R ∧ R.ty = ty
theorem TyR.one {H : AHeap} {r : Nat} {ty ty' : TypeId} (h : TyR H r ty) (h' : TyR H r ty') : ty = ty' := by
  obtain ⟨R, h1, h2⟩ := h
  obtain ⟨R', h3, h4⟩ := h'
  rw [h1] at h3; cases h3
  rw [← h2, ← h4]
theorem Bk.tyR {H : AHeap} {r : Nat} {ty : TypeId} {cs : List Value} (h : Bk H r ty cs) : TyR H r ty := by
  obtain ⟨R, h1, h2, _⟩ := h
  exact ⟨R, h1, h2⟩
theorem TyR.of_obj {H H' : AHeap} {r : Nat} {ty : TypeId} (h : TyR H r ty) (e : H'.obj r = H.obj r) : TyR H' r ty := by
  obtain ⟨R, h1, h2⟩ := h
  exact ⟨R, e.trans h1, h2⟩
/-- a slice that is read, its row one of some, and of a type. -/
def FlT (F : Nat → Prop) (ty : TypeId) (H : AHeap) (a : Option Addr) (n es : Nat) (cs : List Value) : Prop := Fl H a n es cs ∧ ∀ r o, a = some ⟨r, o, none⟩ → 0 < n → F r ∧ r < H.next ∧ TyR H r ty
theorem FlT.nil (F : Nat → Prop) (ty : TypeId) (H : AHeap) (a : Option Addr) (es : Nat) : FlT F ty H a 0 es [] := ⟨Fl.nil _ _ _, fun _ _ _ h => absurd h (by omega)⟩
theorem FlT.stay {S : List Nat} {F : Nat → Prop} {es n : Nat} {ty : TypeId} {a : Option Addr} {H H' : AHeap} {cs : List Value} (h : FlT F ty H a n es cs) (hx : Ex' S H H') (hS : ∀ q ∈ S, ¬ F q ∨ ¬ TyR H q ty) : FlT F ty H' a n es cs := by
  obtain ⟨h1, h2⟩ := h
  have key : ∀ r o, a = some ⟨r, o, none⟩ → 0 < n → r ∉ S := fun r o e hn hr => by
    obtain ⟨h3, _, h4⟩ := h2 r o e hn
    rcases hS r hr with h5 | h5
    · exact h5 h3
    · exact h5 h4
  rcases Nat.eq_zero_or_pos n with rfl | hn
  · have : cs = [] := List.length_eq_zero_iff.1 (by have := h1.1; omega)
    subst this; exact FlT.nil _ _ _ _ _
  · refine ⟨h1.ext hx fun r o e => key r o e hn, fun r o e _ => ?_⟩
    obtain ⟨h3, h4, h5⟩ := h2 r o e hn
    exact ⟨h3, Nat.lt_of_lt_of_le h4 hx.next, h5.of_obj (hx.obj r h4 (key r o e hn))⟩
theorem FlT.ex {F : Nat → Prop} {es n : Nat} {ty : TypeId} {a : Option Addr} {H H' : AHeap} {cs : List Value} (h : FlT F ty H a n es cs) (hx : Ext H H') : FlT F ty H' a n es cs := h.stay hx (fun q h => nomatch h)
theorem FlT.wk {F F' : Nat → Prop} {es n : Nat} {ty : TypeId} {a : Option Addr} {H : AHeap} {cs : List Value} (h : FlT F ty H a n es cs) (hb : ∀ r, F r → F' r) : FlT F' ty H a n es cs := ⟨h.1, fun r o e hn => ⟨hb _ (h.2 r o e hn).1, (h.2 r o e hn).2⟩⟩
theorem FlT.le {b b' es n : Nat} {ty : TypeId} {a : Option Addr} {H : AHeap} {cs : List Value} (h : FlT (b ≤ ·) ty H a n es cs) (hb : b' ≤ b) : FlT (b' ≤ ·) ty H a n es cs := h.wk fun _ h => Nat.le_trans hb h
theorem SH.tyNe {S : List Nat} {H0 H : AHeap} {L : List Blk} (hS : SH S H0 H L) {ty : TypeId} (h : L.all (fun e => !(e.2.1 == ty)) = true) : ∀ q ∈ L.map (·.1), ¬ TyR H q ty := fun q hq ht => by
  obtain ⟨e, he, rfl⟩ := List.mem_map.1 hq
  have h1 := (hS.bk e he).tyR.one ht
  have h2 := List.all_eq_true.1 h e he
  simp [h1] at h2
theorem GB.flF {S : List Nat} {H0 H : AHeap} {L : List Blk} {F : Nat → Prop} {ty : TypeId} {es : Nat} {v : Value} {cs : List Value} {gb : List Blk} (hg : GB ty es v cs gb) (hS : SH S H0 H (gb ++ L)) (hF : ∀ e ∈ gb, F e.1) : ∃ a n c, v = .slice a n c ∧ cs.length = n * es ∧ FlT F ty H a n es cs := by
  rcases hg with ⟨rfl, rfl, rfl⟩ | ⟨r, n, junk, rfl, hn, rfl⟩
  · exact ⟨none, 0, 0, rfl, by simp, FlT.nil _ _ _ _ _⟩
  · refine ⟨_, n, _, rfl, hn, ⟨hn, fun i x hi => ⟨r, 0, rfl, (hS.lo _ (List.mem_cons_self ..)).2, ?_⟩⟩, fun r' o e _ => ?_⟩
    · rw [Nat.zero_add]
      refine (hS.get 0 rfl).cell ?_
      rw [List.getElem?_append_left (List.getElem?_eq_some_iff.1 hi).1]; exact hi
    · cases e
      exact ⟨hF _ (List.mem_cons_self ..), (hS.lo _ (List.mem_cons_self ..)).2, (hS.get 0 rfl).tyR⟩
theorem GB.flT {H0 H : AHeap} {L : List Blk} {ty : TypeId} {es : Nat} {v : Value} {cs : List Value} {gb : List Blk} (hg : GB ty es v cs gb) (hS : SH [] H0 H (gb ++ L)) : ∃ a n c, v = .slice a n c ∧ cs.length = n * es ∧ FlT (H0.next ≤ ·) ty H a n es cs :=
  hg.flF hS fun e he => hS.lo0 (List.mem_append_left _ he)
theorem GB.all {ty ty' : TypeId} {es : Nat} {v : Value} {cs : List Value} {gb : List Blk} (hg : GB ty es v cs gb) (h : (ty == ty') = false) : gb.all (fun e => !(e.2.1 == ty')) = true := by
  rcases hg with ⟨_, _, rfl⟩ | ⟨r, n, junk, _, _, rfl⟩
  · rfl
  · simp at h; simp [h]
section steps
variable {S : List Nat} {H0 H : AHeap} {L L' : List Blk} {K : Value → AHeap → Prop} {r o n : Nat} {ty : TypeId} {cs : List Value} {v : Value}
theorem SH.stCQ (hS : SH S H0 H L) [hb : PutL L r (fun cs => splice cs o (cellsL v)) ty cs L'] (k : ∀ H1, SH S H0 (hM H H1) L' → K undef H1) (hl : (cellsL v).length = n := by rfl) (hn : o + n ≤ cs.length := by exact Nat.le_of_ble_eq_true rfl) (hk : all' okCell (cellsL v) = true := by rfl) : ME (stW n (.pointer (some ⟨r, o, none⟩)) v (Go.Ae.hN H)) K := by
  obtain ⟨i, hi, e⟩ := hb.at'
  subst e
  obtain ⟨H1, h1, h2, hx⟩ := (SH.of_hN hS).writeAt (vs := cellsL v) (o := o) i hi (by omega) hk
  show ME (gd (Nat.beq (len (cellsL v)) n) (obind ((Go.Ae.hN H).write r o (cellsL v)) fun H' => some (undef, H'))) K
  rw [len_eq, hl, Nat.beq_refl, h1]
  refine k H1 ?_
  have hm : hM H H1 = hM H H1 := rfl
  exact ⟨Ex'.later hS.ext hx.draw (fun q hq => by
      simp at hq; subst hq
      exact (hS.lo _ (List.mem_of_getElem? hi)).1), h2.bk, fun e he => ⟨(h2.lo e he).1, (h2.lo e he).2⟩, h2.ne, hx.draw.wf hS.wf⟩
end steps
/-- a slice laid anew, with its type. -/
theorem SH.apNewT {S : List Nat} {H0 H : AHeap} {L : List Blk} {K : Value → AHeap → Prop} {ty : TypeId} {es n : Nat} {v : Value} {xs : List Value} (hS : SH S H0 H L) (he : 0 < es) (hv : v = .slice none 0 0 ∨ ∃ a, v = .slice (some a) 0 0) {a : Option Addr} {c : Nat} (hx : Fl H a n es xs) (hn : n ≤ 16777216)
    (k : ∀ a' c' H1 L', FlT (H.next ≤ ·) ty H1 a' n es xs → SH S H0 H1 (L' ++ L) → K (.slice a' n c') H1) : ME (apA ty es v (.slice a n c) H) K := by
  rw [apA_none hv (appended_fl hx he) hn]
  split
  · next h0 =>
    subst h0
    have hc : xs = [] := List.length_eq_zero_iff.1 (by have := hx.1; omega)
    subst hc
    rcases hv with rfl | ⟨a, rfl⟩
    · exact k none 0 H [] (FlT.nil _ _ _ _ _) hS
    · exact k (some a) 0 H [] (FlT.nil _ _ _ _ _) hS
  · next h0 =>
    have hb := Bk.new H ty xs
    exact k _ _ _ [(H.next, ty, xs)] ⟨hb.fl (Nat.lt_succ_self _) hx.1, fun r o e _ => by cases e; exact ⟨Nat.le_refl _, Nat.lt_succ_self _, hb.tyR⟩⟩ (hS.grow ty xs)
/-! ### what is one's own, and what is another's -/
theorem SH.own {S : List Nat} {H0 H : AHeap} {M L : List Blk} (hS : SH S H0 H (M ++ L)) : SH (M.map (·.1)) H H M := (hS.sub (List.sublist_append_left M L)).base
theorem SH.frame {S : List Nat} {H0 H H' : AHeap} {M M' L : List Blk} (hS : SH S H0 H (M ++ L)) (h : SH (M.map (·.1)) H H' M') : SH S H0 H' (M' ++ L) :=
  hS.turn h.ext (fun e he => ⟨h.bk e he, h.lo e he⟩) h.ne
theorem CV.me' {o : Option Value} {q : Option (Value × AHeap)} {v : Value} {H1 : AHeap} {Kp : Value → Prop} {Km : Value → AHeap → Prop} (ho : o = none) (hq : q = some (v, H1)) (k : Km v H1) : CV o q Kp Km := by rw [ho, hq]; exact k
theorem perm1 (x : Blk) (L : List Blk) : (x :: (L ++ [])).Perm (L ++ [x]) := by rw [List.append_nil]; exact List.perm_append_comm (l₁ := [x])
theorem perm3 (x y z : Blk) (L : List Blk) : (x :: y :: z :: (L ++ [])).Perm (L ++ [x, y, z]) := by rw [List.append_nil]; exact List.perm_append_comm (l₁ := [x, y, z])
theorem perm4 (x y z u : Blk) (L : List Blk) : (x :: y :: z :: u :: (L ++ [])).Perm (L ++ [x, y, z, u]) := by rw [List.append_nil]; exact List.perm_append_comm (l₁ := [x, y, z, u])
/-- nothing was drawn twice. -/
theorem dynOk_qt {ops : Array Oper} {cls : List Cl} {K : Prop} (h : noTwo cls = true) (k : K) : dynOk ops cls = true ∧ K := ⟨dynOk_quiet h, k⟩
end Go.Ae
