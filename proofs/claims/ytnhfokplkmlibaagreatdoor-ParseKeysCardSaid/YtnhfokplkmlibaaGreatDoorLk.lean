/-
  What the pieces of three functions come to, told by a program. No condition.
-/
import Derived.Test.YtnhfokplkmlibaaGreatDoorProg
import Derived.Test.YtnhfokplkmlibaaGreatDoorW16
set_option linter.unusedSimpArgs false
set_option linter.unusedVariables false
set_option maxRecDepth 100000
namespace Go.Proofs.Lk
open Go.Ae
noncomputable abbrev Pg : Program := Tryz.prog
/-- of functions that are not gone into. -/
noncomputable def X : Xt := ⟨fun g => 0, fun g args H => bif' (Nat.beq g 5) (orT args H) none⟩
abbrev N_souffleurlaw31_ParseKeys : Nat := 3
abbrev N_parse_Key : Nat := 4
abbrev N_souffleurlaw31_works : Nat := 5
abbrev N_parse_lay : Nat := 6
/-! ### souffleur/souffleurlaw31.ParseKeys -/
noncomputable def B_souffleurlaw31_ParseKeys : Code := bodyOf Tryz.f3
noncomputable def st_souffleurlaw31_ParseKeys (x0 x1 x2 x3 x4 x5 x6 x7 x8 x9 x10 x11 : Value) (rg : List (Nat × Value)) (H : AHeap) : St := ⟨4095, 126, rg, (.node (.node (.node (.node (.node (.node (.node .nil top .nil) top (.node .nil top .nil)) top (.node (.node .nil top .nil) top (.node .nil top .nil))) x7 (.node (.node (.node .nil top .nil) top (.node .nil top .nil)) top (.node (.node .nil top .nil) top (.node .nil top .nil)))) x3 (.node (.node (.node (.node .nil top .nil) top (.node .nil top .nil)) top (.node (.node .nil top .nil) top (.node .nil top .nil))) x11 (.node (.node (.node .nil top .nil) top (.node .nil top .nil)) top (.node (.node .nil top .nil) top (.node .nil top .nil))))) x1 (.node (.node (.node (.node (.node .nil top .nil) top (.node .nil top .nil)) top (.node (.node .nil top .nil) top (.node .nil top .nil))) x9 (.node (.node (.node .nil top .nil) top (.node .nil top .nil)) top (.node (.node .nil top .nil) top (.node .nil top .nil)))) x5 (.node (.node (.node (.node .nil top .nil) top (.node .nil top .nil)) top (.node (.node .nil top .nil) top (.node .nil top .nil))) top (.node (.node (.node .nil top .nil) top (.node .nil top .nil)) top (.node (.node .nil top .nil) top (.node .nil top .nil)))))) x0 (.node (.node (.node (.node (.node (.node .nil top .nil) top (.node .nil top .nil)) top (.node (.node .nil top .nil) top (.node .nil top .nil))) x8 (.node (.node (.node .nil top .nil) top (.node .nil top .nil)) top (.node (.node .nil top .nil) top (.node .nil top .nil)))) x4 (.node (.node (.node (.node .nil top .nil) top (.node .nil top .nil)) top (.node (.node .nil top .nil) top (.node .nil top .nil))) top (.node (.node (.node .nil top .nil) top (.node .nil top .nil)) top (.node (.node .nil top .nil) top (.node .nil top .nil))))) x2 (.node (.node (.node (.node (.node .nil top .nil) top (.node .nil top .nil)) top (.node (.node .nil top .nil) top (.node .nil top .nil))) x10 (.node (.node (.node .nil top .nil) top (.node .nil top .nil)) top (.node (.node .nil top .nil) top (.node .nil top .nil)))) x6 (.node (.node (.node (.node .nil top .nil) top (.node .nil top .nil)) top (.node (.node .nil top .nil) top (.node .nil top .nil))) top (.node (.node (.node .nil top .nil) top (.node .nil top .nil)) top (.node (.node .nil top .nil) top .nil)))))), [], H⟩
theorem e_souffleurlaw31_ParseKeys {a0 a1 a2 : Value} {H : AHeap} {K : Value → AHeap → Prop} (h : EvP Pg X (sub B_souffleurlaw31_ParseKeys []) (st_souffleurlaw31_ParseKeys a0 a1 a2 top top top top top top top top top [] H) (endK Pg [.tmp 6] K)) : CallP Pg X N_souffleurlaw31_ParseKeys [a0, a1, a2] H K :=
  CallP.body (nl := 4095) (fn := Tryz.f3) (c := B_souffleurlaw31_ParseKeys) (by kernel_rfl) (by kernel_rfl) (by kernel_rfl) (by kernel_rfl) (by kernel_rfl) (Eq.mp (by kernel_rfl) h)
theorem r_ret_souffleurlaw31_ParseKeys {x0 x1 x2 x3 x4 x5 x6 x7 x8 x9 x10 x11 : Value} {rg : List (Nat × Value)} {H : AHeap} {K : Value → AHeap → Prop} (h : K x6 H) : endK Pg [.tmp 6] K (.ret (st_souffleurlaw31_ParseKeys x0 x1 x2 x3 x4 x5 x6 x7 x8 x9 x10 x11 rg H)) := endK_ret rfl (Eq.mp (by kernel_rfl) h)
theorem r_norm_souffleurlaw31_ParseKeys {x0 x1 x2 x3 x4 x5 x6 x7 x8 x9 x10 x11 : Value} {rg : List (Nat × Value)} {H : AHeap} {K : Value → AHeap → Prop} (h : K x6 H) : endK Pg [.tmp 6] K (.norm (st_souffleurlaw31_ParseKeys x0 x1 x2 x3 x4 x5 x6 x7 x8 x9 x10 x11 rg H)) := endK_norm rfl (Eq.mp (by kernel_rfl) h)
theorem c_souffleurlaw31_ParseKeys {x0 x1 x2 x3 x4 x5 x6 x7 x8 x9 x10 x11 : Value} {rg : List (Nat × Value)} {H : AHeap} {K : Out → Prop} (h :
    ME (abox 22 x0 H) fun v2 H1 =>
    ME (abox 24 x1 H1) fun v4 H3 =>
    ME (abox 24 x2 H3) fun v6 H5 =>
    PU (idR 2 1 v4 (Value.int .i64 0)) fun v7 =>
    ME (ldW none v7 H5) fun v9 H8 =>
    PU (lenA v9) fun v10 =>
    PU (idR 2 1 v4 (Value.int .i64 1)) fun v11 =>
    ME (ldW none v11 H8) fun v13 H12 =>
    PU (lenA v13) fun v14 =>
    PU (abin Pg .add 3 (.tmp 14) (.tmp 17) v10 v14) fun v15 =>
    PU (idR 2 1 v6 (Value.int .i64 0)) fun v16 =>
    ME (ldW none v16 H12) fun v18 H17 =>
    PU (lenA v18) fun v19 =>
    PU (abin Pg .add 3 (.tmp 18) (.tmp 21) v15 v19) fun v20 =>
    PU (idR 2 1 v6 (Value.int .i64 1)) fun v21 =>
    ME (ldW none v21 H17) fun v23 H22 =>
    PU (lenA v23) fun v24 =>
    PU (abin Pg .add 3 (.tmp 22) (.tmp 25) v20 v24) fun v25 =>
    PU (abin Pg .gtr 3 (.tmp 26) (.const (Value.int .i64 60)) v25 (Value.int .i64 60)) fun v26 =>
    cdW (vBool v26)
      (K (.ret (st_souffleurlaw31_ParseKeys x0 x1 x2 v2 v4 v6 (Value.bool true) x7 x8 x9 x10 x11 [] H22)))
      (PU (idR 2 1 v2 (Value.int .i64 0)) fun v27 =>
      ME (ldW none v27 (hN H22)) fun v29 H28 =>
      PU (idR 2 1 v4 (Value.int .i64 0)) fun v30 =>
      ME (ldW none v30 (hN (hM H22 H28))) fun v32 H31 =>
      PU (idR 2 1 v6 (Value.int .i64 0)) fun v33 =>
      ME (ldW none v33 (hN (hM (hM H22 H28) H31))) fun v35 H34 =>
      CallP Pg X N_parse_Key [v29, v32, v35, (Value.bool true)] (hN (hM (hM (hM H22 H28) H31) H34)) fun v37 H36 =>
      PU (idR 2 1 v2 (Value.int .i64 1)) fun v38 =>
      ME (ldW none v38 (hN (hM (hM (hM (hM H22 H28) H31) H34) H36))) fun v40 H39 =>
      PU (idR 2 1 v4 (Value.int .i64 1)) fun v41 =>
      ME (ldW none v41 (hN (hM (hM (hM (hM (hM H22 H28) H31) H34) H36) H39))) fun v43 H42 =>
      PU (idR 2 1 v6 (Value.int .i64 1)) fun v44 =>
      ME (ldW none v44 (hN (hM (hM (hM (hM (hM (hM H22 H28) H31) H34) H36) H39) H42))) fun v46 H45 =>
      CallP Pg X N_parse_Key [v40, v43, v46, (Value.bool true)] (hN (hM (hM (hM (hM (hM (hM (hM H22 H28) H31) H34) H36) H39) H42) H45)) fun v48 H47 =>
      dynOk (opsOf (sub B_souffleurlaw31_ParseKeys [1, 1, 0])) [(cl 0), (cl 0), (clC (hM (hM (hM (hM (hM (hM (hM H22 H28) H31) H34) H36) H39) H42) H45) H47), (clL 1 v44 (hM (hM (hM (hM (hM (hM H22 H28) H31) H34) H36) H39) H42) H45), (cl 0), (clL 1 v41 (hM (hM (hM (hM (hM H22 H28) H31) H34) H36) H39) H42), (cl 0), (clL 1 v38 (hM (hM (hM (hM H22 H28) H31) H34) H36) H39), (cl 0), (clC (hM (hM (hM H22 H28) H31) H34) H36), (clL 1 v33 (hM (hM H22 H28) H31) H34), (cl 0), (clL 1 v30 (hM H22 H28) H31), (cl 0), (clL 1 v27 H22 H28), (cl 0)] = true ∧ PU (idR 2 1 v2 (Value.int .i64 0)) fun v49 =>
      ME (ldW none v49 (hM (hM (hM (hM (hM (hM (hM (hM H22 H28) H31) H34) H36) H39) H42) H45) H47)) fun v51 H50 =>
      PU (idR 2 1 v2 (Value.int .i64 1)) fun v52 =>
      ME (ldW none v52 H50) fun v54 H53 =>
      PU (abin Pg .eql 3 (.tmp 43) (.tmp 45) v51 v54) fun v55 =>
      cdW (vBool v55)
        (PU (idR 2 1 v4 (Value.int .i64 0)) fun v56 =>
        ME (ldW none v56 H53) fun v58 H57 =>
        PU (lenA v58) fun v59 =>
        PU (idR 2 1 v4 (Value.int .i64 1)) fun v60 =>
        ME (ldW none v60 H57) fun v62 H61 =>
        PU (lenA v62) fun v63 =>
        PU (abin Pg .eql 3 (.tmp 50) (.tmp 53) v59 v63) fun v64 =>
        cdW (vBool v64)
          (PU (idR 2 1 v6 (Value.int .i64 0)) fun v65 =>
          ME (ldW none v65 H61) fun v67 H66 =>
          PU (lenA v67) fun v68 =>
          PU (idR 2 1 v6 (Value.int .i64 1)) fun v69 =>
          ME (ldW none v69 H66) fun v71 H70 =>
          PU (lenA v71) fun v72 =>
          PU (abin Pg .eql 3 (.tmp 59) (.tmp 62) v68 v72) fun v73 =>
          EvP Pg X (sub B_souffleurlaw31_ParseKeys [1, 1, 1, 1]) (st_souffleurlaw31_ParseKeys x0 x1 x2 v2 v4 v6 (Value.bool false) v37 v48 v73 x10 x11 [(64, v73), (63, v73), (56, (Value.bool true)), (62, v72), (56, (Value.bool true)), (61, v71), (56, (Value.bool true)), (60, v69), (56, (Value.bool true)), (59, v68), (56, (Value.bool true)), (58, v67), (56, (Value.bool true)), (57, v65), (56, (Value.bool true)), (56, v64), (55, v64), (54, v64), (47, (Value.bool true)), (53, v63), (47, (Value.bool true)), (52, v62), (47, (Value.bool true)), (51, v60), (47, (Value.bool true)), (50, v59), (47, (Value.bool true)), (49, v58), (47, (Value.bool true)), (48, v56), (47, (Value.bool true)), (47, v55), (46, v55), (45, v54), (44, v52), (43, v51), (42, v49)] H70) K)
          (EvP Pg X (sub B_souffleurlaw31_ParseKeys [1, 1, 1, 1]) (st_souffleurlaw31_ParseKeys x0 x1 x2 v2 v4 v6 (Value.bool false) v37 v48 (Value.bool false) x10 x11 [(64, (Value.bool false)), (63, undef), (56, (Value.bool false)), (62, undef), (56, (Value.bool false)), (61, undef), (56, (Value.bool false)), (60, undef), (56, (Value.bool false)), (59, undef), (56, (Value.bool false)), (58, undef), (56, (Value.bool false)), (57, undef), (56, (Value.bool false)), (56, v64), (55, v64), (54, v64), (47, (Value.bool true)), (53, v63), (47, (Value.bool true)), (52, v62), (47, (Value.bool true)), (51, v60), (47, (Value.bool true)), (50, v59), (47, (Value.bool true)), (49, v58), (47, (Value.bool true)), (48, v56), (47, (Value.bool true)), (47, v55), (46, v55), (45, v54), (44, v52), (43, v51), (42, v49)] H61) K))
        (EvP Pg X (sub B_souffleurlaw31_ParseKeys [1, 1, 1, 1]) (st_souffleurlaw31_ParseKeys x0 x1 x2 v2 v4 v6 (Value.bool false) v37 v48 (Value.bool false) x10 x11 [(64, (Value.bool false)), (63, undef), (56, (Value.bool false)), (62, undef), (56, (Value.bool false)), (61, undef), (56, (Value.bool false)), (60, undef), (56, (Value.bool false)), (59, undef), (56, (Value.bool false)), (58, undef), (56, (Value.bool false)), (57, undef), (56, (Value.bool false)), (56, (Value.bool false)), (55, (Value.bool false)), (54, undef), (47, (Value.bool false)), (53, undef), (47, (Value.bool false)), (52, undef), (47, (Value.bool false)), (51, undef), (47, (Value.bool false)), (50, undef), (47, (Value.bool false)), (49, undef), (47, (Value.bool false)), (48, undef), (47, (Value.bool false)), (47, v55), (46, v55), (45, v54), (44, v52), (43, v51), (42, v49)] H53) K))) :
    EvP Pg X (sub B_souffleurlaw31_ParseKeys []) (st_souffleurlaw31_ParseKeys x0 x1 x2 x3 x4 x5 x6 x7 x8 x9 x10 x11 rg H) K := Wp.tells (Eq.mp (by kernel_rfl) h)
abbrev R_souffleurlaw31_ParseKeys_11110100 (x0 x1 x2 x3 x4 x5 x6 x7 x8 x11 : Value) (I : Nat → Value → Value → AHeap → Prop) (m : Nat) (s : St) : Prop := ∃ (x9 x10 : Value) (rg : List (Nat × Value)) (H : AHeap), s = st_souffleurlaw31_ParseKeys x0 x1 x2 x3 x4 x5 x6 x7 x8 x9 x10 x11 rg H ∧ I m x9 x10 H
theorem l_souffleurlaw31_ParseKeys_11110100 {x0 x1 x2 x3 x4 x5 x6 x7 x8 x11 : Value} {K : Out → Prop} {I : Nat → Value → Value → AHeap → Prop} (h : ∀ n (x9 x10 : Value) (rg : List (Nat × Value)) (H : AHeap), I n x9 x10 H → EvP Pg X (sub B_souffleurlaw31_ParseKeys [1, 1, 1, 1, 0, 1, 0, 0]) (st_souffleurlaw31_ParseKeys x0 x1 x2 x3 x4 x5 x6 x7 x8 x9 x10 x11 rg H) (rdW (R_souffleurlaw31_ParseKeys_11110100 x0 x1 x2 x3 x4 x5 x6 x7 x8 x11 I) n K)) (n : Nat) {x9 x10 : Value} {rg : List (Nat × Value)} {H : AHeap} (h0 : I n x9 x10 H) : EvP Pg X (.loop (sub B_souffleurlaw31_ParseKeys [1, 1, 1, 1, 0, 1, 0, 0])) (st_souffleurlaw31_ParseKeys x0 x1 x2 x3 x4 x5 x6 x7 x8 x9 x10 x11 rg H) K :=
  EvP.loopR (R := R_souffleurlaw31_ParseKeys_11110100 x0 x1 x2 x3 x4 x5 x6 x7 x8 x11 I) (fun n s hs => by obtain ⟨x9, x10, rg, H, rfl, hI⟩ := hs; exact h _ _ _ _ _ hI) n _ ⟨_, _, _, _, rfl, h0⟩
theorem c_souffleurlaw31_ParseKeys_1111 {x0 x1 x2 x3 x4 x5 x6 x7 x8 x9 x10 x11 : Value} {rg : List (Nat × Value)} {H : AHeap} {K : Out → Prop} (h :
    EvP Pg X (.loop (sub B_souffleurlaw31_ParseKeys [1, 1, 1, 1, 0, 1, 0, 0])) (st_souffleurlaw31_ParseKeys x0 x1 x2 x3 x4 x5 x6 x7 x8 x9 (Value.int .i64 0) x11 [] H) (bkW 0 (sqE Pg X (sub B_souffleurlaw31_ParseKeys [1, 1, 1, 1, 1]) K))) :
    EvP Pg X (sub B_souffleurlaw31_ParseKeys [1, 1, 1, 1]) (st_souffleurlaw31_ParseKeys x0 x1 x2 x3 x4 x5 x6 x7 x8 x9 x10 x11 rg H) K := Wp.tells (Eq.mp (by kernel_rfl) h)
abbrev R_souffleurlaw31_ParseKeys_111110100 (x0 x1 x2 x3 x4 x5 x6 x7 x8 x10 : Value) (I : Nat → Value → Value → AHeap → Prop) (m : Nat) (s : St) : Prop := ∃ (x9 x11 : Value) (rg : List (Nat × Value)) (H : AHeap), s = st_souffleurlaw31_ParseKeys x0 x1 x2 x3 x4 x5 x6 x7 x8 x9 x10 x11 rg H ∧ I m x9 x11 H
theorem l_souffleurlaw31_ParseKeys_111110100 {x0 x1 x2 x3 x4 x5 x6 x7 x8 x10 : Value} {K : Out → Prop} {I : Nat → Value → Value → AHeap → Prop} (h : ∀ n (x9 x11 : Value) (rg : List (Nat × Value)) (H : AHeap), I n x9 x11 H → EvP Pg X (sub B_souffleurlaw31_ParseKeys [1, 1, 1, 1, 1, 0, 1, 0, 0]) (st_souffleurlaw31_ParseKeys x0 x1 x2 x3 x4 x5 x6 x7 x8 x9 x10 x11 rg H) (rdW (R_souffleurlaw31_ParseKeys_111110100 x0 x1 x2 x3 x4 x5 x6 x7 x8 x10 I) n K)) (n : Nat) {x9 x11 : Value} {rg : List (Nat × Value)} {H : AHeap} (h0 : I n x9 x11 H) : EvP Pg X (.loop (sub B_souffleurlaw31_ParseKeys [1, 1, 1, 1, 1, 0, 1, 0, 0])) (st_souffleurlaw31_ParseKeys x0 x1 x2 x3 x4 x5 x6 x7 x8 x9 x10 x11 rg H) K :=
  EvP.loopR (R := R_souffleurlaw31_ParseKeys_111110100 x0 x1 x2 x3 x4 x5 x6 x7 x8 x10 I) (fun n s hs => by obtain ⟨x9, x11, rg, H, rfl, hI⟩ := hs; exact h _ _ _ _ _ hI) n _ ⟨_, _, _, _, rfl, h0⟩
theorem c_souffleurlaw31_ParseKeys_11111 {x0 x1 x2 x3 x4 x5 x6 x7 x8 x9 x10 x11 : Value} {rg : List (Nat × Value)} {H : AHeap} {K : Out → Prop} (h :
    EvP Pg X (.loop (sub B_souffleurlaw31_ParseKeys [1, 1, 1, 1, 1, 0, 1, 0, 0])) (st_souffleurlaw31_ParseKeys x0 x1 x2 x3 x4 x5 x6 x7 x8 x9 x10 (Value.int .i64 0) [] H) (bkW 2 (sqE Pg X (sub B_souffleurlaw31_ParseKeys [1, 1, 1, 1, 1, 1]) K))) :
    EvP Pg X (sub B_souffleurlaw31_ParseKeys [1, 1, 1, 1, 1]) (st_souffleurlaw31_ParseKeys x0 x1 x2 x3 x4 x5 x6 x7 x8 x9 x10 x11 rg H) K := Wp.tells (Eq.mp (by kernel_rfl) h)
theorem c_souffleurlaw31_ParseKeys_11110100 {x0 x1 x2 x3 x4 x5 x6 x7 x8 x9 x10 x11 : Value} {rg : List (Nat × Value)} {H : AHeap} {K : Out → Prop} (h :
    cdW (vBool x9)
      (PU (idR 2 1 x4 (Value.int .i64 0)) fun v1 =>
      ME (ldW none v1 H) fun v3 H2 =>
      PU (lenA v3) fun v4 =>
      PU (abin Pg .lss 3 (.tmp 67) (.tmp 70) x10 v4) fun v5 =>
      cdW (vBool v5)
        (EvP Pg X (sub B_souffleurlaw31_ParseKeys [1, 1, 1, 1, 0, 1, 0, 0, 1]) (st_souffleurlaw31_ParseKeys x0 x1 x2 x3 x4 x5 x6 x7 x8 x9 x10 x11 [(72, v5), (71, v5), (66, (Value.bool true)), (70, v4), (66, (Value.bool true)), (69, v3), (66, (Value.bool true)), (68, v1), (66, (Value.bool true)), (67, x10), (66, (Value.bool true)), (66, x9), (65, x9)] H2) K)
        (K (.exit 0 (st_souffleurlaw31_ParseKeys x0 x1 x2 x3 x4 x5 x6 x7 x8 x9 x10 x11 [(72, v5), (71, v5), (66, (Value.bool true)), (70, v4), (66, (Value.bool true)), (69, v3), (66, (Value.bool true)), (68, v1), (66, (Value.bool true)), (67, x10), (66, (Value.bool true)), (66, x9), (65, x9)] H2))))
      (K (.exit 0 (st_souffleurlaw31_ParseKeys x0 x1 x2 x3 x4 x5 x6 x7 x8 x9 x10 x11 [(72, (Value.bool false)), (71, undef), (66, (Value.bool false)), (70, undef), (66, (Value.bool false)), (69, undef), (66, (Value.bool false)), (68, undef), (66, (Value.bool false)), (67, undef), (66, (Value.bool false)), (66, x9), (65, x9)] H)))) :
    EvP Pg X (sub B_souffleurlaw31_ParseKeys [1, 1, 1, 1, 0, 1, 0, 0]) (st_souffleurlaw31_ParseKeys x0 x1 x2 x3 x4 x5 x6 x7 x8 x9 x10 x11 rg H) K := Wp.tells (Eq.mp (by kernel_rfl) h)
theorem c_souffleurlaw31_ParseKeys_111111 {x0 x1 x2 x3 x4 x5 x6 x7 x8 x9 x10 x11 : Value} {rg : List (Nat × Value)} {H : AHeap} {K : Out → Prop} (h :
    PU (abin Pg .eql 9 (.tmp 107) (.tmp 108) x7 x8) fun v1 =>
    PU (abin Pg .eql 4 (.tmp 109) (.tmp 110) v1 x9) fun v2 =>
    cdW (vBool v2)
      (PU (idR 2 1 x3 (Value.int .i64 0)) fun v3 =>
      ME (ldW none v3 H) fun v5 H4 =>
      PU (idR 2 1 x4 (Value.int .i64 0)) fun v6 =>
      ME (ldW none v6 H4) fun v8 H7 =>
      PU (idR 2 1 x5 (Value.int .i64 0)) fun v9 =>
      ME (ldW none v9 H7) fun v11 H10 =>
      CallP Pg X N_parse_Key [v5, v8, v11, (Value.bool false)] H10 fun v13 H12 =>
      PU (abin Pg .neq 9 (.tmp 113) (.tmp 120) x7 v13) fun v14 =>
      cdW (vBool v14)
        (CallP Pg X N_souffleurlaw31_works [] H12 fun v16 H15 =>
        K (.ret (st_souffleurlaw31_ParseKeys x0 x1 x2 x3 x4 x5 v16 x7 x8 x9 x10 x11 [(125, v16), (124, v16), (123, (Value.bool true)), (123, v14), (122, v14), (121, v14), (112, (Value.bool true)), (120, v13), (112, (Value.bool true)), (119, v11), (112, (Value.bool true)), (118, v9), (112, (Value.bool true)), (117, v8), (112, (Value.bool true)), (116, v6), (112, (Value.bool true)), (115, v5), (112, (Value.bool true)), (114, v3), (112, (Value.bool true)), (113, x7), (112, (Value.bool true)), (112, v2), (111, v2), (110, x9), (109, v1), (108, x8), (107, x7)] H15)))
        (K (.ret (st_souffleurlaw31_ParseKeys x0 x1 x2 x3 x4 x5 (Value.bool false) x7 x8 x9 x10 x11 [(125, (Value.bool false)), (124, undef), (123, (Value.bool false)), (123, v14), (122, v14), (121, v14), (112, (Value.bool true)), (120, v13), (112, (Value.bool true)), (119, v11), (112, (Value.bool true)), (118, v9), (112, (Value.bool true)), (117, v8), (112, (Value.bool true)), (116, v6), (112, (Value.bool true)), (115, v5), (112, (Value.bool true)), (114, v3), (112, (Value.bool true)), (113, x7), (112, (Value.bool true)), (112, v2), (111, v2), (110, x9), (109, v1), (108, x8), (107, x7)] H12))))
      (K (.ret (st_souffleurlaw31_ParseKeys x0 x1 x2 x3 x4 x5 (Value.bool false) x7 x8 x9 x10 x11 [(125, (Value.bool false)), (124, undef), (123, (Value.bool false)), (123, (Value.bool false)), (122, (Value.bool false)), (121, undef), (112, (Value.bool false)), (120, undef), (112, (Value.bool false)), (119, undef), (112, (Value.bool false)), (118, undef), (112, (Value.bool false)), (117, undef), (112, (Value.bool false)), (116, undef), (112, (Value.bool false)), (115, undef), (112, (Value.bool false)), (114, undef), (112, (Value.bool false)), (113, undef), (112, (Value.bool false)), (112, v2), (111, v2), (110, x9), (109, v1), (108, x8), (107, x7)] H)))) :
    EvP Pg X (sub B_souffleurlaw31_ParseKeys [1, 1, 1, 1, 1, 1]) (st_souffleurlaw31_ParseKeys x0 x1 x2 x3 x4 x5 x6 x7 x8 x9 x10 x11 rg H) K := Wp.tells (Eq.mp (by kernel_rfl) h)
theorem c_souffleurlaw31_ParseKeys_111110100 {x0 x1 x2 x3 x4 x5 x6 x7 x8 x9 x10 x11 : Value} {rg : List (Nat × Value)} {H : AHeap} {K : Out → Prop} (h :
    cdW (vBool x9)
      (PU (idR 2 1 x5 (Value.int .i64 0)) fun v1 =>
      ME (ldW none v1 H) fun v3 H2 =>
      PU (lenA v3) fun v4 =>
      PU (abin Pg .lss 3 (.tmp 88) (.tmp 91) x11 v4) fun v5 =>
      cdW (vBool v5)
        (EvP Pg X (sub B_souffleurlaw31_ParseKeys [1, 1, 1, 1, 1, 0, 1, 0, 0, 1]) (st_souffleurlaw31_ParseKeys x0 x1 x2 x3 x4 x5 x6 x7 x8 x9 x10 x11 [(93, v5), (92, v5), (87, (Value.bool true)), (91, v4), (87, (Value.bool true)), (90, v3), (87, (Value.bool true)), (89, v1), (87, (Value.bool true)), (88, x11), (87, (Value.bool true)), (87, x9), (86, x9)] H2) K)
        (K (.exit 2 (st_souffleurlaw31_ParseKeys x0 x1 x2 x3 x4 x5 x6 x7 x8 x9 x10 x11 [(93, v5), (92, v5), (87, (Value.bool true)), (91, v4), (87, (Value.bool true)), (90, v3), (87, (Value.bool true)), (89, v1), (87, (Value.bool true)), (88, x11), (87, (Value.bool true)), (87, x9), (86, x9)] H2))))
      (K (.exit 2 (st_souffleurlaw31_ParseKeys x0 x1 x2 x3 x4 x5 x6 x7 x8 x9 x10 x11 [(93, (Value.bool false)), (92, undef), (87, (Value.bool false)), (91, undef), (87, (Value.bool false)), (90, undef), (87, (Value.bool false)), (89, undef), (87, (Value.bool false)), (88, undef), (87, (Value.bool false)), (87, x9), (86, x9)] H)))) :
    EvP Pg X (sub B_souffleurlaw31_ParseKeys [1, 1, 1, 1, 1, 0, 1, 0, 0]) (st_souffleurlaw31_ParseKeys x0 x1 x2 x3 x4 x5 x6 x7 x8 x9 x10 x11 rg H) K := Wp.tells (Eq.mp (by kernel_rfl) h)
theorem c_souffleurlaw31_ParseKeys_111101001 {x0 x1 x2 x3 x4 x5 x6 x7 x8 x9 x10 x11 : Value} {rg : List (Nat × Value)} {H : AHeap} {K : Out → Prop} (h :
    PU (idR 2 1 x4 (Value.int .i64 0)) fun v1 =>
    ME (ldW none v1 (hN H)) fun v3 H2 =>
    PU (idA 1 v3 x10) fun v4 =>
    ME (ldW none v4 (hN (hM H H2))) fun v6 H5 =>
    PU (idR 2 1 x4 (Value.int .i64 1)) fun v7 =>
    ME (ldW none v7 (hN (hM (hM H H2) H5))) fun v9 H8 =>
    PU (idA 1 v9 x10) fun v10 =>
    ME (ldW none v10 (hN (hM (hM (hM H H2) H5) H8))) fun v12 H11 =>
    PU (abin Pg .eql 3 (.tmp 79) (.tmp 84) v6 v12) fun v13 =>
    dynOk (opsOf (sub B_souffleurlaw31_ParseKeys [1, 1, 1, 1, 0, 1, 0, 0, 1, 0, 0])) [(cl 0), (cl 0), (clL 1 v10 (hM (hM (hM H H2) H5) H8) H11), (cl 0), (cl 0), (clL 1 v7 (hM (hM H H2) H5) H8), (cl 0), (clL 1 v4 (hM H H2) H5), (cl 0), (cl 0), (clL 1 v1 H H2), (cl 0)] = true ∧ PU (abin Pg .add 3 (.tmp 73) (.const (Value.int .i64 1)) x10 (Value.int .i64 1)) fun v14 =>
    K (.norm (st_souffleurlaw31_ParseKeys x0 x1 x2 x3 x4 x5 x6 x7 x8 v13 v14 x11 [(74, v14), (73, x10)] (hM (hM (hM (hM H H2) H5) H8) H11)))) :
    EvP Pg X (sub B_souffleurlaw31_ParseKeys [1, 1, 1, 1, 0, 1, 0, 0, 1]) (st_souffleurlaw31_ParseKeys x0 x1 x2 x3 x4 x5 x6 x7 x8 x9 x10 x11 rg H) K := Wp.tells (Eq.mp (by kernel_rfl) h)
theorem c_souffleurlaw31_ParseKeys_1111101001 {x0 x1 x2 x3 x4 x5 x6 x7 x8 x9 x10 x11 : Value} {rg : List (Nat × Value)} {H : AHeap} {K : Out → Prop} (h :
    PU (idR 2 1 x5 (Value.int .i64 0)) fun v1 =>
    ME (ldW none v1 (hN H)) fun v3 H2 =>
    PU (idA 1 v3 x11) fun v4 =>
    ME (ldW none v4 (hN (hM H H2))) fun v6 H5 =>
    PU (idR 2 1 x5 (Value.int .i64 1)) fun v7 =>
    ME (ldW none v7 (hN (hM (hM H H2) H5))) fun v9 H8 =>
    PU (idA 1 v9 x11) fun v10 =>
    ME (ldW none v10 (hN (hM (hM (hM H H2) H5) H8))) fun v12 H11 =>
    PU (abin Pg .eql 3 (.tmp 100) (.tmp 105) v6 v12) fun v13 =>
    dynOk (opsOf (sub B_souffleurlaw31_ParseKeys [1, 1, 1, 1, 1, 0, 1, 0, 0, 1, 0, 0])) [(cl 0), (cl 0), (clL 1 v10 (hM (hM (hM H H2) H5) H8) H11), (cl 0), (cl 0), (clL 1 v7 (hM (hM H H2) H5) H8), (cl 0), (clL 1 v4 (hM H H2) H5), (cl 0), (cl 0), (clL 1 v1 H H2), (cl 0)] = true ∧ PU (abin Pg .add 3 (.tmp 94) (.const (Value.int .i64 1)) x11 (Value.int .i64 1)) fun v14 =>
    K (.norm (st_souffleurlaw31_ParseKeys x0 x1 x2 x3 x4 x5 x6 x7 x8 v13 x10 v14 [(95, v14), (94, x11)] (hM (hM (hM (hM H H2) H5) H8) H11)))) :
    EvP Pg X (sub B_souffleurlaw31_ParseKeys [1, 1, 1, 1, 1, 0, 1, 0, 0, 1]) (st_souffleurlaw31_ParseKeys x0 x1 x2 x3 x4 x5 x6 x7 x8 x9 x10 x11 rg H) K := Wp.tells (Eq.mp (by kernel_rfl) h)

/-! ### souffleur/parse.Key -/
noncomputable def B_parse_Key : Code := bodyOf Tryz.f4
noncomputable def st_parse_Key (x0 x1 x2 x3 x8 x9 x11 x13 x37 x38 x39 x47 x48 x49 : Value) (rg : List (Nat × Value)) (H : AHeap) : St := ⟨986124491172623, 59, rg, (.node (.node (.node (.node (.node (.node .nil top .nil) top (.node .nil x47 .nil)) top (.node (.node .nil x39 .nil) top (.node .nil top .nil))) x3 (.node (.node (.node .nil top .nil) top (.node .nil top .nil)) x11 (.node (.node .nil top .nil) top .nil))) x1 (.node (.node (.node (.node .nil top .nil) top (.node .nil x49 .nil)) x9 (.node (.node .nil top .nil) top (.node .nil top .nil))) top (.node (.node (.node .nil x37 .nil) top (.node .nil top .nil)) x13 (.node (.node .nil top .nil) top .nil)))) x0 (.node (.node (.node (.node (.node .nil top .nil) top (.node .nil x48 .nil)) x8 (.node (.node .nil top .nil) top (.node .nil top .nil))) top (.node (.node (.node .nil top .nil) top (.node .nil top .nil)) top (.node (.node .nil top .nil) top .nil))) x2 (.node (.node (.node (.node .nil top .nil) top (.node .nil top .nil)) top (.node (.node .nil top .nil) top (.node .nil top .nil))) top (.node (.node (.node .nil x38 .nil) top (.node .nil top .nil)) top (.node (.node .nil top .nil) top .nil))))), [], H⟩
theorem e_parse_Key {a0 a1 a2 a3 : Value} {H : AHeap} {K : Value → AHeap → Prop} (h : EvP Pg X (sub B_parse_Key []) (st_parse_Key a0 a1 a2 a3 top top top top top top top top top top [] H) (endK Pg [.tmp 8] K)) : CallP Pg X N_parse_Key [a0, a1, a2, a3] H K :=
  CallP.body (nl := 986124491172623) (fn := Tryz.f4) (c := B_parse_Key) (by kernel_rfl) (by kernel_rfl) (by kernel_rfl) (by kernel_rfl) (by kernel_rfl) (Eq.mp (by kernel_rfl) h)
theorem r_ret_parse_Key {x0 x1 x2 x3 x8 x9 x11 x13 x37 x38 x39 x47 x48 x49 : Value} {rg : List (Nat × Value)} {H : AHeap} {K : Value → AHeap → Prop} (h : K x8 H) : endK Pg [.tmp 8] K (.ret (st_parse_Key x0 x1 x2 x3 x8 x9 x11 x13 x37 x38 x39 x47 x48 x49 rg H)) := endK_ret rfl (Eq.mp (by kernel_rfl) h)
theorem r_norm_parse_Key {x0 x1 x2 x3 x8 x9 x11 x13 x37 x38 x39 x47 x48 x49 : Value} {rg : List (Nat × Value)} {H : AHeap} {K : Value → AHeap → Prop} (h : K x8 H) : endK Pg [.tmp 8] K (.norm (st_parse_Key x0 x1 x2 x3 x8 x9 x11 x13 x37 x38 x39 x47 x48 x49 rg H)) := endK_norm rfl (Eq.mp (by kernel_rfl) h)
theorem c_parse_Key {x0 x1 x2 x3 x8 x9 x11 x13 x37 x38 x39 x47 x48 x49 : Value} {rg : List (Nat × Value)} {H : AHeap} {K : Out → Prop} (h :
    PU (lenA x1) fun v1 =>
    PU (abin Pg .mul 3 (.const (Value.int .i64 2)) (.tmp 15) (Value.int .i64 2) v1) fun v2 =>
    PU (abin Pg .add 3 (.const (Value.int .i64 16)) (.tmp 16) (Value.int .i64 16) v2) fun v3 =>
    PU (lenA x2) fun v4 =>
    PU (abin Pg .mul 3 (.const (Value.int .i64 2)) (.tmp 19) (Value.int .i64 2) v4) fun v5 =>
    PU (abin Pg .add 3 (.tmp 17) (.tmp 20) v3 v5) fun v6 =>
    ME (mkS 5 [(Value.int .u8 0)] (Value.int .i64 0) v6 H) fun v8 H7 =>
    cdW (vBool x3)
      (ME (bS 5 [(Value.int .u8 0)] 1 1 [(0, (Value.int .u8 1))] H7) fun v10 H9 =>
      ME (apA 5 1 v8 v10 H9) fun v12 H11 =>
      EvP Pg X (sub B_parse_Key [1, 1, 1]) (st_parse_Key x0 x1 x2 x3 (Value.string (ByteArray.mk #[])) v12 x11 x13 x37 x38 x39 x47 x48 x49 [(26, v12), (25, v10), (24, v8)] H11) K)
      (ME (bS 5 [(Value.int .u8 0)] 1 1 [(0, (Value.int .u8 0))] H7) fun v14 H13 =>
      ME (apA 5 1 v8 v14 H13) fun v16 H15 =>
      EvP Pg X (sub B_parse_Key [1, 1, 1]) (st_parse_Key x0 x1 x2 x3 (Value.string (ByteArray.mk #[])) v16 x11 x13 x37 x38 x39 x47 x48 x49 [(29, v16), (28, v14), (27, v8)] H15) K)) :
    EvP Pg X (sub B_parse_Key []) (st_parse_Key x0 x1 x2 x3 x8 x9 x11 x13 x37 x38 x39 x47 x48 x49 rg H) K := Wp.tells (Eq.mp (by kernel_rfl) h)
abbrev R_parse_Key_111110100 (x0 x1 x2 x3 x8 x13 x37 x38 x47 x48 x49 : Value) (I : Nat → Value → Value → Value → AHeap → Prop) (m : Nat) (s : St) : Prop := ∃ (x9 x11 x39 : Value) (rg : List (Nat × Value)) (H : AHeap), s = st_parse_Key x0 x1 x2 x3 x8 x9 x11 x13 x37 x38 x39 x47 x48 x49 rg H ∧ I m x9 x11 x39 H
theorem l_parse_Key_111110100 {x0 x1 x2 x3 x8 x13 x37 x38 x47 x48 x49 : Value} {K : Out → Prop} {I : Nat → Value → Value → Value → AHeap → Prop} (h : ∀ n (x9 x11 x39 : Value) (rg : List (Nat × Value)) (H : AHeap), I n x9 x11 x39 H → EvP Pg X (sub B_parse_Key [1, 1, 1, 1, 1, 0, 1, 0, 0]) (st_parse_Key x0 x1 x2 x3 x8 x9 x11 x13 x37 x38 x39 x47 x48 x49 rg H) (rdW (R_parse_Key_111110100 x0 x1 x2 x3 x8 x13 x37 x38 x47 x48 x49 I) n K)) (n : Nat) {x9 x11 x39 : Value} {rg : List (Nat × Value)} {H : AHeap} (h0 : I n x9 x11 x39 H) : EvP Pg X (.loop (sub B_parse_Key [1, 1, 1, 1, 1, 0, 1, 0, 0])) (st_parse_Key x0 x1 x2 x3 x8 x9 x11 x13 x37 x38 x39 x47 x48 x49 rg H) K :=
  EvP.loopR (R := R_parse_Key_111110100 x0 x1 x2 x3 x8 x13 x37 x38 x47 x48 x49 I) (fun n s hs => by obtain ⟨x9, x11, x39, rg, H, rfl, hI⟩ := hs; exact h _ _ _ _ _ _ hI) n _ ⟨_, _, _, _, _, rfl, h0⟩
theorem c_parse_Key_111 {x0 x1 x2 x3 x8 x9 x11 x13 x37 x38 x39 x47 x48 x49 : Value} {rg : List (Nat × Value)} {H : AHeap} {K : Out → Prop} (h :
    CallP Pg X N_parse_lay [x9, x0] H fun v2 H1 =>
    PU (lenA x1) fun v3 =>
    CallP Pg X N_parse_lay [v2, v3] H1 fun v5 H4 =>
    PU (lenA x1) fun v6 =>
    EvP Pg X (.loop (sub B_parse_Key [1, 1, 1, 1, 1, 0, 1, 0, 0])) (st_parse_Key x0 x1 x2 x3 x8 v5 x11 x13 x1 v6 (Value.int .i64 0) x47 x48 x49 [] H4) (bkW 0 (sqE Pg X (sub B_parse_Key [1, 1, 1, 1, 1, 1]) K))) :
    EvP Pg X (sub B_parse_Key [1, 1, 1]) (st_parse_Key x0 x1 x2 x3 x8 x9 x11 x13 x37 x38 x39 x47 x48 x49 rg H) K := Wp.tells (Eq.mp (by kernel_rfl) h)
abbrev R_parse_Key_1111110100 (x0 x1 x2 x3 x8 x11 x37 x38 x39 x47 x48 : Value) (I : Nat → Value → Value → Value → AHeap → Prop) (m : Nat) (s : St) : Prop := ∃ (x9 x13 x49 : Value) (rg : List (Nat × Value)) (H : AHeap), s = st_parse_Key x0 x1 x2 x3 x8 x9 x11 x13 x37 x38 x39 x47 x48 x49 rg H ∧ I m x9 x13 x49 H
theorem l_parse_Key_1111110100 {x0 x1 x2 x3 x8 x11 x37 x38 x39 x47 x48 : Value} {K : Out → Prop} {I : Nat → Value → Value → Value → AHeap → Prop} (h : ∀ n (x9 x13 x49 : Value) (rg : List (Nat × Value)) (H : AHeap), I n x9 x13 x49 H → EvP Pg X (sub B_parse_Key [1, 1, 1, 1, 1, 1, 0, 1, 0, 0]) (st_parse_Key x0 x1 x2 x3 x8 x9 x11 x13 x37 x38 x39 x47 x48 x49 rg H) (rdW (R_parse_Key_1111110100 x0 x1 x2 x3 x8 x11 x37 x38 x39 x47 x48 I) n K)) (n : Nat) {x9 x13 x49 : Value} {rg : List (Nat × Value)} {H : AHeap} (h0 : I n x9 x13 x49 H) : EvP Pg X (.loop (sub B_parse_Key [1, 1, 1, 1, 1, 1, 0, 1, 0, 0])) (st_parse_Key x0 x1 x2 x3 x8 x9 x11 x13 x37 x38 x39 x47 x48 x49 rg H) K :=
  EvP.loopR (R := R_parse_Key_1111110100 x0 x1 x2 x3 x8 x11 x37 x38 x39 x47 x48 I) (fun n s hs => by obtain ⟨x9, x13, x49, rg, H, rfl, hI⟩ := hs; exact h _ _ _ _ _ _ hI) n _ ⟨_, _, _, _, _, rfl, h0⟩
theorem c_parse_Key_111111 {x0 x1 x2 x3 x8 x9 x11 x13 x37 x38 x39 x47 x48 x49 : Value} {rg : List (Nat × Value)} {H : AHeap} {K : Out → Prop} (h :
    PU (lenA x2) fun v1 =>
    EvP Pg X (.loop (sub B_parse_Key [1, 1, 1, 1, 1, 1, 0, 1, 0, 0])) (st_parse_Key x0 x1 x2 x3 x8 x9 x11 x13 x37 x38 x39 x2 v1 (Value.int .i64 0) [] H) (bkW 2 (sqE Pg X (sub B_parse_Key [1, 1, 1, 1, 1, 1, 1]) K))) :
    EvP Pg X (sub B_parse_Key [1, 1, 1, 1, 1, 1]) (st_parse_Key x0 x1 x2 x3 x8 x9 x11 x13 x37 x38 x39 x47 x48 x49 rg H) K := Wp.tells (Eq.mp (by kernel_rfl) h)
theorem c_parse_Key_111110100 {x0 x1 x2 x3 x8 x9 x11 x13 x37 x38 x39 x47 x48 x49 : Value} {rg : List (Nat × Value)} {H : AHeap} {K : Out → Prop} (h :
    PU (abin Pg .lss 3 (.tmp 39) (.tmp 38) x39 x38) fun v1 =>
    cdW (vBool v1)
      (PU (idA 1 x37 x39) fun v2 =>
      ME (ldW none v2 H) fun v4 H3 =>
      CallP Pg X N_parse_lay [x9, v4] H3 fun v6 H5 =>
      PU (abin Pg .add 3 (.tmp 39) (.const (Value.int .i64 1)) x39 (Value.int .i64 1)) fun v7 =>
      K (.norm (st_parse_Key x0 x1 x2 x3 x8 v6 v4 x13 x37 x38 v7 x47 x48 x49 [(46, v7)] H5)))
      (K (.exit 0 (st_parse_Key x0 x1 x2 x3 x8 x9 x11 x13 x37 x38 x39 x47 x48 x49 [(40, v1)] H)))) :
    EvP Pg X (sub B_parse_Key [1, 1, 1, 1, 1, 0, 1, 0, 0]) (st_parse_Key x0 x1 x2 x3 x8 x9 x11 x13 x37 x38 x39 x47 x48 x49 rg H) K := Wp.tells (Eq.mp (by kernel_rfl) h)
theorem c_parse_Key_1111111 {x0 x1 x2 x3 x8 x9 x11 x13 x37 x38 x39 x47 x48 x49 : Value} {rg : List (Nat × Value)} {H : AHeap} {K : Out → Prop} (h :
    CV (aconv Pg 28 9 x9) (aconv1 Pg 28 9 x9 H) (fun v1 =>
      K (.ret (st_parse_Key x0 x1 x2 x3 v1 x9 x11 x13 x37 x38 x39 x47 x48 x49 [(58, v1), (57, x9)] H))) (fun v2 H3 =>
      K (.ret (st_parse_Key x0 x1 x2 x3 v2 x9 x11 x13 x37 x38 x39 x47 x48 x49 [(58, v2), (57, x9)] H3)))) :
    EvP Pg X (sub B_parse_Key [1, 1, 1, 1, 1, 1, 1]) (st_parse_Key x0 x1 x2 x3 x8 x9 x11 x13 x37 x38 x39 x47 x48 x49 rg H) K := Wp.tells (Eq.mp (by kernel_rfl) h)
theorem c_parse_Key_1111110100 {x0 x1 x2 x3 x8 x9 x11 x13 x37 x38 x39 x47 x48 x49 : Value} {rg : List (Nat × Value)} {H : AHeap} {K : Out → Prop} (h :
    PU (abin Pg .lss 3 (.tmp 49) (.tmp 48) x49 x48) fun v1 =>
    cdW (vBool v1)
      (PU (idA 1 x47 x49) fun v2 =>
      ME (ldW none v2 H) fun v4 H3 =>
      CallP Pg X N_parse_lay [x9, v4] H3 fun v6 H5 =>
      PU (abin Pg .add 3 (.tmp 49) (.const (Value.int .i64 1)) x49 (Value.int .i64 1)) fun v7 =>
      K (.norm (st_parse_Key x0 x1 x2 x3 x8 v6 x11 v4 x37 x38 x39 x47 x48 v7 [(56, v7)] H5)))
      (K (.exit 2 (st_parse_Key x0 x1 x2 x3 x8 x9 x11 x13 x37 x38 x39 x47 x48 x49 [(50, v1)] H)))) :
    EvP Pg X (sub B_parse_Key [1, 1, 1, 1, 1, 1, 0, 1, 0, 0]) (st_parse_Key x0 x1 x2 x3 x8 x9 x11 x13 x37 x38 x39 x47 x48 x49 rg H) K := Wp.tells (Eq.mp (by kernel_rfl) h)

/-! ### souffleur/parse.lay -/
noncomputable def B_parse_lay : Code := bodyOf Tryz.f6
noncomputable def st_parse_lay (x0 x1 x4 x5 x13 : Value) (rg : List (Nat × Value)) (H : AHeap) : St := ⟨8243, 32, rg, (.node (.node (.node (.node (.node (.node .nil top .nil) top .nil) top (.node .nil top .nil)) top (.node (.node .nil top .nil) top (.node .nil top .nil))) x1 (.node (.node (.node .nil top .nil) top (.node .nil top .nil)) x5 (.node (.node .nil top .nil) x13 (.node .nil top .nil)))) x0 (.node (.node (.node (.node .nil top .nil) top (.node .nil top .nil)) x4 (.node (.node .nil top .nil) top (.node .nil top .nil))) top (.node (.node (.node .nil top .nil) top (.node .nil top .nil)) top (.node (.node .nil top .nil) top (.node .nil top .nil))))), [], H⟩
theorem e_parse_lay {a0 a1 : Value} {H : AHeap} {K : Value → AHeap → Prop} (h : EvP Pg X (sub B_parse_lay []) (st_parse_lay a0 a1 top top top [] H) (endK Pg [.tmp 4] K)) : CallP Pg X N_parse_lay [a0, a1] H K :=
  CallP.body (nl := 8243) (fn := Tryz.f6) (c := B_parse_lay) (by kernel_rfl) (by kernel_rfl) (by kernel_rfl) (by kernel_rfl) (by kernel_rfl) (Eq.mp (by kernel_rfl) h)
theorem r_ret_parse_lay {x0 x1 x4 x5 x13 : Value} {rg : List (Nat × Value)} {H : AHeap} {K : Value → AHeap → Prop} (h : K x4 H) : endK Pg [.tmp 4] K (.ret (st_parse_lay x0 x1 x4 x5 x13 rg H)) := endK_ret rfl (Eq.mp (by kernel_rfl) h)
theorem r_norm_parse_lay {x0 x1 x4 x5 x13 : Value} {rg : List (Nat × Value)} {H : AHeap} {K : Value → AHeap → Prop} (h : K x4 H) : endK Pg [.tmp 4] K (.norm (st_parse_lay x0 x1 x4 x5 x13 rg H)) := endK_norm rfl (Eq.mp (by kernel_rfl) h)
abbrev R_parse_lay_110100 (x1 : Value) (I : Nat → Value → Value → Value → Value → AHeap → Prop) (m : Nat) (s : St) : Prop := ∃ (x0 x4 x5 x13 : Value) (rg : List (Nat × Value)) (H : AHeap), s = st_parse_lay x0 x1 x4 x5 x13 rg H ∧ I m x0 x4 x5 x13 H
theorem l_parse_lay_110100 {x1 : Value} {K : Out → Prop} {I : Nat → Value → Value → Value → Value → AHeap → Prop} (h : ∀ n (x0 x4 x5 x13 : Value) (rg : List (Nat × Value)) (H : AHeap), I n x0 x4 x5 x13 H → EvP Pg X (sub B_parse_lay [1, 1, 0, 1, 0, 0]) (st_parse_lay x0 x1 x4 x5 x13 rg H) (rdW (R_parse_lay_110100 x1 I) n K)) (n : Nat) {x0 x4 x5 x13 : Value} {rg : List (Nat × Value)} {H : AHeap} (h0 : I n x0 x4 x5 x13 H) : EvP Pg X (.loop (sub B_parse_lay [1, 1, 0, 1, 0, 0])) (st_parse_lay x0 x1 x4 x5 x13 rg H) K :=
  EvP.loopR (R := R_parse_lay_110100 x1 I) (fun n s hs => by obtain ⟨x0, x4, x5, x13, rg, H, rfl, hI⟩ := hs; exact h _ _ _ _ _ _ _ hI) n _ ⟨_, _, _, _, _, _, rfl, h0⟩
theorem c_parse_lay {x0 x1 x4 x5 x13 : Value} {rg : List (Nat × Value)} {H : AHeap} {K : Out → Prop} (h :
    PU (cvI .u64 x1) fun v1 =>
    PU (abin Pg .shl 62 (.tmp 7) (.const (Value.int .u64 1)) v1 (Value.int .u64 1)) fun v2 =>
    PU (abin Pg .shr 3 (.tmp 9) (.const (Value.int .u64 63)) x1 (Value.int .u64 63)) fun v3 =>
    PU (cvI .u64 v3) fun v4 =>
    PU (abin Pg .xor 62 (.tmp 8) (.tmp 11) v2 v4) fun v5 =>
    EvP Pg X (.loop (sub B_parse_lay [1, 1, 0, 1, 0, 0])) (st_parse_lay x0 x1 (Value.slice none 0 0) v5 (Value.int .i64 0) [] H) (bkW 0 (sqE Pg X (sub B_parse_lay [1, 1, 1]) K))) :
    EvP Pg X (sub B_parse_lay []) (st_parse_lay x0 x1 x4 x5 x13 rg H) K := Wp.tells (Eq.mp (by kernel_rfl) h)
theorem c_parse_lay_111 {x0 x1 x4 x5 x13 : Value} {rg : List (Nat × Value)} {H : AHeap} {K : Out → Prop} (h :
    K (.ret (st_parse_lay x0 x1 x0 x5 x13 [(31, x0)] H))) :
    EvP Pg X (sub B_parse_lay [1, 1, 1]) (st_parse_lay x0 x1 x4 x5 x13 rg H) K := Wp.tells (Eq.mp (by kernel_rfl) h)
theorem c_parse_lay_110100 {x0 x1 x4 x5 x13 : Value} {rg : List (Nat × Value)} {H : AHeap} {K : Out → Prop} (h :
    PU (abin Pg .lss 3 (.tmp 13) (.const (Value.int .i64 10)) x13 (Value.int .i64 10)) fun v1 =>
    cdW (vBool v1)
      (PU (abin Pg .lss 62 (.tmp 15) (.const (Value.int .u64 128)) x5 (Value.int .u64 128)) fun v2 =>
      cdW (vBool v2)
        (PU (cvI .u8 x5) fun v3 =>
        ME (bS 5 [(Value.int .u8 0)] 1 1 [(0, v3)] H) fun v5 H4 =>
        ME (apA 5 1 x0 v5 H4) fun v7 H6 =>
        K (.ret (st_parse_lay x0 x1 v7 x5 x13 [(21, v7), (20, v5), (19, v3), (18, x5), (17, x0)] H6)))
        (PU (cvI .u8 x5) fun v8 =>
        PU (abin Pg .or 5 (.tmp 24) (.const (Value.int .u8 128)) v8 (Value.int .u8 128)) fun v9 =>
        ME (bS 5 [(Value.int .u8 0)] 1 1 [(0, v9)] H) fun v11 H10 =>
        ME (apA 5 1 x0 v11 H10) fun v13 H12 =>
        PU (abin Pg .shr 62 (.tmp 28) (.const (Value.int .u64 7)) x5 (Value.int .u64 7)) fun v14 =>
        PU (abin Pg .add 3 (.tmp 13) (.const (Value.int .i64 1)) x13 (Value.int .i64 1)) fun v15 =>
        K (.norm (st_parse_lay v13 x1 x4 v14 v15 [(30, v15)] H12))))
      (K (.exit 0 (st_parse_lay x0 x1 x4 x5 x13 [(14, v1)] H)))) :
    EvP Pg X (sub B_parse_lay [1, 1, 0, 1, 0, 0]) (st_parse_lay x0 x1 x4 x5 x13 rg H) K := Wp.tells (Eq.mp (by kernel_rfl) h)

end Go.Proofs.Lk
