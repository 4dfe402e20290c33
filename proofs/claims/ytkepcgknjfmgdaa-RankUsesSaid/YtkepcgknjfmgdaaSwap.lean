/-
  swapRange over a row of six-celled elements: what it leaves. No condition but that both ranges lie in the row.
-/
import Derived.Test.YtkepcgknjfmgdaaShelf
import Derived.Test.YtkepcgknjfmgdaaPlain
import Derived.Sort.WalkB2
import Derived.Sort.WalkB12
import Derived.Deep.LoopGhost
set_option linter.unusedVariables false
set_option linter.unusedSimpArgs false
namespace Go.Proofs.Rk
open Go.Shelf Go.RowKit Go.Lib Go.Sort Go.Rk
variable {P : Program} {α : Type} [Inhabited α]

/-- What the walks of the stable sort's parts want of the program. -/
structure Lay (P : Program) (k : Nat) : Prop where
  mixed : P.follows .mixedOrders = true
  f33 : P.funcs[33]? = some Try.f33
  f39 : P.funcs[39]? = some Try.f39
  f40 : P.funcs[40]? = some Try.f40
  f42 : P.funcs[42]? = some Try.f42
  f44 : P.funcs[44]? = some Try.f44
  aE : ∀ w, (isAgg 26).run P w = .ok true w
  zE : ∀ w, (Go.sizeOf 26).run P w = .ok k w
  t0 : P.underlying 0 = some (TypeDesc.tuple #[])
  a0 : ∀ w, (isAgg 0).run P w = .ok false w
  z0 : ∀ w, (Go.sizeOf 0).run P w = .ok 1 w
  v0 : ∀ w, (zeroValue 0).run P w = .ok (Value.tuple #[]) w
  t3 : P.underlying 3 = some (TypeDesc.int IntKind.i64)
  a3 : ∀ w, (isAgg 3).run P w = .ok false w
  z3 : ∀ w, (Go.sizeOf 3).run P w = .ok 1 w
  v3 : ∀ w, (zeroValue 3).run P w = .ok (Value.int .i64 0) w
  t4 : P.underlying 4 = some (TypeDesc.bool)
  a4 : ∀ w, (isAgg 4).run P w = .ok false w
  z4 : ∀ w, (Go.sizeOf 4).run P w = .ok 1 w
  v4 : ∀ w, (zeroValue 4).run P w = .ok (Value.bool false) w
  t22 : P.underlying 22 = some (TypeDesc.slice 26)
  a22 : ∀ w, (isAgg 22).run P w = .ok false w
  z22 : ∀ w, (Go.sizeOf 22).run P w = .ok 1 w
  v22 : ∀ w, (zeroValue 22).run P w = .ok (Value.slice none 0 0) w
  t53 : P.underlying 53 = some (TypeDesc.func #[26, 26] #[3] false)
  a53 : ∀ w, (isAgg 53).run P w = .ok false w
  z53 : ∀ w, (Go.sizeOf 53).run P w = .ok 1 w
  v53 : ∀ w, (zeroValue 53).run P w = .ok (Value.nilFunc) w
  t85 : P.underlying 85 = some (TypeDesc.int IntKind.u64)
  a85 : ∀ w, (isAgg 85).run P w = .ok false w
  z85 : ∀ w, (Go.sizeOf 85).run P w = .ok 1 w
  v85 : ∀ w, (zeroValue 85).run P w = .ok (Value.int .u64 0) w
theorem lay : Lay Try.prog 6 := {
  mixed := Try.lays39.mixed
  f33 := Try.func33
  f39 := Try.func39
  f40 := Try.func40
  f42 := Try.func42
  f44 := Try.func44
  aE := Try.isAgg26
  zE := Try.sizeOf26
  t0 := Try.underlying0
  a0 := Try.isAgg0
  z0 := Try.sizeOf0
  v0 := Try.zeroValue0
  t3 := Try.underlying3
  a3 := Try.isAgg3
  z3 := Try.sizeOf3
  v3 := Try.zeroValue3
  t4 := Try.underlying4
  a4 := Try.isAgg4
  z4 := Try.sizeOf4
  v4 := Try.zeroValue4
  t22 := Try.underlying22
  a22 := Try.isAgg22
  z22 := Try.sizeOf22
  v22 := Try.zeroValue22
  t53 := Try.underlying53
  a53 := Try.isAgg53
  z53 := Try.sizeOf53
  v53 := Try.zeroValue53
  t85 := Try.underlying85
  a85 := Try.isAgg85
  z85 := Try.sizeOf85
  v85 := Try.zeroValue85 }

set_option maxHeartbeats 4000000 in
set_option maxRecDepth 1000000 in
theorem swapRange_calls {k : Nat} (L : Lay P k) (enc : α → List Value) (g : Nat) (cb : Array Value) (blk off cap a b n : Nat) (d0 d : Array α) (w0 w : World)
    (R : RowK enc k w0 blk off d0) (hs : d0.size = d.size) (S : SWK enc k w0 blk off d w) (ha : a + n ≤ d.size) (hb : b + n ≤ d.size) (hsz : d.size < 4611686018427387904) :
    Calls P 44 #[.slice (some ⟨blk, off, none⟩) d.size cap, .int .i64 a, .int .i64 b, .int .i64 n, .func (.func g) #[] cb] w fun e w' => e = .returned (.tuple #[]) ∧ SWK enc k w0 blk off (swapRange a b n d) w' := by
  have mixed := L.mixed; have aE := L.aE; have zE := L.zE; have t0 := L.t0; have a0 := L.a0; have z0 := L.z0; have v0 := L.v0; have t3 := L.t3; have a3 := L.a3; have z3 := L.z3; have v3 := L.v3; have t4 := L.t4; have a4 := L.a4; have z4 := L.z4; have v4 := L.v4; have t22 := L.t22; have a22 := L.a22; have z22 := L.z22; have v22 := L.v22; have t53 := L.t53; have a53 := L.a53; have z53 := L.z53; have v53 := L.v53
  have S0 : Aside (SWK enc k w0 blk off d w) := S
  clear S
  go_enter L.f44, Try.ntmps44
  go_wp2
  go_loopg [10] n (fun kx s10 wr => ∃ (i : Nat) (dk : Array α), s10 = .int .i64 i ∧ i ≤ n ∧ n - i ≤ kx ∧ dk.size = d.size ∧ Aside (SWK enc k w0 blk off dk wr) ∧ Hid (swapFrom a b i (n - i) dk = swapRange a b n d))
  case atStart => exact ⟨0, d, rfl, Nat.zero_le _, Nat.le_refl _, rfl, S0, rfl⟩
  case round =>
    clear S0
    obtain ⟨i, dk, rfl, hin, hkx, hds, S1, heq⟩ := hrel
    by_cases hlt : i < n
    · have hltz : (i : Int) < (n : Int) := by omega
      go_wp2_with fail
      obtain ⟨x, hx⟩ : ∃ x : Nat, x = a + i := ⟨_, rfl⟩
      obtain ⟨y, hy⟩ : ∃ y : Nat, y = b + i := ⟨_, rfl⟩
      have eax : ((x : Int)).toNat = x := by omega
      have pax : (0 : Int) ≤ (x : Int) := by omega
      have bax : (x : Int) < (d.size : Int) := by omega
      have rax : IntKind.i64.wrap ((a : Int) + (i : Int)) = (x : Int) := by rw [IntKind.wrap_i64]; omega
      have eay : ((y : Int)).toNat = y := by omega
      have pay : (0 : Int) ≤ (y : Int) := by omega
      have bay : (y : Int) < (d.size : Int) := by omega
      have ray : IntKind.i64.wrap ((b : Int) + (i : Int)) = (y : Int) := by rw [IntKind.wrap_i64]; omega
      have S2 : Aside (SWK enc k w0 blk off (swp dk x y) ((wr.drew.setCells blk (off + x * k) (enc dk[y]!)).setCells blk (off + y * k) (enc dk[x]!))) := S1.out.swapped R x y (by omega) (by omega)
      have l44a := S1.out.ld1 R (by omega) P x (by omega)
      have l44b := S1.out.ld1 R (by omega) P y (by omega)
      have s44a := S1.out.st1 R (by omega) P x (by omega) dk[y]!
      have s44b := S1.out.st2 R (by omega) P x y (by omega) (by omega) dk[y]! dk[x]!
      have n44a : (enc dk[x]!).length = k := R.hk _
      have n44b : (enc dk[y]!).length = k := R.hk _
      generalize enc dk[x]! = cI44 at S2 l44a s44b n44a
      generalize enc dk[y]! = cJ44 at S2 l44b s44a s44b n44b
      clear S1
      have hnext : Hid (swapFrom a b (i + 1) (n - (i + 1)) (swp dk x y) = swapRange a b n d) := by
        show _ = _
        rw [← heq.out, hx, hy, show n - i = n - (i + 1) + 1 by omega, swapFrom]
      have hdx : Hid (x = a + i ∧ y = b + i) := ⟨hx, hy⟩
      clear hx hy heq
      go_wp2_with fail
      go_big_region_o
      clear l44a l44b s44a s44b
      generalize (wr.drew.setCells blk (off + x * k) cJ44).setCells blk (off + y * k) cI44 = w2 at S2 ⊢
      go_wp2
      go_roundg (n - (i + 1))
      case measure => omega
      case rel => exact ⟨i + 1, swp dk x y, by simp, by omega, Nat.le_refl _, by rw [size_swp]; exact hds, S2, hnext⟩
    · have hltz : ¬ (i : Int) < (n : Int) := by omega
      go_wp2
      go_end0
      refine ⟨rfl, ?_⟩
      have e : n - i = 0 := by omega
      have := heq.out
      rw [e] at this
      rw [← this]
      exact S1.out
end Go.Proofs.Rk
