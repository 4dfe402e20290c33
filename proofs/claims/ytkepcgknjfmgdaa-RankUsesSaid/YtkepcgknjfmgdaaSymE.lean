/-
  symMerge, whole. Condition: a < m < b, within the row.
-/
import Derived.Test.YtkepcgknjfmgdaaSymC
import Derived.Test.YtkepcgknjfmgdaaSymD
set_option linter.unusedVariables false
set_option linter.unusedSimpArgs false
namespace Go.Proofs.Rk
open Go.Shelf Go.RowKit Go.Lib Go.Sort Go.Rk
variable {P : Program} {α : Type} [Inhabited α]

theorem symMerge_calls {k : Nat} (L : Lay P k) (enc : α → List Value) (cf : α → α → Int) (g : Nat) (cb : Array Value) (blk off cap : Nat) (d0 : Array α) (w0 : World)
    (eg : ∀ args w, (callFunc g args).run P w = .ok (.enter g args) w) (hcmp : CmpLays P g cb enc k cf blk off d0.size w0) (R : RowK enc k w0 blk off d0) (hsz : d0.size < 4611686018427387904) :
    ∀ (f a m b : Nat) (d : Array α) (w : World), a < m → m < b → b ≤ d.size → b - a ≤ f → d0.size = d.size → SWK enc k w0 blk off d w →
    Calls P 40 #[.slice (some ⟨blk, off, none⟩) d.size cap, .int .i64 a, .int .i64 m, .int .i64 b, .func (.func g) #[] cb] w fun e w' => e = .returned (.tuple #[]) ∧ SWK enc k w0 blk off (symMerge (ltOf cf) f a m b d) w' := by
  intro f
  induction f with
  | zero => intro a m b d w h1 h2 _ h4; omega
  | succ f ih =>
    intro a m b d w h1 h2 h3 h4 hs S
    by_cases c1 : m = a + 1
    · have := symMerge_first L enc cf g cb blk off cap a m b d0 d w0 w eg hcmp R hs S c1 h2 h3 (by omega)
      rw [symMerge, if_pos (by omega)]
      exact this
    · by_cases c2 : b = m + 1
      · have := symMerge_last L enc cf g cb blk off cap a m b d0 d w0 w eg hcmp R hs S (by omega) c2 h3 (by omega)
        rw [symMerge, if_neg (by omega), if_pos (by omega)]
        exact this
      · have IH : ∀ (a' m' b' : Nat) (d' : Array α) (w' : World), a' < m' → m' < b' → b' ≤ d'.size → b' - a' + 1 ≤ b - a → d'.size = d.size → SWK enc k w0 blk off d' w' →
            Calls P 40 #[.slice (some ⟨blk, off, none⟩) d.size cap, .int .i64 a', .int .i64 m', .int .i64 b', .func (.func g) #[] cb] w' fun e w'' => e = .returned (.tuple #[]) ∧ SWK enc k w0 blk off (symMerge (ltOf cf) f a' m' b' d') w'' := by
          intro a' m' b' d' w' g1 g2 g3 g4 g5 g6
          have := ih a' m' b' d' w' g1 g2 g3 (by omega) (by omega) g6
          rwa [g5] at this
        by_cases c3 : (a + b) / 2 < m
        · exact symMerge_gen1 L enc cf g cb blk off cap a m b _ d0 d w0 w eg hcmp R hs S (by omega) (by omega) rfl c3 h3 (by omega) f IH
        · exact symMerge_gen2 L enc cf g cb blk off cap a m b _ d0 d w0 w eg hcmp R hs S (by omega) (by omega) rfl (by omega) h3 (by omega) f IH
end Go.Proofs.Rk
