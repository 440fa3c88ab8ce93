/-
  The root of a 32-bit number: it narrows. No conditions.
-/
import Derived.Test.YtdmcpgbnomhahaaFb
import Derived.Test.YtdmcpgbnomhahaaNum
import Derived.Test.YtdmcpgbnomhahaaLp
namespace Go.Proofs.Ytdmcpgbnomhahaa
set_option linter.unusedVariables false
set_option linter.unusedSimpArgs false
open Go.RowKit

theorem fsqrt_inf {x : Nat} (h : rung FloatKind.f64.format x = FloatKind.f64.format.infRung) : fin .f64 (fsqrt x) = false := by
  unfold fsqrt Ieee.Format.sqrt
  rw [read_inf .f64 h]
  cases sgn FloatKind.f64.format x <;> decide

theorem fsqrt_nan' {x : Nat} (h : isNan .f64 x = true) : fin .f64 (fsqrt x) = false := by
  unfold fsqrt Ieee.Format.sqrt
  rw [root_nan _ (show (FloatKind.f64.format.read x).isNaN = true from h)]
  decide

theorem fsqrt_zero {x : Nat} (h : rung FloatKind.f64.format x = 0) : rung FloatKind.f64.format (fsqrt x) = 0 := by
  obtain ⟨m, e, h1, h2, h3⟩ := read_fin FloatKind.f64.format (x := x) (by rw [h]; decide)
  rw [h, V_zero] at h3
  have hm : m = 0 := by
    rcases Nat.eq_zero_or_pos m with h | h
    · exact h
    · have := Nat.mul_pos h (tp (e - FloatKind.f64.format.leastPlace).toNat); omega
  subst hm
  unfold fsqrt Ieee.Format.sqrt
  rw [h1]
  have : Ieee.Datum.root (FloatKind.f64.format.fractionBits + 2) (.number (sgn FloatKind.f64.format x) 0 e) = some (.number (sgn FloatKind.f64.format x) 0 e) := by
    unfold Ieee.Datum.root; simp
  rw [this]
  show rung _ (FloatKind.f64.format.nearest _ 0 e) = 0
  rw [nearest_eq, rung_word .f64 _ (rungOf_le _ _ _)]
  unfold rungOf; simp

/-- The root of a widened number is small. -/
theorem sqrt_small (x : Nat) (hf : fin .f64 (fsqrt (fcvt .f32 .f64 x)) = true) : rung FloatKind.f64.format (fsqrt (fcvt .f32 .f64 x)) ≤ 4899916394579099648 := by
  generalize hy : fcvt .f32 .f64 x = y at *
  have hyf : fin .f64 y = fin .f32 x := by rw [← hy]; exact fin_wide x
  cases hn : isNan .f64 y with
  | true => rw [fsqrt_nan' hn] at hf; cases hf
  | false =>
    rcases Nat.lt_or_eq_of_le (show rung FloatKind.f64.format y ≤ FloatKind.f64.format.infRung by rw [isNan_iff] at hn; simpa using hn) with h | h
    · have hfy : fin .f64 y = true := (fin_iff .f64 y).2 h
      cases hs : sgn FloatKind.f64.format y with
      | true =>
        by_cases h0 : rung FloatKind.f64.format y = 0
        · rw [fsqrt_zero h0]; omega
        · rw [fsqrt_nan hn hs h0] at hf; cases hf
      | false =>
        refine fsqrt_le hfy hs (by decide) ?_
        have hx : fin .f32 x = true := by rw [← hyf]; exact hfy
        have h1 : rung FloatKind.f64.format y ≤ rungOf FloatKind.f64.format (V FloatKind.f32.format 2139095039) FloatKind.f32.format.leastPlace := by
          rw [← hy]
          refine fcvt_le (by decide) ?_ (by decide)
          have := fin_lt hx
          have e : FloatKind.f32.format.infRung = 2139095040 := by decide
          omega
        have h2 := V_le FloatKind.f64.format h1
        exact Nat.le_trans (Nat.mul_le_mul_right _ h2) (by decide +kernel)
    · rw [fsqrt_inf h] at hf; cases hf

theorem sqrt_fits (x : Nat) : cvtFits .f64 .f32 (fsqrt (fcvt .f32 .f64 x)) = true :=
  fits_le (sqrt_small x) (by decide) (by decide +kernel)

/-- The root. -/
def rootV (x : Nat) : Nat := fcvt .f64 .f32 (fsqrt (fcvt .f32 .f64 x))

noncomputable def k_sqrt0 : Ctr Try.prog := extCtr (f := 106) Try.func106 (by kernel_rfl) (by kernel_rfl) (by kernel_rfl) (e := Extern.MathSqrt.sqrt) (by kernel_rfl) sqrtRun sqrt_ok
noncomputable def k_Sqrt : Ctr Try.prog := mkC Try.prog mix [k_sqrt0] 86 Try.f86 (bodyOf Try.f86) Try.func86 (by kernel_rfl) (by kernel_rfl) []
noncomputable def k_l01Narrow : Ctr Try.prog := mkC Try.prog mix [] 103 Try.f103 (bodyOf Try.f103) Try.func103 (by kernel_rfl) (by kernel_rfl) []
noncomputable def k_l01Sqrt0 : Ctr Try.prog := mkC Try.prog mix [k_Sqrt, k_l01Narrow] 83 Try.f83 (bodyOf Try.f83) Try.func83 (by kernel_rfl) (by kernel_rfl) []
theorem l01Sqrt_ev (x : Nat) (mem : Mem) : k_l01Sqrt0.run [.one (.fl .f32 x)] mem = .need (cvtFits .f64 .f32 (fsqrt (fcvt .f32 .f64 x))) (.leaf (.one (.fl .f32 (fcvt .f64 .f32 (fsqrt (fcvt .f32 .f64 x)))), [])) := by kernel_rfl
noncomputable def k_l01Sqrt : Ctr Try.prog := k_l01Sqrt0.to (runF .f32 fun x => .leaf (.one (.fl .f32 (rootV x)))) (weak_F (C := k_l01Sqrt0) fun x mem _ => ⟨fun Φ _ h => by
  rw [l01Sqrt_ev]; exact T.h_need (sqrt_fits x) h⟩)
noncomputable def k_RootNumber0 : Ctr Try.prog := mkC Try.prog mix [k_Sqrt] 53 Try.f53 (bodyOf Try.f53) Try.func53 (by kernel_rfl) (by kernel_rfl) []
theorem RootNumber_ev (x : Nat) (mem : Mem) : k_RootNumber0.run [.one (.fl .f32 x)] mem = .need (cvtFits .f64 .f32 (fsqrt (fcvt .f32 .f64 x))) (.leaf (.one (.fl .f32 (fcvt .f64 .f32 (fsqrt (fcvt .f32 .f64 x)))), [])) := by kernel_rfl
noncomputable def k_RootNumber : Ctr Try.prog := k_RootNumber0.to (runF .f32 fun x => .leaf (.one (.fl .f32 (rootV x)))) (weak_F (C := k_RootNumber0) fun x mem _ => ⟨fun Φ _ h => by
  rw [RootNumber_ev]; exact T.h_need (sqrt_fits x) h⟩)

end Go.Proofs.Ytdmcpgbnomhahaa
