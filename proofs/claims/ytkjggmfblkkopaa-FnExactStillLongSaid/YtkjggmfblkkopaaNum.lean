/-
  Contracts of the small functions on numbers: what is finite, what is the same. No conditions.
-/
import Derived.Test.YtkjggmfblkkopaaFt
import Derived.Test.YtkjggmfblkkopaaRows
namespace Go.Proofs.Ytkjggmfblkkopaa
set_option linter.unusedVariables false
set_option linter.unusedSimpArgs false
open Go.RowKit

theorem mix : Try.prog.follows .mixedOrders = true := by kernel_rfl

noncomputable def k_f64bits : Ctr Try.prog := extCtr (f := 151) Try.func151 (by kernel_rfl) (by kernel_rfl) (by kernel_rfl) (e := Extern.MathFloatBits.float64bits) (by kernel_rfl) (bitsRun .f64) float64bits_ok
noncomputable def k_f64from : Ctr Try.prog := extCtr (f := 146) Try.func146 (by kernel_rfl) (by kernel_rfl) (by kernel_rfl) (e := Extern.MathFloatBits.float64frombits) (by kernel_rfl) (fromRun .f64) float64frombits_ok
noncomputable def k_isnan : Ctr Try.prog := mkC Try.prog mix [] 147 Try.f147 (bodyOf Try.f147) Try.func147 (by kernel_rfl) (by kernel_rfl) []
noncomputable def k_abs : Ctr Try.prog := mkC Try.prog mix [k_f64bits, k_f64from] 140 Try.f140 (bodyOf Try.f140) Try.func140 (by kernel_rfl) (by kernel_rfl) []
noncomputable def k_isinf : Ctr Try.prog := mkC Try.prog mix [k_abs] 148 Try.f148 (bodyOf Try.f148) Try.func148 (by kernel_rfl) (by kernel_rfl) []
noncomputable def k_finite0 : Ctr Try.prog := mkC Try.prog mix [k_isnan, k_isinf] 128 Try.f128 (bodyOf Try.f128) Try.func128 (by kernel_rfl) (by kernel_rfl) []
theorem finite_ev (x : Nat) (mem : Mem) : k_finite0.run [.one (.fl .f64 x)] mem = .ite (!!feq .f64 x x) (.leaf (.one (.bo (!fgt .f64 (fabs .f64 x) 9218868437227405311)), [])) (.leaf (.one (.tt false), [])) := by kernel_rfl
noncomputable def k_finite : Ctr Try.prog := k_finite0.to (runF .f64 fun x => .leaf (.one (.bo (fin .f64 x)))) (weak_F (C := k_finite0) fun x mem _ => ⟨fun Φ hΦ h => by
  rw [finite_ev]
  have hm := abs_gt_max x
  refine ⟨fun hc => hΦ _ _ (le2_bo ?_) h, fun hc => hΦ _ _ (le2_bt ?_) h⟩
  · rw [feq_self] at hc
    have hn : isNan .f64 x = false := by simpa using hc
    rw [hn, Bool.false_or] at hm; rw [hm]; simp
  · rw [feq_self] at hc
    have hn : isNan .f64 x = true := by simpa using hc
    rw [hn, Bool.true_or] at hm
    simpa using hm⟩)
noncomputable def k_IsFinite0 : Ctr Try.prog := mkC Try.prog mix [k_finite] 76 Try.f76 (bodyOf Try.f76) Try.func76 (by kernel_rfl) (by kernel_rfl) []
theorem IsFinite_ev (x : Nat) (mem : Mem) : k_IsFinite0.run [.one (.fl .f32 x)] mem = .leaf (.one (.bo (fin .f64 (fcvt .f32 .f64 x))), []) := by kernel_rfl
noncomputable def k_IsFinite : Ctr Try.prog := k_IsFinite0.to (runF .f32 fun x => .leaf (.one (.bo (fin .f32 x)))) (weak_F (C := k_IsFinite0) fun x mem _ => by
  rw [IsFinite_ev, fin_wide]; exact Weak.refl _)
noncomputable def k_l01Finite0 : Ctr Try.prog := mkC Try.prog mix [] 73 Try.f73 (bodyOf Try.f73) Try.func73 (by kernel_rfl) (by kernel_rfl) []
theorem l01Finite_ev (x : Nat) (mem : Mem) : k_l01Finite0.run [.one (.fl .f32 x)] mem = .leaf (.one (.bo (feq .f32 (fsub .f32 x x) 0)), []) := by kernel_rfl
noncomputable def k_l01Finite : Ctr Try.prog := k_l01Finite0.to (runF .f32 fun x => .leaf (.one (.bo (fin .f32 x)))) (weak_F (C := k_l01Finite0) fun x mem _ => by
  rw [l01Finite_ev, fin_sub]; exact Weak.refl _)

end Go.Proofs.Ytkjggmfblkkopaa
