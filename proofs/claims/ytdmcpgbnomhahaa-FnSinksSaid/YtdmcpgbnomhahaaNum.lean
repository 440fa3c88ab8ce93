/-
  Contracts of the small functions on numbers: what is finite, what is the same. No conditions.
-/
import Derived.Test.YtdmcpgbnomhahaaFt
import Derived.Test.YtdmcpgbnomhahaaRows
namespace Go.Proofs.Ytdmcpgbnomhahaa
set_option linter.unusedVariables false
set_option linter.unusedSimpArgs false
open Go.RowKit

theorem mix : Try.prog.follows .mixedOrders = true := by kernel_rfl

noncomputable def k_f64bits : Ctr Try.prog := extCtr (f := 109) Try.func109 (by kernel_rfl) (by kernel_rfl) (by kernel_rfl) (e := Extern.MathFloatBits.float64bits) (by kernel_rfl) (bitsRun .f64) float64bits_ok
noncomputable def k_f64from : Ctr Try.prog := extCtr (f := 108) Try.func108 (by kernel_rfl) (by kernel_rfl) (by kernel_rfl) (e := Extern.MathFloatBits.float64frombits) (by kernel_rfl) (fromRun .f64) float64frombits_ok
noncomputable def k_f32bits : Ctr Try.prog := extCtr (f := 101) Try.func101 (by kernel_rfl) (by kernel_rfl) (by kernel_rfl) (e := Extern.MathFloatBits.float32bits) (by kernel_rfl) (bitsRun .f32) float32bits_ok
noncomputable def k_isnan : Ctr Try.prog := mkC Try.prog mix [] 104 Try.f104 (bodyOf Try.f104) Try.func104 (by kernel_rfl) (by kernel_rfl) []
noncomputable def k_abs : Ctr Try.prog := mkC Try.prog mix [k_f64bits, k_f64from] 92 Try.f92 (bodyOf Try.f92) Try.func92 (by kernel_rfl) (by kernel_rfl) []
noncomputable def k_isinf : Ctr Try.prog := mkC Try.prog mix [k_abs] 105 Try.f105 (bodyOf Try.f105) Try.func105 (by kernel_rfl) (by kernel_rfl) []
noncomputable def k_finite0 : Ctr Try.prog := mkC Try.prog mix [k_isnan, k_isinf] 85 Try.f85 (bodyOf Try.f85) Try.func85 (by kernel_rfl) (by kernel_rfl) []
theorem finite_ev (x : Nat) (mem : Mem) : k_finite0.run [.one (.fl .f64 x)] mem = .ite (!!feq .f64 x x) (.leaf (.one (.bo (!fgt .f64 (fabs .f64 x) 9218868437227405311)), [])) (.leaf (.one (.tt false), [])) := by kernel_rfl
noncomputable def k_finite : Ctr Try.prog := k_finite0.to (runF .f64 fun x => .leaf (.one (.bo (fin .f64 x)))) (weak_F (C := k_finite0) fun x mem _ => ⟨fun Φ hΦ h => by
  rw [finite_ev]
  have hm := abs_gt_max x
  refine ⟨fun hc => hΦ _ _ (le2_bo ?_) h, fun hc => hΦ _ _ (le2_bt ?_) h⟩
  · rw [feq_self] at hc
    have hn : isNan .f64 x = false := by simpa using hc
    rw [hn, Bool.false_or] at hm; rw [hm]; simp
  · rw [feq_self] at hc
    have hn : isNan .f64 x = true := by simpa using hc
    rw [hn, Bool.true_or] at hm
    simpa using hm⟩)
noncomputable def k_IsFinite0 : Ctr Try.prog := mkC Try.prog mix [k_finite] 51 Try.f51 (bodyOf Try.f51) Try.func51 (by kernel_rfl) (by kernel_rfl) []
theorem IsFinite_ev (x : Nat) (mem : Mem) : k_IsFinite0.run [.one (.fl .f32 x)] mem = .leaf (.one (.bo (fin .f64 (fcvt .f32 .f64 x))), []) := by kernel_rfl
noncomputable def k_IsFinite : Ctr Try.prog := k_IsFinite0.to (runF .f32 fun x => .leaf (.one (.bo (fin .f32 x)))) (weak_F (C := k_IsFinite0) fun x mem _ => by
  rw [IsFinite_ev, fin_wide]; exact Weak.refl _)
noncomputable def k_l01Finite0 : Ctr Try.prog := mkC Try.prog mix [] 48 Try.f48 (bodyOf Try.f48) Try.func48 (by kernel_rfl) (by kernel_rfl) []
theorem l01Finite_ev (x : Nat) (mem : Mem) : k_l01Finite0.run [.one (.fl .f32 x)] mem = .leaf (.one (.bo (feq .f32 (fsub .f32 x x) 0)), []) := by kernel_rfl
noncomputable def k_l01Finite : Ctr Try.prog := k_l01Finite0.to (runF .f32 fun x => .leaf (.one (.bo (fin .f32 x)))) (weak_F (C := k_l01Finite0) fun x mem _ => by
  rw [l01Finite_ev, fin_sub]; exact Weak.refl _)
noncomputable def k_l01Bits0 : Ctr Try.prog := mkC Try.prog mix [k_f32bits] 97 Try.f97 (bodyOf Try.f97) Try.func97 (by kernel_rfl) (by kernel_rfl) []
theorem l01Bits_ev (x : Nat) (mem : Mem) : k_l01Bits0.run [.one (.fl .f32 x)] mem = .ite (!feq .f32 x x) (.leaf (.one (.int .i64 2143289344), [])) (.need (!isNan .f32 x) (.leaf (.one (.num .i64 (IntKind.i64.wrap x)), []))) := by kernel_rfl
noncomputable def k_l01Bits : Ctr Try.prog := k_l01Bits0.to (runF .f32 fun x => .leaf (.one (.num .i64 x))) (weak_F (C := k_l01Bits0) fun x mem hx => ⟨fun Φ hΦ h => by
  rw [l01Bits_ev]
  have h32 : x < 2 ^ 32 := hx.1
  refine ⟨fun hc => hΦ _ _ (le2_ii ?_) h, fun hc => ⟨?_, hΦ _ _ (le2_in ?_) h⟩⟩
  · rw [feq_self] at hc
    rw [can_nan hx (by simpa using hc)]; rfl
  · rw [feq_self] at hc; simpa using hc
  · exact IntWalk.i64_in _ (by omega)⟩)

end Go.Proofs.Ytdmcpgbnomhahaa
