/-
  Contracts of the small functions on numbers: what is finite, what is the same. No conditions.
-/
import Derived.Test.YtdlamanfolijlaaFt
import Derived.Test.YtdlamanfolijlaaRows
namespace Go.Proofs.Ytdlamanfolijlaa
set_option linter.unusedVariables false
set_option linter.unusedSimpArgs false
open Go.RowKit

theorem mix : Try.prog.follows .mixedOrders = true := by kernel_rfl

noncomputable def k_f64bits : Ctr Try.prog := extCtr (f := 119) Try.func119 (by kernel_rfl) (by kernel_rfl) (by kernel_rfl) (e := Extern.MathFloatBits.float64bits) (by kernel_rfl) (bitsRun .f64) float64bits_ok
noncomputable def k_f64from : Ctr Try.prog := extCtr (f := 122) Try.func122 (by kernel_rfl) (by kernel_rfl) (by kernel_rfl) (e := Extern.MathFloatBits.float64frombits) (by kernel_rfl) (fromRun .f64) float64frombits_ok
noncomputable def k_f32bits : Ctr Try.prog := extCtr (f := 118) Try.func118 (by kernel_rfl) (by kernel_rfl) (by kernel_rfl) (e := Extern.MathFloatBits.float32bits) (by kernel_rfl) (bitsRun .f32) float32bits_ok
noncomputable def k_isnan : Ctr Try.prog := mkC Try.prog mix [] 123 Try.f123 (bodyOf Try.f123) Try.func123 (by kernel_rfl) (by kernel_rfl) []
noncomputable def k_abs : Ctr Try.prog := mkC Try.prog mix [k_f64bits, k_f64from] 115 Try.f115 (bodyOf Try.f115) Try.func115 (by kernel_rfl) (by kernel_rfl) []
noncomputable def k_isinf : Ctr Try.prog := mkC Try.prog mix [k_abs] 124 Try.f124 (bodyOf Try.f124) Try.func124 (by kernel_rfl) (by kernel_rfl) []
noncomputable def k_signbit : Ctr Try.prog := mkC Try.prog mix [k_f64bits] 96 Try.f96 (bodyOf Try.f96) Try.func96 (by kernel_rfl) (by kernel_rfl) []
noncomputable def k_finite0 : Ctr Try.prog := mkC Try.prog mix [k_isnan, k_isinf] 117 Try.f117 (bodyOf Try.f117) Try.func117 (by kernel_rfl) (by kernel_rfl) []
theorem finite_ev (x : Nat) (mem : Mem) : k_finite0.run [.one (.fl .f64 x)] mem = .ite (!!feq .f64 x x) (.leaf (.one (.bo (!fgt .f64 (fabs .f64 x) 9218868437227405311)), [])) (.leaf (.one (.tt false), [])) := by kernel_rfl
noncomputable def k_finite : Ctr Try.prog := k_finite0.to (runF .f64 fun x => .leaf (.one (.bo (fin .f64 x)))) (weak_F (C := k_finite0) fun x mem _ => ⟨fun Φ hΦ h => by
  rw [finite_ev]
  have hm := abs_gt_max x
  refine ⟨fun hc => hΦ _ _ (le2_bo ?_) h, fun hc => hΦ _ _ (le2_bt ?_) h⟩
  · rw [feq_self] at hc
    have hn : isNan .f64 x = false := by simpa using hc
    rw [hn, Bool.false_or] at hm; rw [hm]; simp
  · rw [feq_self] at hc
    have hn : isNan .f64 x = true := by simpa using hc
    rw [hn, Bool.true_or] at hm
    simpa using hm⟩)
noncomputable def k_IsFinite0 : Ctr Try.prog := mkC Try.prog mix [k_finite] 91 Try.f91 (bodyOf Try.f91) Try.func91 (by kernel_rfl) (by kernel_rfl) []
theorem IsFinite_ev (x : Nat) (mem : Mem) : k_IsFinite0.run [.one (.fl .f32 x)] mem = .leaf (.one (.bo (fin .f64 (fcvt .f32 .f64 x))), []) := by kernel_rfl
noncomputable def k_IsFinite : Ctr Try.prog := k_IsFinite0.to (runF .f32 fun x => .leaf (.one (.bo (fin .f32 x)))) (weak_F (C := k_IsFinite0) fun x mem _ => by
  rw [IsFinite_ev, fin_wide]; exact Weak.refl _)
noncomputable def k_l01Finite0 : Ctr Try.prog := mkC Try.prog mix [] 109 Try.f109 (bodyOf Try.f109) Try.func109 (by kernel_rfl) (by kernel_rfl) []
theorem l01Finite_ev (x : Nat) (mem : Mem) : k_l01Finite0.run [.one (.fl .f32 x)] mem = .leaf (.one (.bo (feq .f32 (fsub .f32 x x) 0)), []) := by kernel_rfl
noncomputable def k_l01Finite : Ctr Try.prog := k_l01Finite0.to (runF .f32 fun x => .leaf (.one (.bo (fin .f32 x)))) (weak_F (C := k_l01Finite0) fun x mem _ => by
  rw [l01Finite_ev, fin_sub]; exact Weak.refl _)
noncomputable def k_l01Bits0 : Ctr Try.prog := mkC Try.prog mix [k_f32bits] 95 Try.f95 (bodyOf Try.f95) Try.func95 (by kernel_rfl) (by kernel_rfl) []
theorem l01Bits_ev (x : Nat) (mem : Mem) : k_l01Bits0.run [.one (.fl .f32 x)] mem = .ite (!feq .f32 x x) (.leaf (.one (.int .i64 2143289344), [])) (.need (!isNan .f32 x) (.leaf (.one (.num .i64 (IntKind.i64.wrap x)), []))) := by kernel_rfl
noncomputable def k_l01Bits : Ctr Try.prog := k_l01Bits0.to (runF .f32 fun x => .leaf (.one (.num .i64 x))) (weak_F (C := k_l01Bits0) fun x mem hx => ⟨fun Φ hΦ h => by
  rw [l01Bits_ev]
  have h32 : x < 2 ^ 32 := hx.1
  refine ⟨fun hc => hΦ _ _ (le2_ii ?_) h, fun hc => ⟨?_, hΦ _ _ (le2_in ?_) h⟩⟩
  · rw [feq_self] at hc
    rw [can_nan hx (by simpa using hc)]; rfl
  · rw [feq_self] at hc; simpa using hc
  · exact IntWalk.i64_in _ (by omega)⟩)
noncomputable def k_l01Same0 : Ctr Try.prog := mkC Try.prog mix [k_l01Bits] 64 Try.f64 (bodyOf Try.f64) Try.func64 (by kernel_rfl) (by kernel_rfl) []
theorem l01Same_ev (x y : Nat) (mem : Mem) : k_l01Same0.run [.one (.fl .f32 x), .one (.fl .f32 y)] mem = .leaf (.one (.bo (decide ((x : Int) = y))), []) := by kernel_rfl
noncomputable def k_l01Same : Ctr Try.prog := k_l01Same0.to (runFF .f32 fun x y => .leaf (.one (.bo (decide (x = y))))) (weak_FF (C := k_l01Same0) fun x y mem _ _ => ⟨fun Φ hΦ h => by
  rw [l01Same_ev]
  exact hΦ _ _ (le2_bo (decide_eq_decide.2 (by omega))) h⟩)
noncomputable def k_SameNumber0 : Ctr Try.prog := mkC Try.prog mix [k_signbit] 68 Try.f68 (bodyOf Try.f68) Try.func68 (by kernel_rfl) (by kernel_rfl) []
theorem SameNumber_ev (x y : Nat) (mem : Mem) : k_SameNumber0.run [.one (.fl .f32 x), .one (.fl .f32 y)] mem =
    .ite (!feq .f32 x x) (.ite (!feq .f32 x x) (.leaf (.one (.bo (!feq .f32 y y)), [])) (.leaf (.one (.tt false), [])))
      (.ite (!feq .f32 y y) (.ite (!feq .f32 x x) (.leaf (.one (.bo (!feq .f32 y y)), [])) (.leaf (.one (.tt false), [])))
        (.ite (feq .f32 x y) (.need (!isNan .f64 (fcvt .f32 .f64 x)) (.need (!isNan .f64 (fcvt .f32 .f64 y)) (.leaf (.one (.bo (decide (IntKind.i64.wrap (fcvt .f32 .f64 x) < 0) == decide (IntKind.i64.wrap (fcvt .f32 .f64 y) < 0))), []))))
          (.leaf (.one (.tt false), [])))) := by kernel_rfl
noncomputable def k_SameNumber : Ctr Try.prog := k_SameNumber0.to (runFF .f32 fun x y => .leaf (.one (.bo (decide (x = y))))) (weak_FF (C := k_SameNumber0) fun x y mem hx hy => ⟨fun Φ hΦ h => by
  rw [SameNumber_ev, feq_self, feq_self]
  have hw : ∀ z, Can .f32 z → fcvt .f32 .f64 z < 2 ^ 64 := fun z hz => (can_cvt (k := .f64) hz).1
  rw [wrap_neg (hw x hx), wrap_neg (hw y hy), isNan_cvt, isNan_cvt]
  have key : ∀ b : Bool, b = decide (x = y) → Φ (.one (.bo b), []) := fun b hb => by rw [hb]; exact h
  have keyt : false = decide (x = y) → Φ (.one (.tt false), []) := fun hb => hΦ _ _ (le2_bt hb) h
  cases hnx : isNan .f32 x with
  | true =>
    refine ⟨fun _ => ⟨fun _ => key _ ?_, fun hc => by simp at hc⟩, fun hc => by simp at hc⟩
    cases hny : isNan .f32 y with
    | true => rw [can_nan hx hnx, can_nan hy hny]; rfl
    | false =>
      symm
      exact decide_eq_false fun e => by rw [e, hny] at hnx; cases hnx
  | false =>
    refine ⟨fun hc => by simp at hc, fun _ => ?_⟩
    cases hny : isNan .f32 y with
    | true =>
      refine ⟨fun _ => ⟨fun hc => by simp at hc, fun _ => keyt ?_⟩, fun hc => by simp at hc⟩
      symm
      exact decide_eq_false fun e => by rw [e, hny] at hnx; cases hnx
    | false =>
      refine ⟨fun hc => by simp at hc, fun _ => ?_⟩
      have hs := same_dec hx hy hnx hny
      rw [sgn_cvt hnx (by decide), sgn_cvt hny (by decide)]
      refine ⟨fun he => ⟨rfl, rfl, key _ ?_⟩, fun he => keyt ?_⟩
      · rw [he, Bool.true_and] at hs; exact hs
      · rw [he, Bool.false_and] at hs; exact hs⟩)

end Go.Proofs.Ytdlamanfolijlaa
