/-
  Floats and vectors that are the same, in the laws' words. No conditions.
-/
import Derived.Test.YtjaohecdhnhhbaaNum
import Derived.Test.YtjaohecdhnhhbaaLp
namespace Go.Proofs.Ytjaohecdhnhhbaa
set_option linter.unusedVariables false
set_option linter.unusedSimpArgs false
open Go.RowKit

theorem not_bne (b : Bool) : (!(b != b)) = true := by cases b <;> rfl

/-! ### sameFloat, where the two are the same -/
noncomputable def k_sameFloat0 : Ctr Try.prog := mkC Try.prog mix [] 53 Try.f53 (bodyOf Try.f53) Try.func53 (by kernel_rfl) (by kernel_rfl) []

theorem sameFloat_ev (x : Nat) (mem : Mem) : k_sameFloat0.run [.one (.fl .f64 x), .one (.fl .f64 x)] mem =
    .ite (!feq .f64 x x) (.ite (!feq .f64 x x) (.leaf (.one (.bo (!feq .f64 x x)), [])) (.leaf (.one (.tt false), [])))
      (.ite (!feq .f64 x x) (.ite (!feq .f64 x x) (.leaf (.one (.bo (!feq .f64 x x)), [])) (.leaf (.one (.tt false), [])))
        (.ite (feq .f64 x 0) (.ite (feq .f64 x 0) (.leaf (.one (.bo (fgt .f64 (fdiv .f64 4607182418800017408 x) 0 == fgt .f64 (fdiv .f64 4607182418800017408 x) 0)), [])) (.leaf (.one (.bo (feq .f64 x x)), [])))
          (.leaf (.one (.bo (feq .f64 x x)), [])))) := by kernel_rfl

noncomputable def k_sameFloat : Ctr Try.prog := k_sameFloat0.to (runFF .f64 fun x y => .need (decide (x = y)) (.leaf (.one (.tt true)))) (weak_FF (C := k_sameFloat0) fun x y mem _ _ => ⟨fun Φ hΦ h => by
  have hxy : x = y := of_decide_eq_true h.1
  have h2 : Φ (.one (.tt true), []) := h.2
  subst hxy
  rw [sameFloat_ev]
  have key : ∀ b : Bool, b = true → Φ (.one (.bo b), []) := fun b hb => hΦ _ _ (le2_tb hb) h2
  refine T.h_ite (fun hc => T.h_ite (fun _ => T.h_leaf (key _ hc)) fun hd => ?_) fun hc => T.h_ite (fun hd => ?_) fun hd => T.h_ite (fun _ => T.h_ite (fun _ => T.h_leaf (key _ (by simp))) fun _ => T.h_leaf (key _ (by simpa using hc))) fun _ => T.h_leaf (key _ (by simpa using hc))
  · rw [hc] at hd; cases hd
  · rw [hc] at hd; cases hd⟩)
noncomputable def k_eqVector0 : Ctr Try.prog := mkC Try.prog mix [k_sameFloat] 66 Try.f66 (bodyOf Try.f66) Try.func66 (by kernel_rfl) (by kernel_rfl) []
def run_eqVector : List AV → Mem → T Res
  | [.agg [.fl .f32 x0, .fl .f32 x1, .fl .f32 x2], .agg [.fl .f32 y0, .fl .f32 y1, .fl .f32 y2]], _ => .need (decide (x0 = y0 ∧ x1 = y1 ∧ x2 = y2)) (.leaf (.one (.tt true), []))
  | _, _ => .fail
theorem eqVector_ev (x0 x1 x2 y0 y1 y2 : Nat) (mem : Mem) : k_eqVector0.run [.agg [.fl .f32 x0, .fl .f32 x1, .fl .f32 x2], .agg [.fl .f32 y0, .fl .f32 y1, .fl .f32 y2]] mem =
    .need (decide (fcvt .f32 .f64 x0 = fcvt .f32 .f64 y0)) (.need (decide (fcvt .f32 .f64 x1 = fcvt .f32 .f64 y1)) (.need (decide (fcvt .f32 .f64 x2 = fcvt .f32 .f64 y2)) (.leaf (.one (.tt true), [])))) := by kernel_rfl
noncomputable def k_eqVector : Ctr Try.prog := k_eqVector0.to run_eqVector (by
  intro args mem _
  unfold run_eqVector
  split
  · rename_i x0 x1 x2 y0 y1 y2 _
    rw [eqVector_ev]
    constructor
    intro Φ hΦ h
    obtain ⟨h0, h1, h2⟩ := of_decide_eq_true h.1
    have hΦ2 : Φ (.one (.tt true), []) := h.2
    exact T.h_need (by simp [h0, h1, h2]) (T.h_need (by simp [h0, h1, h2]) (T.h_need (by simp [h0, h1, h2]) (T.h_leaf hΦ2)))
  · exact Weak.fail _)

end Go.Proofs.Ytjaohecdhnhhbaa
