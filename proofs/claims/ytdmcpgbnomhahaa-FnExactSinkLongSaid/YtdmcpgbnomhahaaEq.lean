/-
  Floats and vectors that are the same, in the laws' words. No conditions.
-/
import Derived.Test.YtdmcpgbnomhahaaNum
import Derived.Test.YtdmcpgbnomhahaaLp
namespace Go.Proofs.Ytdmcpgbnomhahaa
set_option linter.unusedVariables false
set_option linter.unusedSimpArgs false
open Go.RowKit

theorem not_bne (b : Bool) : (!(b != b)) = true := by cases b <;> rfl

/-! ### sameFloat, where the two are the same -/
noncomputable def k_sameFloat0 : Ctr Try.prog := mkC Try.prog mix [] 24 Try.f24 (bodyOf Try.f24) Try.func24 (by kernel_rfl) (by kernel_rfl) []

theorem sameFloat_ev (x : Nat) (mem : Mem) : k_sameFloat0.run [.one (.fl .f64 x), .one (.fl .f64 x)] mem =
    .ite (!feq .f64 x x) (.ite (!feq .f64 x x) (.leaf (.one (.bo (!feq .f64 x x)), [])) (.leaf (.one (.tt false), [])))
      (.ite (!feq .f64 x x) (.ite (!feq .f64 x x) (.leaf (.one (.bo (!feq .f64 x x)), [])) (.leaf (.one (.tt false), [])))
        (.ite (feq .f64 x 0) (.ite (feq .f64 x 0) (.leaf (.one (.bo (fgt .f64 (fdiv .f64 4607182418800017408 x) 0 == fgt .f64 (fdiv .f64 4607182418800017408 x) 0)), [])) (.leaf (.one (.bo (feq .f64 x x)), [])))
          (.leaf (.one (.bo (feq .f64 x x)), [])))) := by kernel_rfl

noncomputable def k_sameFloat : Ctr Try.prog := k_sameFloat0.to (runFF .f64 fun x y => .need (decide (x = y)) (.leaf (.one (.tt true)))) (weak_FF (C := k_sameFloat0) fun x y mem _ _ => ⟨fun Φ hΦ h => by
  have hxy : x = y := of_decide_eq_true h.1
  have h2 : Φ (.one (.tt true), []) := h.2
  subst hxy
  rw [sameFloat_ev]
  have key : ∀ b : Bool, b = true → Φ (.one (.bo b), []) := fun b hb => hΦ _ _ (le2_tb hb) h2
  refine T.h_ite (fun hc => T.h_ite (fun _ => T.h_leaf (key _ hc)) fun hd => ?_) fun hc => T.h_ite (fun hd => ?_) fun hd => T.h_ite (fun _ => T.h_ite (fun _ => T.h_leaf (key _ (by simp))) fun _ => T.h_leaf (key _ (by simpa using hc))) fun _ => T.h_leaf (key _ (by simpa using hc))
  · rw [hc] at hd; cases hd
  · rw [hc] at hd; cases hd⟩)

end Go.Proofs.Ytdmcpgbnomhahaa
