/-
  Entries compared. No conditions.
-/
import Derived.Test.YtdmcpgbnomhahaaEa
import Derived.Test.YtdmcpgbnomhahaaEq
namespace Go.Proofs.Ytdmcpgbnomhahaa
set_option linter.unusedVariables false
set_option linter.unusedSimpArgs false
open Go.RowKit

noncomputable def k_ee_w_eqOrbit : Ctr Try.prog := mkC Try.prog mix [k_sameFloat] 44 Try.f44 (bodyOf Try.f44) Try.func44 (by kernel_rfl) (by kernel_rfl) []
noncomputable def k_ee_w_eqEntry : Ctr Try.prog := mkC Try.prog mix [k_sameFloat, k_ee_w_eqOrbit] 15 Try.f15 (bodyOf Try.f15) Try.func15 (by kernel_rfl) (by kernel_rfl) []
def run_ee : List AV → Mem → T Res
  | [.agg [.str x0, .fl .f32 x1, .fl .f32 x2, .fl .f32 x3, .fl .f32 x4, .fl .f32 x5, .fl .f32 x6, .fl .f32 x7], .agg [.str y0, .fl .f32 y1, .fl .f32 y2, .fl .f32 y3, .fl .f32 y4, .fl .f32 y5, .fl .f32 y6, .fl .f32 y7]], _ => .need (decide (x0 = y0)) (.need (decide (x1 = y1 ∧ x2 = y2 ∧ x3 = y3 ∧ x4 = y4 ∧ x5 = y5 ∧ x6 = y6 ∧ x7 = y7)) (.leaf (.one (.tt true), [])))
  | _, _ => .fail
theorem ee_ev (x0 : ByteArray) (x1 x2 x3 x4 x5 x6 x7 : Nat) (y0 : ByteArray) (y1 y2 y3 y4 y5 y6 y7 : Nat) (mem : Mem) : k_ee_w_eqEntry.run [.agg [.str x0, .fl .f32 x1, .fl .f32 x2, .fl .f32 x3, .fl .f32 x4, .fl .f32 x5, .fl .f32 x6, .fl .f32 x7], .agg [.str y0, .fl .f32 y1, .fl .f32 y2, .fl .f32 y3, .fl .f32 y4, .fl .f32 y5, .fl .f32 y6, .fl .f32 y7]] mem =
    (T.ite (!x0.toList == y0.toList) (T.leaf (AV.one (SV.tt false), [])) (T.need (decide (fcvt FloatKind.f32 FloatKind.f64 x1 = fcvt FloatKind.f32 FloatKind.f64 y1)) (T.need (decide (fcvt FloatKind.f32 FloatKind.f64 x2 = fcvt FloatKind.f32 FloatKind.f64 y2)) (T.need (decide (fcvt FloatKind.f32 FloatKind.f64 x3 = fcvt FloatKind.f32 FloatKind.f64 y3)) (T.need (decide (fcvt FloatKind.f32 FloatKind.f64 x4 = fcvt FloatKind.f32 FloatKind.f64 y4)) (T.need (decide (fcvt FloatKind.f32 FloatKind.f64 x5 = fcvt FloatKind.f32 FloatKind.f64 y5)) (T.need (decide (fcvt FloatKind.f32 FloatKind.f64 x6 = fcvt FloatKind.f32 FloatKind.f64 y6)) (T.need (decide (fcvt FloatKind.f32 FloatKind.f64 x7 = fcvt FloatKind.f32 FloatKind.f64 y7)) (T.leaf (AV.one (SV.tt true), [])))))))))) := by kernel_rfl
noncomputable def k_eqEntry : Ctr Try.prog := k_ee_w_eqEntry.to run_ee (by
  intro args mem _
  unfold run_ee
  split
  · rename_i x0 x1 x2 x3 x4 x5 x6 x7 y0 y1 y2 y3 y4 y5 y6 y7 _
    rw [ee_ev]
    constructor
    intro Φ hΦ h
    have e0 : x0 = y0 := of_decide_eq_true h.1
    obtain ⟨e1, e2, e3, e4, e5, e6, e7⟩ : x1 = y1 ∧ x2 = y2 ∧ x3 = y3 ∧ x4 = y4 ∧ x5 = y5 ∧ x6 = y6 ∧ x7 = y7 := of_decide_eq_true h.2.1
    exact T.h_ite (fun hc => absurd hc (by rw [e0]; simp)) (fun _ => T.h_need (decide_eq_true (by rw [e1])) (T.h_need (decide_eq_true (by rw [e2])) (T.h_need (decide_eq_true (by rw [e3])) (T.h_need (decide_eq_true (by rw [e4])) (T.h_need (decide_eq_true (by rw [e5])) (T.h_need (decide_eq_true (by rw [e6])) (T.h_need (decide_eq_true (by rw [e7])) (T.h_leaf h.2.2))))))))
  · exact Weak.fail _)

end Go.Proofs.Ytdmcpgbnomhahaa
