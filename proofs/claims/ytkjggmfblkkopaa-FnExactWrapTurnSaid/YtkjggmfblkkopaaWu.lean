/-
  WrapTurn: both functions in the same words. No conditions.
-/
import Derived.Test.YtkjggmfblkkopaaWt
import Derived.Test.YtkjggmfblkkopaaSc
import Derived.Test.YtkjggmfblkkopaaEq
namespace Go.Proofs.Ytkjggmfblkkopaa
set_option linter.unusedVariables false
set_option linter.unusedSimpArgs false
open Go.RowKit

noncomputable def k_s_l02Number : Ctr Try.prog := (mkF Try.prog mix [k_l01Finite] 66 Try.f66 (bodyOf Try.f66) Try.func66 (by kernel_rfl) (by kernel_rfl) [0, 2, 3, 6, 198] 8 (by kernel_rfl) (by kernel_rfl)).mg
noncomputable def k_s_l06Floor : Ctr Try.prog := (mkF Try.prog mix [k_Floor] 130 Try.f130 (bodyOf Try.f130) Try.func130 (by kernel_rfl) (by kernel_rfl) [0, 2, 198] 7 (by kernel_rfl) (by kernel_rfl)).mg
noncomputable def k_s_l06Wrap : Ctr Try.prog := (mkF Try.prog mix [k_s_l06Floor] 85 Try.f85 (bodyOf Try.f85) Try.func85 (by kernel_rfl) (by kernel_rfl) [0, 2, 3, 10, 15, 198] 17 (by kernel_rfl) (by kernel_rfl)).mg
noncomputable def k_s_WrapTurn : Ctr Try.prog := (mkF Try.prog mix [k_s_l02Number, k_l01Finite, k_s_l06Wrap] 30 Try.f30 (bodyOf Try.f30) Try.func30 (by kernel_rfl) (by kernel_rfl) [0, 2, 3, 6, 198] 12 (by kernel_rfl) (by kernel_rfl)).mg
noncomputable def k_i_floor32 : Ctr Try.prog := (mkF Try.prog mix [k_Floor] 131 Try.f131 (bodyOf Try.f131) Try.func131 (by kernel_rfl) (by kernel_rfl) [0, 2, 198] 7 (by kernel_rfl) (by kernel_rfl)).mg
noncomputable def k_i_wrapTurn : Ctr Try.prog := (mkF Try.prog mix [k_i_floor32] 86 Try.f86 (bodyOf Try.f86) Try.func86 (by kernel_rfl) (by kernel_rfl) [0, 2, 3, 10, 15, 198] 17 (by kernel_rfl) (by kernel_rfl)).mg
noncomputable def k_i_WrapTurn : Ctr Try.prog := (mkF Try.prog mix [k_IsFinite, k_i_wrapTurn] 31 Try.f31 (bodyOf Try.f31) Try.func31 (by kernel_rfl) (by kernel_rfl) [0, 2, 3, 6, 198] 9 (by kernel_rfl) (by kernel_rfl)).mg
def run_Wt : List AV → Mem → T Res
  | [.one (.fl .f32 x)], _ => .leaf (.tup [.one (.fl .f32 (bif fin .f32 x then wrapV x else 0)), .one (.bo (fin .f32 x))], [])
  | _, _ => .fail
theorem sWt_ev (x : Nat) (mem : Mem) : k_s_WrapTurn.run [.one (.fl .f32 x)] mem = .need (bif !fin .f32 x then true else cvtFits .f64 .f32 (fintg .down (fcvt .f32 .f64 (wHalf x)))) (.leaf (.tup [.one (.fl .f32 (bif !fin .f32 x then 0 else bif !fin .f32 (wrapV x) then 0 else wrapV x)), .one (.bo (bif !fin .f32 x then false else !!fin .f32 (wrapV x)))], [])) := by kernel_rfl
noncomputable def k_sWt : Ctr Try.prog := k_s_WrapTurn.to run_Wt (by
  intro args mem _
  unfold run_Wt
  split
  · rename_i x _
    rw [sWt_ev]
    constructor
    intro Φ hΦ h
    cases hx : fin .f32 x with
    | false =>
      rw [hx] at h
      exact T.h_need rfl (T.h_leaf h)
    | true =>
      have hw := wrap_fin hx
      rw [hx] at h
      refine T.h_need (floor32 (fin_half hx)).1 (T.h_leaf ?_)
      rw [hw]
      exact h
  · exact Weak.fail _)
theorem iWt_ev (x : Nat) (mem : Mem) : k_i_WrapTurn.run [.one (.fl .f32 x)] mem = .need (bif !fin .f32 x then true else cvtFits .f64 .f32 (fintg .down (fcvt .f32 .f64 (wHalf x)))) (.leaf (.tup [.one (.fl .f32 (bif !fin .f32 x then 0 else wrapV x)), .one (.bo (!!fin .f32 x))], [])) := by kernel_rfl
noncomputable def k_iWt : Ctr Try.prog := k_i_WrapTurn.to run_Wt (by
  intro args mem _
  unfold run_Wt
  split
  · rename_i x _
    rw [iWt_ev]
    constructor
    intro Φ hΦ h
    cases hx : fin .f32 x with
    | false =>
      rw [hx] at h
      exact T.h_need rfl (T.h_leaf h)
    | true =>
      have hw := wrap_fin hx
      rw [hx] at h
      refine T.h_need (floor32 (fin_half hx)).1 (T.h_leaf ?_)
      exact h
  · exact Weak.fail _)

end Go.Proofs.Ytkjggmfblkkopaa
