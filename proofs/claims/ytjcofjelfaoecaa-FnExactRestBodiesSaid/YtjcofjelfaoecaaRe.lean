/-
  RestBodies: both functions in the same words. No conditions.
-/
import Derived.Test.YtjcofjelfaoecaaCe
import Derived.Test.YtjcofjelfaoecaaMv
namespace Go.Proofs.Ytjcofjelfaoecaa
set_option linter.unusedVariables false
set_option linter.unusedSimpArgs false
open Go.RowKit

noncomputable def k_r_s_l02Minus : Ctr Try.prog := (mkF Try.prog mix [] 94 Try.f94 (bodyOf Try.f94) Try.func94 (by kernel_rfl) (by kernel_rfl) [0, 1, 2] 13 (by kernel_rfl) (by kernel_rfl)).mg
noncomputable def k_r_i_Vector_opposite : Ctr Try.prog := (mkF Try.prog mix [] 96 Try.f96 (bodyOf Try.f96) Try.func96 (by kernel_rfl) (by kernel_rfl) [0, 1, 2] 13 (by kernel_rfl) (by kernel_rfl)).mg
noncomputable def k_sRe0 : Ctr Try.prog := (mkF0 Try.prog mix [k_sCe, k_r_s_l02Minus, k_sMove, k_sGive] 48 Try.f48 (bodyOf Try.f48) Try.func48 (by kernel_rfl) (by kernel_rfl) [0, 2, 3, 4, 5, 6, 14, 198] 24 (by kernel_rfl) (by kernel_rfl) []).mg
noncomputable def k_iRe0 : Ctr Try.prog := (mkF0 Try.prog mix [k_iCe, k_r_i_Vector_opposite, k_iMv] 49 Try.f49 (bodyOf Try.f49) Try.func49 (by kernel_rfl) (by kernel_rfl) [0, 2, 3, 4, 5, 6, 14, 198] 23 (by kernel_rfl) (by kernel_rfl) []).mg
def reV (n : Nat) (f0 f1 f2 f3 f4 f5 f6 : Nat → Nat) (x : Nat) : Nat := fneg .f32 (ceV n f0 f1 f2 f3 f4 f5 f6 (ce6 n f0 f1 f2 f3 f4 f5 f6) x)
def re_ok (n : Nat) (f0 f1 f2 f3 f4 f5 f6 : Nat → Nat) : Bool := ceK n f0 f1 f2 f3 f4 f5 f6 (ce6 n f0 f1 f2 f3 f4 f5 f6) && areB n (fun q => fadd .f32 (f0 q) (reV n f0 f1 f2 f3 f4 f5 f6 (ce6 n f0 f1 f2 f3 f4 f5 f6).1)) (fun q => fadd .f32 (f1 q) (reV n f0 f1 f2 f3 f4 f5 f6 (ce6 n f0 f1 f2 f3 f4 f5 f6).2.1)) (fun q => fadd .f32 (f2 q) (reV n f0 f1 f2 f3 f4 f5 f6 (ce6 n f0 f1 f2 f3 f4 f5 f6).2.2.1)) (fun q => fadd .f32 (f3 q) (reV n f0 f1 f2 f3 f4 f5 f6 (ce6 n f0 f1 f2 f3 f4 f5 f6).2.2.2.1)) (fun q => fadd .f32 (f4 q) (reV n f0 f1 f2 f3 f4 f5 f6 (ce6 n f0 f1 f2 f3 f4 f5 f6).2.2.2.2.1)) (fun q => fadd .f32 (f5 q) (reV n f0 f1 f2 f3 f4 f5 f6 (ce6 n f0 f1 f2 f3 f4 f5 f6).2.2.2.2.2)) f6
theorem ceK_in {n : Nat} {f0 f1 f2 f3 f4 f5 f6 : Nat → Nat} (h : ceK n f0 f1 f2 f3 f4 f5 f6 (ce6 n f0 f1 f2 f3 f4 f5 f6) = true) : massK n f0 f1 f2 f3 f4 f5 f6 = true ∧ ceBad n f0 f1 f2 f3 f4 f5 f6 (ce6 n f0 f1 f2 f3 f4 f5 f6) = false := by
  unfold ceK at h
  cases hm : massK n f0 f1 f2 f3 f4 f5 f6 with
  | false => rw [hm] at h; cases h
  | true =>
    rw [hm] at h
    refine ⟨rfl, ?_⟩
    cases hb : ceBad n f0 f1 f2 f3 f4 f5 f6 (ce6 n f0 f1 f2 f3 f4 f5 f6) with
    | false => rfl
    | true => rw [hb] at h; cases h
theorem massK_are {n : Nat} {f0 f1 f2 f3 f4 f5 f6 : Nat → Nat} (h : massK n f0 f1 f2 f3 f4 f5 f6 = true) : areB n f0 f1 f2 f3 f4 f5 f6 = true := by
  unfold massK at h
  cases hA : areB n f0 f1 f2 f3 f4 f5 f6 with
  | true => rfl
  | false => rw [hA] at h; cases h
theorem reV_fin {n : Nat} {f0 f1 f2 f3 f4 f5 f6 : Nat → Nat} (h : ceK n f0 f1 f2 f3 f4 f5 f6 (ce6 n f0 f1 f2 f3 f4 f5 f6) = true) (x : Nat) : fin .f32 (reV n f0 f1 f2 f3 f4 f5 f6 x) = fin .f32 (ceBy n f0 f1 f2 f3 f4 f5 f6 x) := by
  obtain ⟨h1, h2⟩ := ceK_in h
  unfold reV ceV
  rw [fin_fneg, h1, h2]
  rfl
theorem fin3_or {a b : Bool} (h : (bif !a then true else !b) = false) : a = true ∧ b = true := by
  cases a <;> cases b <;> first | exact ⟨rfl, rfl⟩ | cases h
theorem re_fin {n : Nat} {f0 f1 f2 f3 f4 f5 f6 : Nat → Nat} (h : ceK n f0 f1 f2 f3 f4 f5 f6 (ce6 n f0 f1 f2 f3 f4 f5 f6) = true) : fin3 (reV n f0 f1 f2 f3 f4 f5 f6 (ce6 n f0 f1 f2 f3 f4 f5 f6).1) (reV n f0 f1 f2 f3 f4 f5 f6 (ce6 n f0 f1 f2 f3 f4 f5 f6).2.1) (reV n f0 f1 f2 f3 f4 f5 f6 (ce6 n f0 f1 f2 f3 f4 f5 f6).2.2.1) = true ∧ fin3 (reV n f0 f1 f2 f3 f4 f5 f6 (ce6 n f0 f1 f2 f3 f4 f5 f6).2.2.2.1) (reV n f0 f1 f2 f3 f4 f5 f6 (ce6 n f0 f1 f2 f3 f4 f5 f6).2.2.2.2.1) (reV n f0 f1 f2 f3 f4 f5 f6 (ce6 n f0 f1 f2 f3 f4 f5 f6).2.2.2.2.2) = true := by
  obtain ⟨_, h2⟩ := ceK_in h
  unfold ceBad at h2
  obtain ⟨h3, h4⟩ := fin3_or h2
  unfold fin3 at h3 h4 ⊢
  rw [reV_fin h, reV_fin h, reV_fin h, reV_fin h, reV_fin h, reV_fin h]
  exact ⟨h3, h4⟩
theorem re_mv {n : Nat} {f0 f1 f2 f3 f4 f5 f6 : Nat → Nat} (h : ceK n f0 f1 f2 f3 f4 f5 f6 (ce6 n f0 f1 f2 f3 f4 f5 f6) = true) : mv_ok n f0 f1 f2 f3 f4 f5 f6 (reV n f0 f1 f2 f3 f4 f5 f6 (ce6 n f0 f1 f2 f3 f4 f5 f6).1) (reV n f0 f1 f2 f3 f4 f5 f6 (ce6 n f0 f1 f2 f3 f4 f5 f6).2.1) (reV n f0 f1 f2 f3 f4 f5 f6 (ce6 n f0 f1 f2 f3 f4 f5 f6).2.2.1) (reV n f0 f1 f2 f3 f4 f5 f6 (ce6 n f0 f1 f2 f3 f4 f5 f6).2.2.2.1) (reV n f0 f1 f2 f3 f4 f5 f6 (ce6 n f0 f1 f2 f3 f4 f5 f6).2.2.2.2.1) (reV n f0 f1 f2 f3 f4 f5 f6 (ce6 n f0 f1 f2 f3 f4 f5 f6).2.2.2.2.2) = areB n (fun q => fadd .f32 (f0 q) (reV n f0 f1 f2 f3 f4 f5 f6 (ce6 n f0 f1 f2 f3 f4 f5 f6).1)) (fun q => fadd .f32 (f1 q) (reV n f0 f1 f2 f3 f4 f5 f6 (ce6 n f0 f1 f2 f3 f4 f5 f6).2.1)) (fun q => fadd .f32 (f2 q) (reV n f0 f1 f2 f3 f4 f5 f6 (ce6 n f0 f1 f2 f3 f4 f5 f6).2.2.1)) (fun q => fadd .f32 (f3 q) (reV n f0 f1 f2 f3 f4 f5 f6 (ce6 n f0 f1 f2 f3 f4 f5 f6).2.2.2.1)) (fun q => fadd .f32 (f4 q) (reV n f0 f1 f2 f3 f4 f5 f6 (ce6 n f0 f1 f2 f3 f4 f5 f6).2.2.2.2.1)) (fun q => fadd .f32 (f5 q) (reV n f0 f1 f2 f3 f4 f5 f6 (ce6 n f0 f1 f2 f3 f4 f5 f6).2.2.2.2.2)) f6 := by
  unfold mv_ok
  rw [massK_are (ceK_in h).1, (re_fin h).1, (re_fin h).2]
  rfl
theorem sRe0_ev (n m : Nat) (f0 f1 f2 f3 f4 f5 f6 : Nat → Nat) : k_sRe0.run [.one (.su 0 7 0 n false)] [some (.cols m [.fl .f32 f0, .fl .f32 f1, .fl .f32 f2, .fl .f32 f3, .fl .f32 f4, .fl .f32 f5, .fl .f32 f6])] =
    .need (decide (n ≤ m)) (.need (bif !ceK n f0 f1 f2 f3 f4 f5 f6 (ce6 n f0 f1 f2 f3 f4 f5 f6) then true else decide (n ≤ m)) (.need (bif !ceK n f0 f1 f2 f3 f4 f5 f6 (ce6 n f0 f1 f2 f3 f4 f5 f6) then true else decide (n ≤ 1048576)) (.need (bif !ceK n f0 f1 f2 f3 f4 f5 f6 (ce6 n f0 f1 f2 f3 f4 f5 f6) then true else decide (n ≤ n))
      (.ite (!ceK n f0 f1 f2 f3 f4 f5 f6 (ce6 n f0 f1 f2 f3 f4 f5 f6)) (.leaf (.tup [.one (.val (.slice none 0 0)), .one (.tt false)], [])) (.ite (!areB n (fun q => fadd .f32 (f0 q) (reV n f0 f1 f2 f3 f4 f5 f6 (ce6 n f0 f1 f2 f3 f4 f5 f6).1)) (fun q => fadd .f32 (f1 q) (reV n f0 f1 f2 f3 f4 f5 f6 (ce6 n f0 f1 f2 f3 f4 f5 f6).2.1)) (fun q => fadd .f32 (f2 q) (reV n f0 f1 f2 f3 f4 f5 f6 (ce6 n f0 f1 f2 f3 f4 f5 f6).2.2.1)) (fun q => fadd .f32 (f3 q) (reV n f0 f1 f2 f3 f4 f5 f6 (ce6 n f0 f1 f2 f3 f4 f5 f6).2.2.2.1)) (fun q => fadd .f32 (f4 q) (reV n f0 f1 f2 f3 f4 f5 f6 (ce6 n f0 f1 f2 f3 f4 f5 f6).2.2.2.2.1)) (fun q => fadd .f32 (f5 q) (reV n f0 f1 f2 f3 f4 f5 f6 (ce6 n f0 f1 f2 f3 f4 f5 f6).2.2.2.2.2)) f6) (.leaf (.tup [.one (.val (.slice none 0 0)), .one (.tt false)], [])) (.leaf (.tup [.one (.su 5 7 0 n false), .one (.tt true)], [some (.box [.fl .f32 (ceV n f0 f1 f2 f3 f4 f5 f6 (ce6 n f0 f1 f2 f3 f4 f5 f6) (ce6 n f0 f1 f2 f3 f4 f5 f6).1), .fl .f32 (ceV n f0 f1 f2 f3 f4 f5 f6 (ce6 n f0 f1 f2 f3 f4 f5 f6) (ce6 n f0 f1 f2 f3 f4 f5 f6).2.1), .fl .f32 (ceV n f0 f1 f2 f3 f4 f5 f6 (ce6 n f0 f1 f2 f3 f4 f5 f6) (ce6 n f0 f1 f2 f3 f4 f5 f6).2.2.1)]), some (.box [.fl .f32 (ceV n f0 f1 f2 f3 f4 f5 f6 (ce6 n f0 f1 f2 f3 f4 f5 f6) (ce6 n f0 f1 f2 f3 f4 f5 f6).2.2.2.1), .fl .f32 (ceV n f0 f1 f2 f3 f4 f5 f6 (ce6 n f0 f1 f2 f3 f4 f5 f6) (ce6 n f0 f1 f2 f3 f4 f5 f6).2.2.2.2.1), .fl .f32 (ceV n f0 f1 f2 f3 f4 f5 f6 (ce6 n f0 f1 f2 f3 f4 f5 f6) (ce6 n f0 f1 f2 f3 f4 f5 f6).2.2.2.2.2)]), some (.box [.fl .f32 (reV n f0 f1 f2 f3 f4 f5 f6 (ce6 n f0 f1 f2 f3 f4 f5 f6).1), .fl .f32 (reV n f0 f1 f2 f3 f4 f5 f6 (ce6 n f0 f1 f2 f3 f4 f5 f6).2.1), .fl .f32 (reV n f0 f1 f2 f3 f4 f5 f6 (ce6 n f0 f1 f2 f3 f4 f5 f6).2.2.1)]), some (.box [.fl .f32 (reV n f0 f1 f2 f3 f4 f5 f6 (ce6 n f0 f1 f2 f3 f4 f5 f6).2.2.2.1), .fl .f32 (reV n f0 f1 f2 f3 f4 f5 f6 (ce6 n f0 f1 f2 f3 f4 f5 f6).2.2.2.2.1), .fl .f32 (reV n f0 f1 f2 f3 f4 f5 f6 (ce6 n f0 f1 f2 f3 f4 f5 f6).2.2.2.2.2)]), some (.cols n [.fl .f32 fun q => fadd .f32 (f0 q) (reV n f0 f1 f2 f3 f4 f5 f6 (ce6 n f0 f1 f2 f3 f4 f5 f6).1), .fl .f32 fun q => fadd .f32 (f1 q) (reV n f0 f1 f2 f3 f4 f5 f6 (ce6 n f0 f1 f2 f3 f4 f5 f6).2.1), .fl .f32 fun q => fadd .f32 (f2 q) (reV n f0 f1 f2 f3 f4 f5 f6 (ce6 n f0 f1 f2 f3 f4 f5 f6).2.2.1), .fl .f32 fun q => fadd .f32 (f3 q) (reV n f0 f1 f2 f3 f4 f5 f6 (ce6 n f0 f1 f2 f3 f4 f5 f6).2.2.2.1), .fl .f32 fun q => fadd .f32 (f4 q) (reV n f0 f1 f2 f3 f4 f5 f6 (ce6 n f0 f1 f2 f3 f4 f5 f6).2.2.2.2.1), .fl .f32 fun q => fadd .f32 (f5 q) (reV n f0 f1 f2 f3 f4 f5 f6 (ce6 n f0 f1 f2 f3 f4 f5 f6).2.2.2.2.2), .fl .f32 f6])]))))))) := by kernel_rfl
theorem iRe0_ev (n m : Nat) (f0 f1 f2 f3 f4 f5 f6 : Nat → Nat) : k_iRe0.run [.one (.su 0 7 0 n false)] [some (.cols m [.fl .f32 f0, .fl .f32 f1, .fl .f32 f2, .fl .f32 f3, .fl .f32 f4, .fl .f32 f5, .fl .f32 f6])] =
    .need (decide (n ≤ m)) (.need (bif !ceK n f0 f1 f2 f3 f4 f5 f6 (ce6 n f0 f1 f2 f3 f4 f5 f6) then true else decide (n ≤ m))
      (.ite (!ceK n f0 f1 f2 f3 f4 f5 f6 (ce6 n f0 f1 f2 f3 f4 f5 f6)) (.leaf (.tup [.one (.val (.slice none 0 0)), .one (.tt false)], [])) (.ite (mv_ok n f0 f1 f2 f3 f4 f5 f6 (reV n f0 f1 f2 f3 f4 f5 f6 (ce6 n f0 f1 f2 f3 f4 f5 f6).1) (reV n f0 f1 f2 f3 f4 f5 f6 (ce6 n f0 f1 f2 f3 f4 f5 f6).2.1) (reV n f0 f1 f2 f3 f4 f5 f6 (ce6 n f0 f1 f2 f3 f4 f5 f6).2.2.1) (reV n f0 f1 f2 f3 f4 f5 f6 (ce6 n f0 f1 f2 f3 f4 f5 f6).2.2.2.1) (reV n f0 f1 f2 f3 f4 f5 f6 (ce6 n f0 f1 f2 f3 f4 f5 f6).2.2.2.2.1) (reV n f0 f1 f2 f3 f4 f5 f6 (ce6 n f0 f1 f2 f3 f4 f5 f6).2.2.2.2.2)) (.leaf (.tup [.one (.su 5 7 0 n false), .one (.tt true)], [some (.box [.fl .f32 (ceV n f0 f1 f2 f3 f4 f5 f6 (ce6 n f0 f1 f2 f3 f4 f5 f6) (ce6 n f0 f1 f2 f3 f4 f5 f6).1), .fl .f32 (ceV n f0 f1 f2 f3 f4 f5 f6 (ce6 n f0 f1 f2 f3 f4 f5 f6) (ce6 n f0 f1 f2 f3 f4 f5 f6).2.1), .fl .f32 (ceV n f0 f1 f2 f3 f4 f5 f6 (ce6 n f0 f1 f2 f3 f4 f5 f6) (ce6 n f0 f1 f2 f3 f4 f5 f6).2.2.1)]), some (.box [.fl .f32 (ceV n f0 f1 f2 f3 f4 f5 f6 (ce6 n f0 f1 f2 f3 f4 f5 f6) (ce6 n f0 f1 f2 f3 f4 f5 f6).2.2.2.1), .fl .f32 (ceV n f0 f1 f2 f3 f4 f5 f6 (ce6 n f0 f1 f2 f3 f4 f5 f6) (ce6 n f0 f1 f2 f3 f4 f5 f6).2.2.2.2.1), .fl .f32 (ceV n f0 f1 f2 f3 f4 f5 f6 (ce6 n f0 f1 f2 f3 f4 f5 f6) (ce6 n f0 f1 f2 f3 f4 f5 f6).2.2.2.2.2)]), none, none, some (.cols n [.fl .f32 fun q => fadd .f32 (f0 q) (reV n f0 f1 f2 f3 f4 f5 f6 (ce6 n f0 f1 f2 f3 f4 f5 f6).1), .fl .f32 fun q => fadd .f32 (f1 q) (reV n f0 f1 f2 f3 f4 f5 f6 (ce6 n f0 f1 f2 f3 f4 f5 f6).2.1), .fl .f32 fun q => fadd .f32 (f2 q) (reV n f0 f1 f2 f3 f4 f5 f6 (ce6 n f0 f1 f2 f3 f4 f5 f6).2.2.1), .fl .f32 fun q => fadd .f32 (f3 q) (reV n f0 f1 f2 f3 f4 f5 f6 (ce6 n f0 f1 f2 f3 f4 f5 f6).2.2.2.1), .fl .f32 fun q => fadd .f32 (f4 q) (reV n f0 f1 f2 f3 f4 f5 f6 (ce6 n f0 f1 f2 f3 f4 f5 f6).2.2.2.2.1), .fl .f32 fun q => fadd .f32 (f5 q) (reV n f0 f1 f2 f3 f4 f5 f6 (ce6 n f0 f1 f2 f3 f4 f5 f6).2.2.2.2.2), .fl .f32 f6]), none])) (.leaf (.tup [.one (.val (.slice none 0 0)), .one (.tt false)], []))))) := by kernel_rfl
def run_sRe : List AV → Mem → T Res
  | [.one (.su 0 7 0 n false)], [some (.cols m [.fl .f32 f0, .fl .f32 f1, .fl .f32 f2, .fl .f32 f3, .fl .f32 f4, .fl .f32 f5, .fl .f32 f6])] => .need (decide (n ≤ m)) (.ite (re_ok n f0 f1 f2 f3 f4 f5 f6) (.leaf (.tup [.one (.su 5 7 0 n false), .one (.tt true)], [none, none, none, none, some (.cols n [.fl .f32 fun q => fadd .f32 (f0 q) (reV n f0 f1 f2 f3 f4 f5 f6 (ce6 n f0 f1 f2 f3 f4 f5 f6).1), .fl .f32 fun q => fadd .f32 (f1 q) (reV n f0 f1 f2 f3 f4 f5 f6 (ce6 n f0 f1 f2 f3 f4 f5 f6).2.1), .fl .f32 fun q => fadd .f32 (f2 q) (reV n f0 f1 f2 f3 f4 f5 f6 (ce6 n f0 f1 f2 f3 f4 f5 f6).2.2.1), .fl .f32 fun q => fadd .f32 (f3 q) (reV n f0 f1 f2 f3 f4 f5 f6 (ce6 n f0 f1 f2 f3 f4 f5 f6).2.2.2.1), .fl .f32 fun q => fadd .f32 (f4 q) (reV n f0 f1 f2 f3 f4 f5 f6 (ce6 n f0 f1 f2 f3 f4 f5 f6).2.2.2.2.1), .fl .f32 fun q => fadd .f32 (f5 q) (reV n f0 f1 f2 f3 f4 f5 f6 (ce6 n f0 f1 f2 f3 f4 f5 f6).2.2.2.2.2), .fl .f32 f6])])) (.leaf (.tup [.one (.val (.slice none 0 0)), .one (.tt false)], [])))
  | _, _ => .fail
def run_iRe : List AV → Mem → T Res
  | [.one (.su 0 7 0 n false)], [some (.cols m [.fl .f32 f0, .fl .f32 f1, .fl .f32 f2, .fl .f32 f3, .fl .f32 f4, .fl .f32 f5, .fl .f32 f6])] => .need (decide (n ≤ m)) (.ite (re_ok n f0 f1 f2 f3 f4 f5 f6) (.leaf (.tup [.one (.su 5 7 0 n false), .one (.tt true)], [none, none, none, none, some (.cols n [.fl .f32 fun q => fadd .f32 (f0 q) (reV n f0 f1 f2 f3 f4 f5 f6 (ce6 n f0 f1 f2 f3 f4 f5 f6).1), .fl .f32 fun q => fadd .f32 (f1 q) (reV n f0 f1 f2 f3 f4 f5 f6 (ce6 n f0 f1 f2 f3 f4 f5 f6).2.1), .fl .f32 fun q => fadd .f32 (f2 q) (reV n f0 f1 f2 f3 f4 f5 f6 (ce6 n f0 f1 f2 f3 f4 f5 f6).2.2.1), .fl .f32 fun q => fadd .f32 (f3 q) (reV n f0 f1 f2 f3 f4 f5 f6 (ce6 n f0 f1 f2 f3 f4 f5 f6).2.2.2.1), .fl .f32 fun q => fadd .f32 (f4 q) (reV n f0 f1 f2 f3 f4 f5 f6 (ce6 n f0 f1 f2 f3 f4 f5 f6).2.2.2.2.1), .fl .f32 fun q => fadd .f32 (f5 q) (reV n f0 f1 f2 f3 f4 f5 f6 (ce6 n f0 f1 f2 f3 f4 f5 f6).2.2.2.2.2), .fl .f32 f6]), none])) (.leaf (.tup [.one (.val (.slice none 0 0)), .one (.tt false)], [])))
  | _, _ => .fail
theorem sRe_sh {Φ : Res → Prop} {nil row : Res} {m1 m2 m3 m4 : Bool} : ∀ (A B : Bool), m1 = true → (A = true → m2 = true) → (A = true → m3 = true) → (A = true → m4 = true) → ((A && B) = true → Φ row) ∧ ((A && B) = false → Φ nil) →
    (T.need m1 (T.need (bif !A then true else m2) (T.need (bif !A then true else m3) (T.need (bif !A then true else m4) (T.ite (!A) (.leaf nil) (.ite (!B) (.leaf nil) (.leaf row))))))).holds Φ := by
  intro A B h1 h2 h3 h4 h
  cases A <;> cases B <;> simp_all [T.holds]
theorem iRe_sh {Φ : Res → Prop} {nil row : Res} {m1 m2 : Bool} : ∀ (A B M : Bool), (A = true → M = B) → m1 = true → (A = true → m2 = true) → ((A && B) = true → Φ row) ∧ ((A && B) = false → Φ nil) →
    (T.need m1 (T.need (bif !A then true else m2) (T.ite (!A) (.leaf nil) (.ite M (.leaf row) (.leaf nil))))).holds Φ := by
  intro A B M hM h1 h2 h
  cases A <;> cases B <;> simp_all [T.holds]
noncomputable def k_sRe : Ctr Try.prog := (k_sRe0.to run_sRe (by
  intro args mem _
  unfold run_sRe
  split
  · rename_i n m f0 f1 f2 f3 f4 f5 f6 _
    rw [sRe0_ev]
    constructor
    intro Φ hΦ h
    refine sRe_sh _ _ h.1 (fun _ => h.1) (fun hA => decide_eq_true (by have := massK_le (ceK_in hA).1; omega)) (fun _ => decide_eq_true (Nat.le_refl n)) ⟨fun hk => hΦ _ (.tup [.one (.su 5 7 0 n false), .one (.tt true)], [none, none, none, none, some (.cols n [.fl .f32 fun q => fadd .f32 (f0 q) (reV n f0 f1 f2 f3 f4 f5 f6 (ce6 n f0 f1 f2 f3 f4 f5 f6).1), .fl .f32 fun q => fadd .f32 (f1 q) (reV n f0 f1 f2 f3 f4 f5 f6 (ce6 n f0 f1 f2 f3 f4 f5 f6).2.1), .fl .f32 fun q => fadd .f32 (f2 q) (reV n f0 f1 f2 f3 f4 f5 f6 (ce6 n f0 f1 f2 f3 f4 f5 f6).2.2.1), .fl .f32 fun q => fadd .f32 (f3 q) (reV n f0 f1 f2 f3 f4 f5 f6 (ce6 n f0 f1 f2 f3 f4 f5 f6).2.2.2.1), .fl .f32 fun q => fadd .f32 (f4 q) (reV n f0 f1 f2 f3 f4 f5 f6 (ce6 n f0 f1 f2 f3 f4 f5 f6).2.2.2.2.1), .fl .f32 fun q => fadd .f32 (f5 q) (reV n f0 f1 f2 f3 f4 f5 f6 (ce6 n f0 f1 f2 f3 f4 f5 f6).2.2.2.2.2), .fl .f32 f6])]) ⟨⟨BlLe.refl _, trivial⟩, fun _ _ hv => hv⟩ (h.2.1 hk), fun hk => h.2.2 hk⟩
  · exact Weak.fail _)).su.own
noncomputable def k_iRe : Ctr Try.prog := (k_iRe0.to run_iRe (by
  intro args mem _
  unfold run_iRe
  split
  · rename_i n m f0 f1 f2 f3 f4 f5 f6 _
    rw [iRe0_ev]
    constructor
    intro Φ hΦ h
    refine iRe_sh _ (areB n (fun q => fadd .f32 (f0 q) (reV n f0 f1 f2 f3 f4 f5 f6 (ce6 n f0 f1 f2 f3 f4 f5 f6).1)) (fun q => fadd .f32 (f1 q) (reV n f0 f1 f2 f3 f4 f5 f6 (ce6 n f0 f1 f2 f3 f4 f5 f6).2.1)) (fun q => fadd .f32 (f2 q) (reV n f0 f1 f2 f3 f4 f5 f6 (ce6 n f0 f1 f2 f3 f4 f5 f6).2.2.1)) (fun q => fadd .f32 (f3 q) (reV n f0 f1 f2 f3 f4 f5 f6 (ce6 n f0 f1 f2 f3 f4 f5 f6).2.2.2.1)) (fun q => fadd .f32 (f4 q) (reV n f0 f1 f2 f3 f4 f5 f6 (ce6 n f0 f1 f2 f3 f4 f5 f6).2.2.2.2.1)) (fun q => fadd .f32 (f5 q) (reV n f0 f1 f2 f3 f4 f5 f6 (ce6 n f0 f1 f2 f3 f4 f5 f6).2.2.2.2.2)) f6) _ (fun hA => re_mv hA) h.1 (fun _ => h.1) ⟨fun hk => hΦ _ (.tup [.one (.su 5 7 0 n false), .one (.tt true)], [none, none, none, none, some (.cols n [.fl .f32 fun q => fadd .f32 (f0 q) (reV n f0 f1 f2 f3 f4 f5 f6 (ce6 n f0 f1 f2 f3 f4 f5 f6).1), .fl .f32 fun q => fadd .f32 (f1 q) (reV n f0 f1 f2 f3 f4 f5 f6 (ce6 n f0 f1 f2 f3 f4 f5 f6).2.1), .fl .f32 fun q => fadd .f32 (f2 q) (reV n f0 f1 f2 f3 f4 f5 f6 (ce6 n f0 f1 f2 f3 f4 f5 f6).2.2.1), .fl .f32 fun q => fadd .f32 (f3 q) (reV n f0 f1 f2 f3 f4 f5 f6 (ce6 n f0 f1 f2 f3 f4 f5 f6).2.2.2.1), .fl .f32 fun q => fadd .f32 (f4 q) (reV n f0 f1 f2 f3 f4 f5 f6 (ce6 n f0 f1 f2 f3 f4 f5 f6).2.2.2.2.1), .fl .f32 fun q => fadd .f32 (f5 q) (reV n f0 f1 f2 f3 f4 f5 f6 (ce6 n f0 f1 f2 f3 f4 f5 f6).2.2.2.2.2), .fl .f32 f6]), none]) ⟨⟨BlLe.refl _, trivial⟩, fun _ _ hv => hv⟩ (h.2.1 hk), fun hk => h.2.2 hk⟩
  · exact Weak.fail _)).su.own

end Go.Proofs.Ytjcofjelfaoecaa
