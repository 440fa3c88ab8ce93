/-
  The exponential function. No conditions.
-/
import Derived.Test.YtdmcpgbnomhahaaSi
import Derived.Test.YtdmcpgbnomhahaaEb
namespace Go.Proofs.Ytdmcpgbnomhahaa
set_option linter.unusedVariables false
set_option linter.unusedSimpArgs false
open Go.RowKit

noncomputable def k_exw0 : Ctr Try.prog := (mkF Try.prog mix [k_inf] 112 Try.f112 (bodyOf Try.f112) Try.func112 (by kernel_rfl) (by kernel_rfl) [0, 2, 3, 4, 5, 6, 9, 12, 15, 19, 30, 198] 37 (by kernel_rfl) (by kernel_rfl)).mg
noncomputable def k_l01NarrowE : Ctr Try.prog := mkC Try.prog mix [] 103 Try.f103 (bodyOf Try.f103) Try.func103 (by kernel_rfl) (by kernel_rfl) []
noncomputable def k_ie0 : Ctr Try.prog := mkC Try.prog mix [k_inf] 95 Try.f95 (bodyOf Try.f95) Try.func95 (by kernel_rfl) (by kernel_rfl) []
theorem exw0_ev (x : Nat) (mem : Mem) : k_exw0.run [.one (.fl .f64 x)] mem = .leaf (.one (.fl .f64 (exW x)), []) := by kernel_rfl
noncomputable def k_exw : Ctr Try.prog := k_exw0.to (runF .f64 fun x => .leaf (.one (.fl .f64 (exW x)))) (weak_F (C := k_exw0) fun x mem _ => by
  rw [exw0_ev]; exact Weak.of_eq rfl)
noncomputable def k_l01Exp0 : Ctr Try.prog := mkC Try.prog mix [k_l01NarrowE, k_exw] 102 Try.f102 (bodyOf Try.f102) Try.func102 (by kernel_rfl) (by kernel_rfl) []
theorem l01Exp0_ev (x : Nat) (mem : Mem) : k_l01Exp0.run [.one (.fl .f32 x)] mem = .need (cvtFits .f64 .f32 (exW (fcvt .f32 .f64 x))) (.leaf (.one (.fl .f32 (exV x)), [])) := by kernel_rfl
noncomputable def k_l01Exp : Ctr Try.prog := k_l01Exp0.to (runF .f32 fun x => .need (exOk x) (.leaf (.one (.fl .f32 (exV x))))) (weak_F (C := k_l01Exp0) fun x mem _ => ⟨fun Φ hΦ h => by
  rw [l01Exp0_ev]; exact T.h_need ((exOk_iff x).1 h.1) h.2⟩)
def exI (x : Nat) : Nat := bif fgt .f32 x 1128792064 then fcvt .f64 .f32 9218868437227405312 else bif flt .f32 x 3276275712 then 0 else fcvt .f64 .f32 (exF (fdiv .f64 (fcvt .f32 .f64 x) 4643211215818981376))
theorem ie0_ev (x : Nat) (mem : Mem) : k_ie0.run [.one (.fl .f32 x)] mem = .ite (fgt .f32 x 1128792064) (.need (cvtFits .f64 .f32 9218868437227405312) (.leaf (.one (.fl .f32 (fcvt .f64 .f32 9218868437227405312)), []))) (.ite (flt .f32 x 3276275712) (.leaf (.one (.fl .f32 0), [])) (.need (cvtFits .f64 .f32 (exF (fdiv .f64 (fcvt .f32 .f64 x) 4643211215818981376))) (.leaf (.one (.fl .f32 (fcvt .f64 .f32 (exF (fdiv .f64 (fcvt .f32 .f64 x) 4643211215818981376)))), [])))) := by kernel_rfl
theorem exF_nan : exF (fdiv .f64 (qnan .f64) 4643211215818981376) = qnan .f64 := by
  have h1 : exP (fdiv .f64 (qnan .f64) 4643211215818981376) = qnan .f64 := by decide +kernel
  have h2 : sqr (qnan .f64) = qnan .f64 := by decide +kernel
  unfold exF
  rw [h1, h2, h2, h2, h2, h2, h2, h2, h2]
theorem sel_same (c1 c2 : Bool) (i z w e : Nat) (hz : fcvt .f64 .f32 z = w) : (cvtFits .f64 .f32 (bif c1 then i else bif c2 then z else e) = true → (bif c1 then true else bif c2 then true else cvtFits .f64 .f32 e) = true) ∧ (bif c1 then fcvt .f64 .f32 i else bif c2 then w else fcvt .f64 .f32 e) = fcvt .f64 .f32 (bif c1 then i else bif c2 then z else e) := by
  subst hz
  cases c1 <;> cases c2 <;> exact ⟨fun h => by first | rfl | exact h, rfl⟩
theorem exW_wide (x : Nat) : exW (fcvt .f32 .f64 x) = bif isNan .f32 x then qnan .f64 else bif fgt .f32 x 1128792064 then 9218868437227405312 else bif flt .f32 x 3276275712 then 0 else exF (fdiv .f64 (fcvt .f32 .f64 x) 4643211215818981376) := by
  have e1 := fgt_wide x 1128792064
  rw [show fcvt .f32 .f64 1128792064 = 4641240890982006784 by decide +kernel] at e1
  have e2 := flt_wide x 3276275712
  rw [show fcvt .f32 .f64 3276275712 = 13864612927836782592 by decide +kernel] at e2
  unfold exW
  rw [e1, e2, feq_wide, feq_self, Bool.not_not]
  cases hn : isNan .f32 x with
  | true => rw [cond_true, cond_true]; unfold fcvt; rw [hn, if_pos rfl]
  | false => rw [cond_false, cond_false]
theorem ie_same (x : Nat) : (cvtFits .f64 .f32 (exW (fcvt .f32 .f64 x)) = true → (bif fgt .f32 x 1128792064 then true else bif flt .f32 x 3276275712 then true else cvtFits .f64 .f32 (exF (fdiv .f64 (fcvt .f32 .f64 x) 4643211215818981376))) = true) ∧ exI x = exV x := by
  unfold exV exI
  rw [exW_wide]
  cases hn : isNan .f32 x with
  | true =>
    have g1 : fgt .f32 x 1128792064 = false := by rw [fgt_iff, hn]; rfl
    have g2 : flt .f32 x 3276275712 = false := by rw [flt_iff, hn]; rfl
    have e3 : fcvt .f32 .f64 x = qnan .f64 := by unfold fcvt; rw [hn, if_pos rfl]
    rw [g1, g2, e3, exF_nan]
    exact ⟨fun h => h, rfl⟩
  | false =>
    rw [cond_false]
    generalize exF (fdiv .f64 (fcvt .f32 .f64 x) 4643211215818981376) = e
    exact sel_same _ _ _ _ _ e (by decide +kernel)
noncomputable def k_ExpNumber : Ctr Try.prog := k_ie0.to (runF .f32 fun x => .need (exOk x) (.leaf (.one (.fl .f32 (exV x))))) (weak_F (C := k_ie0) fun x mem _ => ⟨fun Φ hΦ h => by
  rw [ie0_ev]
  obtain ⟨hk, he⟩ := ie_same x
  have hk := hk ((exOk_iff x).1 h.1)
  unfold exI at he
  have key : ∀ z, z = exV x → Φ (.one (.fl .f32 z), []) := fun z hz => by rw [hz]; exact h.2
  refine T.h_ite (fun h1 => T.h_need (by decide +kernel) (T.h_leaf (key _ ?_))) (fun h1 => T.h_ite (fun h2 => T.h_leaf (key _ ?_)) (fun h2 => T.h_need ?_ (T.h_leaf (key _ ?_))))
  · rw [h1, cond_true] at he; exact he
  · rw [h1, h2, cond_false, cond_true] at he; exact he
  · rw [h1, h2, cond_false, cond_false] at hk; exact hk
  · rw [h1, h2, cond_false, cond_false] at he; exact he⟩)

end Go.Proofs.Ytdmcpgbnomhahaa
