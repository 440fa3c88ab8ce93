/-
  SinkLong: both functions. No conditions.
-/
import Derived.Test.YtdmcpgbnomhahaaSn
namespace Go.Proofs.Ytdmcpgbnomhahaa
set_option linter.unusedVariables false
set_option linter.unusedSimpArgs false
open Go.RowKit

theorem fk1 : k_sk_i_SinkLong.f = 23 := by kernel_rfl
theorem fk2 : k_sw_i_SinkLong.f = 23 := by kernel_rfl
noncomputable def k_iSink : Ctr Try.prog := Ctr.two k_sk_i_SinkLong k_sw_i_SinkLong (fk2.trans fk1.symm) run_iSink (by
  intro args mem hF Φ hΦ h
  unfold run_iSink at h
  split at h
  · rename_i ma ra sp stt lo dr ba sc ti
    have h : Φ (.tup [.one (.fl .f32 (bif skAll ma ra sp stt lo dr ba sc ti then skX ma ra lo dr ba sc ti else 0)), .one (.bo (skAll ma ra sp stt lo dr ba sc ti))], []) := h
    by_cases hT : skTs ma ra sp stt lo dr ba sc ti = true
    · refine ⟨[.agg [.fl .f32 ma, .fl .f32 ra, .fl .f32 sp, .fl .f32 stt], .one (.fl .f32 lo), .one (.fl .f32 dr), .one (.fl .f32 ba), .one (.fl .f32 sc), .one (.fl .f32 ti)], mem, fun _ _ h => h, MemLe.refl _, Or.inl ?_⟩
      rw [iSink_ev]
      exact iSinkA hT h
    · have hT : skTs ma ra sp stt lo dr ba sc ti = false := by simpa using hT
      rw [skAll_ts hT] at h
      refine ⟨[.agg [.fl .f32 ma, .fl .f32 ra, .fl .f32 sp, .fl .f32 stt], .one (.fl .f32 lo), .one (.fl .f32 dr), .one (.fl .f32 ba), .one (.fl .f32 sc), .one (.fl .f32 ti)], mem, fun _ _ h => h, MemLe.refl _, Or.inr ?_⟩
      rw [iSinkW_ev]
      exact iSinkB hT hΦ h
  · exact h.elim)
noncomputable def k_sSn0 : Ctr Try.prog := mkF0 Try.prog mix [k_sk_s_l06Air, k_l01Finite, k_sSink] 21 Try.f21 (bodyOf Try.f21) Try.func21 (by kernel_rfl) (by kernel_rfl) [0, 1, 2, 3, 4, 5, 6, 12, 13, 14, 15, 33, 44, 199] 46 (by kernel_rfl) (by kernel_rfl) []
theorem bif_and (a b : Bool) : (bif a then b else false) = (a && b) := by cases a <;> rfl
theorem air_b (ma ra sp stt lo dr ba sc ti : Nat) : (bif vb ma ra sp stt then bif bif fin .f32 dr then fge .f32 dr 0 else false then bif bif fin .f32 ba then fge .f32 ba 0 else false then bif bif fin .f32 sc then fgt .f32 sc 0 else false then bif fin .f32 ti then fge .f32 ti 0 else false else false else false else false else false) = airB ma ra sp stt dr ba sc ti := by
  unfold airB massB pos
  simp only [bif_and]
theorem sSn0_ev (ma ra sp stt lo dr ba sc ti : Nat) : k_sSn0.run [.agg [.fl .f32 ma, .fl .f32 ra, .fl .f32 sp, .fl .f32 stt], .one (.fl .f32 lo), .one (.fl .f32 dr), .one (.fl .f32 ba), .one (.fl .f32 sc), .one (.fl .f32 ti)] [] = .ite (!(bif vb ma ra sp stt then bif bif fin .f32 dr then fge .f32 dr 0 else false then bif bif fin .f32 ba then fge .f32 ba 0 else false then bif bif fin .f32 sc then fgt .f32 sc 0 else false then bif fin .f32 ti then fge .f32 ti 0 else false else false else false else false else false)) (.leaf (.tup [.one (.fl .f32 0), .one (.tt false)], [])) (.ite (!fin .f32 lo) (.leaf (.tup [.one (.fl .f32 0), .one (.tt false)], [])) (.ite (!fgt .f32 lo ra) (.leaf (.tup [.one (.fl .f32 0), .one (.tt false)], [])) (.need (exOk (skA ra lo sc)) (.ite (!skOk ma ra lo dr ba sc ti) (.leaf (.tup [.one (.fl .f32 0), .one (.tt false)], [])) (.leaf (.tup [.one (.fl .f32 (bif fin .f32 (skX ma ra lo dr ba sc ti) then skX ma ra lo dr ba sc ti else 0)), .one (.tt true)], [])))))) := by kernel_rfl
theorem bn_t {b : Bool} (h : (!b) = true) : b = false := by cases b <;> simp_all
theorem bn_f {b : Bool} (h : (!b) = false) : b = true := by cases b <;> simp_all
theorem le2_tt (x : Nat) : le2 ((.tup [.one (.fl .f32 x), .one (.tt true)], []) : Res) ((.tup [.one (.fl .f32 x), .one (.bo true)], []) : Res) := ⟨trivial, tup_le ⟨fun _ _ h => h, fun _ _ h => h, trivial⟩⟩
theorem sSnW {ma ra sp stt lo dr ba sc ti : Nat} {Φ : Res → Prop} (hΦ : ∀ r s, le2 r s → Φ s → Φ r) (h : Φ (.tup [.one (.fl .f32 (bif skAll ma ra sp stt lo dr ba sc ti then skX ma ra lo dr ba sc ti else 0)), .one (.bo (skAll ma ra sp stt lo dr ba sc ti))], [])) :
    (T.ite (!airB ma ra sp stt dr ba sc ti) (.leaf ((.tup [.one (.fl .f32 0), .one (.tt false)], []) : Res)) (.ite (!fin .f32 lo) (.leaf (.tup [.one (.fl .f32 0), .one (.tt false)], [])) (.ite (!fgt .f32 lo ra) (.leaf (.tup [.one (.fl .f32 0), .one (.tt false)], [])) (.need (exOk (skA ra lo sc)) (.ite (!skOk ma ra lo dr ba sc ti) (.leaf (.tup [.one (.fl .f32 0), .one (.tt false)], [])) (.leaf (.tup [.one (.fl .f32 (bif fin .f32 (skX ma ra lo dr ba sc ti) then skX ma ra lo dr ba sc ti else 0)), .one (.tt true)], []))))))).holds Φ := by
  have z : skAll ma ra sp stt lo dr ba sc ti = false → Φ (.tup [.one (.fl .f32 0), .one (.tt false)], []) := fun hA => by
    rw [hA] at h
    exact hΦ _ _ (le2_tf 0) h
  refine T.h_ite (fun hc => T.h_leaf (z (by unfold skAll; rw [bn_t hc]; rfl))) (fun hc => T.h_ite (fun hc2 => T.h_leaf (z (by unfold skAll; rw [bn_f hc, bn_t hc2]; rfl))) (fun hc2 => T.h_ite (fun hc3 => T.h_leaf (z (by unfold skAll; rw [bn_f hc, bn_f hc2, bn_t hc3]; rfl))) (fun hc3 => T.h_need ?_ (T.h_ite (fun hc4 => T.h_leaf (z (by unfold skAll; rw [bn_f hc, bn_f hc2, bn_f hc3, bn_t hc4]; rfl))) (fun hc4 => T.h_leaf ?_)))))
  · have hT : skTs ma ra sp stt lo dr ba sc ti = true := by unfold skTs; rw [bn_f hc, bn_f hc2, bn_f hc3]; rfl
    have hq := air_of hT
    exact skA_ok hq.1 hq.2.1 hq.2.2.1 hq.2.2.2
  · have hA : skAll ma ra sp stt lo dr ba sc ti = true := by unfold skAll; rw [bn_f hc, bn_f hc2, bn_f hc3, bn_f hc4]; rfl
    rw [hA] at h
    have hX : fin .f32 (skX ma ra lo dr ba sc ti) = true := by
      have := bn_f hc4
      unfold skOk at this
      simp only [Bool.and_eq_true] at this
      exact this.1
    rw [hX]
    exact hΦ _ _ (le2_tt _) h
noncomputable def run_sSn : List AV → Mem → T Res
  | [.agg [.fl .f32 ma, .fl .f32 ra, .fl .f32 sp, .fl .f32 stt], .one (.fl .f32 lo), .one (.fl .f32 dr), .one (.fl .f32 ba), .one (.fl .f32 sc), .one (.fl .f32 ti)], [] => .leaf (.tup [.one (.fl .f32 (bif skAll ma ra sp stt lo dr ba sc ti then skX ma ra lo dr ba sc ti else 0)), .one (.bo (skAll ma ra sp stt lo dr ba sc ti))], [])
  | _, _ => .fail
noncomputable def k_sSn : Ctr Try.prog := (k_sSn0.to run_sSn (by
  intro args mem hF
  unfold run_sSn
  split
  · rename_i ma ra sp stt lo dr ba sc ti
    rw [sSn0_ev, air_b ma ra sp stt lo dr ba sc ti]
    constructor
    intro Φ hΦ h
    exact sSnW hΦ h
  · exact Weak.fail _)).own

end Go.Proofs.Ytdmcpgbnomhahaa
