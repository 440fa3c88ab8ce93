/-
  StoreEntry: both functions in the same words. No conditions.
-/
import Derived.Test.YtdmcpgbnomhahaaSy
namespace Go.Proofs.Ytdmcpgbnomhahaa
set_option linter.unusedVariables false
set_option linter.unusedSimpArgs false
open Go.RowKit

noncomputable def k_sSe0 : Ctr Try.prog := mkF0 Try.prog mix [k_en_sEntry, k_sSy] 10 Try.f10 (bodyOf Try.f10) Try.func10 (by kernel_rfl) (by kernel_rfl) [0, 1, 2, 3, 5, 199] 7 (by kernel_rfl) (by kernel_rfl) []
noncomputable def k_iSe0 : Ctr Try.prog := mkF0 Try.prog mix [k_iVe, k_iSy] 12 Try.f12 (bodyOf Try.f12) Try.func12 (by kernel_rfl) (by kernel_rfl) [0, 1, 2, 3, 6, 199] 9 (by kernel_rfl) (by kernel_rfl) []
theorem bnot_t {b : Bool} (h : (!b) = true) : b = false := by cases b <;> simp_all
theorem bnot_f {b : Bool} (h : (!b) = false) : b = true := by cases b <;> simp_all
def run_Se : List AV → Mem → T Res
  | [.agg [.str s, .fl .f32 x0, .fl .f32 x1, .fl .f32 x2, .fl .f32 x3, .fl .f32 x4, .fl .f32 x5, .fl .f32 x6]], [] => .need (decide (s.size ≤ 1048576)) (.ite (entOK s x0 x1 x2 x3 x4 x5 x6) (.leaf (.tup [.one (.str (storeV s x0 x1 x2 x3 x4 x5 x6)), .one (.tt true)], [])) (.leaf (.tup [.one (.str ⟨#[]⟩), .one (.tt false)], [])))
  | _, _ => .fail
theorem sSe0_ev (s : ByteArray) (x0 x1 x2 x3 x4 x5 x6 : Nat) : k_sSe0.run [.agg [.str s, .fl .f32 x0, .fl .f32 x1, .fl .f32 x2, .fl .f32 x3, .fl .f32 x4, .fl .f32 x5, .fl .f32 x6]] [] = .need (decide (s.size ≤ 1099511627776)) (.ite (!entOK s x0 x1 x2 x3 x4 x5 x6) (.leaf (.tup [.one (.str ⟨#[]⟩), .one (.tt false)], [])) (.need (decide (s.size ≤ 1048576)) (.leaf (.tup [.one (.str (storeV s x0 x1 x2 x3 x4 x5 x6)), .one (.tt true)], [])))) := by kernel_rfl
noncomputable def k_sSe : Ctr Try.prog := (k_sSe0.to run_Se (by
  intro args mem hF
  unfold run_Se
  split
  · rename_i s x0 x1 x2 x3 x4 x5 x6
    rw [sSe0_ev]
    constructor
    intro Φ hΦ h
    have hs : s.size ≤ 1048576 := of_decide_eq_true h.1
    have hl := h.2
    refine T.h_need (decide_eq_true (by omega)) (T.h_ite (fun hc => T.h_leaf (hl.2 (bnot_t hc))) (fun hc => T.h_need h.1 (T.h_leaf (hl.1 (bnot_f hc)))))
  · exact Weak.fail _)).own
theorem iSe0_ev (s : ByteArray) (x0 x1 x2 x3 x4 x5 x6 : Nat) : k_iSe0.run [.agg [.str s, .fl .f32 x0, .fl .f32 x1, .fl .f32 x2, .fl .f32 x3, .fl .f32 x4, .fl .f32 x5, .fl .f32 x6]] [] = .need (decide (s.size ≤ 1099511627776)) (.ite (!entOK s x0 x1 x2 x3 x4 x5 x6) (.leaf (.tup [.one (.str ⟨#[]⟩), .one (.tt false)], [])) (.need (decide (s.size ≤ 1048576)) (.leaf (.tup [.one (.str (storeV s x0 x1 x2 x3 x4 x5 x6)), .one (.tt true)], [])))) := by kernel_rfl
noncomputable def k_iSe : Ctr Try.prog := (k_iSe0.to run_Se (by
  intro args mem hF
  unfold run_Se
  split
  · rename_i s x0 x1 x2 x3 x4 x5 x6
    rw [iSe0_ev]
    constructor
    intro Φ hΦ h
    have hs : s.size ≤ 1048576 := of_decide_eq_true h.1
    have hl := h.2
    refine T.h_need (decide_eq_true (by omega)) (T.h_ite (fun hc => T.h_leaf (hl.2 (bnot_t hc))) (fun hc => T.h_need h.1 (T.h_leaf (hl.1 (bnot_f hc)))))
  · exact Weak.fail _)).own

end Go.Proofs.Ytdmcpgbnomhahaa
