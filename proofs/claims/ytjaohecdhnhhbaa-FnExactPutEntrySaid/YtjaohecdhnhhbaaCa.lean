/-
  Two rows laid one behind the other: the tests and limits on the way. No conditions.
-/
import Derived.Test.YtjaohecdhnhhbaaLs
namespace Go.Proofs.Ytjaohecdhnhhbaa
set_option linter.unusedVariables false
set_option linter.unusedSimpArgs false
open Go.RowKit

theorem bnot_t {b : Bool} (h : (!b) = true) : b = false := by cases b <;> simp_all
theorem bnot_f {b : Bool} (h : (!b) = false) : b = true := by cases b <;> simp_all
theorem dbGrow {n : Nat} {cs cs' : List Col} {k : Nat} {t : TypeId} (h : ∀ i, i < n → colsAt cs i = colsAt cs' i) (hl : cs'.length = cs.length) : BlLe (.grow n cs k t) (.cols n cs') :=
  fun ρ w b o hb => BlLe.cols_eq h hl ρ w b o (BlLe.grown (Nat.le_refl n) ρ w b o hb)
theorem cat_sh {Φ : Res → Prop} {S1 S0 S : Int} {L1 L2 I1 I2 m : Nat} {row nil : Res} (h1 : S1 = (L1 : Int)) (h0 : S0 = ((L1 + L2 : Nat) : Int)) (hS : S = ((L1 + L2 : Nat) : Int)) (hI1 : I1 + L1 ≤ m) (hI2 : I2 + L2 ≤ m) (hb : L1 + L2 ≤ 1048576)
    (hr : 0 < L1 + L2 → Φ row) (hn : L1 + L2 = 0 → Φ nil) : ((T.need (true) (T.need (true) (T.ite (decide (S1 < 0)) T.fail (T.need (true) (T.need (true) (T.ite (decide (S0 < 0)) T.fail (T.ite (decide (S0 < 0)) T.fail (T.ite (decide (0 < S)) (T.need (true) (T.need (true) (T.need (true) (T.need (decide (0 < S ∧ S ≤ 2 ^ 30)) (T.need (decide (0 ≤ ((S).toNat : Int) ∧ ((S).toNat : Int) ≤ ((S).toNat : Int))) (T.need (true) (T.need (true) (T.need (true) (T.need (true) (T.need (true) (T.need (decide (I1 + L1 ≤ m)) (T.need (decide (0 + L1 ≤ 1073741824)) (T.need (true) (T.need (true) (T.need (decide (0 + L1 ≤ 0 + L1)) (T.need (decide (I2 + L2 ≤ m)) (T.need (decide (0 + L1 + L2 ≤ 1073741824)) (T.leaf row)))))))))))))))))) (T.need (true) (T.need (true) (T.need (decide (L1 = 0)) (T.need (true) (T.need (true) (T.need (decide (L2 = 0)) (T.leaf nil))))))))))))))) : T Res).holds Φ := by
  subst h1; subst h0; subst hS
  refine T.h_need rfl (T.h_need rfl (T.h_ite (fun h => ?_) (fun _ => T.h_need rfl (T.h_need rfl (T.h_ite (fun h => ?_) (fun _ => T.h_ite (fun h => ?_) (fun _ => T.h_ite (fun h => ?_) (fun h => ?_))))))))
  · have := of_decide_eq_true h; omega
  · have := of_decide_eq_true h; omega
  · have := of_decide_eq_true h; omega
  · have h := of_decide_eq_true h
    refine T.h_need rfl (T.h_need rfl (T.h_need rfl (T.h_need (decide_eq_true ⟨h, ?_⟩) (T.h_need (decide_eq_true ⟨by omega, by omega⟩) (T.h_need rfl (T.h_need rfl (T.h_need rfl (T.h_need rfl (T.h_need rfl (T.h_need (decide_eq_true hI1) (T.h_need (decide_eq_true (by omega)) (T.h_need rfl (T.h_need rfl (T.h_need (decide_eq_true (Nat.le_refl _)) (T.h_need (decide_eq_true hI2) (T.h_need (decide_eq_true (by omega)) (T.h_leaf (hr (by omega)))))))))))))))))))
    have : (2 : Int) ^ 30 = 1073741824 := by decide
    omega
  · have h := of_decide_eq_false h
    exact T.h_need rfl (T.h_need rfl (T.h_need (decide_eq_true (by omega)) (T.h_need rfl (T.h_need rfl (T.h_need (decide_eq_true (by omega)) (T.h_leaf (hn (by omega))))))))

end Go.Proofs.Ytjaohecdhnhhbaa
