/-
  The mass of bodies. No conditions.
-/
import Derived.Test.YtdkhpadbpeapjaaAi
namespace Go.Proofs.Ytdkhpadbpeapjaa
set_option linter.unusedVariables false
set_option linter.unusedSimpArgs false
open Go.RowKit

def massV (f : Nat → Nat) : Nat → Nat
  | 0 => 0
  | n + 1 => fadd .f32 (massV f n) (f n)

noncomputable def k_l02Mass0 : Ctr Try.prog := (mkC Try.prog mix [] 49 Try.f49 (bodyOf Try.f49) Try.func49 (by kernel_rfl) (by kernel_rfl) []).cl
theorem l02Mass_0 (f0 : Nat → Nat) (f1 : Nat → Nat) (f2 : Nat → Nat) (f3 : Nat → Nat) (f4 : Nat → Nat) (f5 : Nat → Nat) (f6 : Nat → Nat) : k_l02Mass0.run [.one (.su 0 7 0 0 true)] [some (.cols 0 [.fl .f32 f0, .fl .f32 f1, .fl .f32 f2, .fl .f32 f3, .fl .f32 f4, .fl .f32 f5, .fl .f32 f6])] = .leaf (.one (.fl .f32 (massV f6 0)), []) := by kernel_rfl
theorem l02Mass_1 (f0 : Nat → Nat) (f1 : Nat → Nat) (f2 : Nat → Nat) (f3 : Nat → Nat) (f4 : Nat → Nat) (f5 : Nat → Nat) (f6 : Nat → Nat) : k_l02Mass0.run [.one (.su 0 7 0 1 true)] [some (.cols 1 [.fl .f32 f0, .fl .f32 f1, .fl .f32 f2, .fl .f32 f3, .fl .f32 f4, .fl .f32 f5, .fl .f32 f6])] = .leaf (.one (.fl .f32 (massV f6 1)), []) := by kernel_rfl
theorem l02Mass_2 (f0 : Nat → Nat) (f1 : Nat → Nat) (f2 : Nat → Nat) (f3 : Nat → Nat) (f4 : Nat → Nat) (f5 : Nat → Nat) (f6 : Nat → Nat) : k_l02Mass0.run [.one (.su 0 7 0 2 true)] [some (.cols 2 [.fl .f32 f0, .fl .f32 f1, .fl .f32 f2, .fl .f32 f3, .fl .f32 f4, .fl .f32 f5, .fl .f32 f6])] = .leaf (.one (.fl .f32 (massV f6 2)), []) := by kernel_rfl
theorem l02Mass_3 (f0 : Nat → Nat) (f1 : Nat → Nat) (f2 : Nat → Nat) (f3 : Nat → Nat) (f4 : Nat → Nat) (f5 : Nat → Nat) (f6 : Nat → Nat) : k_l02Mass0.run [.one (.su 0 7 0 3 true)] [some (.cols 3 [.fl .f32 f0, .fl .f32 f1, .fl .f32 f2, .fl .f32 f3, .fl .f32 f4, .fl .f32 f5, .fl .f32 f6])] = .leaf (.one (.fl .f32 (massV f6 3)), []) := by kernel_rfl
theorem l02Mass_4 (f0 : Nat → Nat) (f1 : Nat → Nat) (f2 : Nat → Nat) (f3 : Nat → Nat) (f4 : Nat → Nat) (f5 : Nat → Nat) (f6 : Nat → Nat) : k_l02Mass0.run [.one (.su 0 7 0 4 true)] [some (.cols 4 [.fl .f32 f0, .fl .f32 f1, .fl .f32 f2, .fl .f32 f3, .fl .f32 f4, .fl .f32 f5, .fl .f32 f6])] = .leaf (.one (.fl .f32 (massV f6 4)), []) := by kernel_rfl
theorem l02Mass_5 (f0 : Nat → Nat) (f1 : Nat → Nat) (f2 : Nat → Nat) (f3 : Nat → Nat) (f4 : Nat → Nat) (f5 : Nat → Nat) (f6 : Nat → Nat) : k_l02Mass0.run [.one (.su 0 7 0 5 true)] [some (.cols 5 [.fl .f32 f0, .fl .f32 f1, .fl .f32 f2, .fl .f32 f3, .fl .f32 f4, .fl .f32 f5, .fl .f32 f6])] = .leaf (.one (.fl .f32 (massV f6 5)), []) := by kernel_rfl
theorem l02Mass_6 (f0 : Nat → Nat) (f1 : Nat → Nat) (f2 : Nat → Nat) (f3 : Nat → Nat) (f4 : Nat → Nat) (f5 : Nat → Nat) (f6 : Nat → Nat) : k_l02Mass0.run [.one (.su 0 7 0 6 true)] [some (.cols 6 [.fl .f32 f0, .fl .f32 f1, .fl .f32 f2, .fl .f32 f3, .fl .f32 f4, .fl .f32 f5, .fl .f32 f6])] = .leaf (.one (.fl .f32 (massV f6 6)), []) := by kernel_rfl
theorem l02Mass_7 (f0 : Nat → Nat) (f1 : Nat → Nat) (f2 : Nat → Nat) (f3 : Nat → Nat) (f4 : Nat → Nat) (f5 : Nat → Nat) (f6 : Nat → Nat) : k_l02Mass0.run [.one (.su 0 7 0 7 true)] [some (.cols 7 [.fl .f32 f0, .fl .f32 f1, .fl .f32 f2, .fl .f32 f3, .fl .f32 f4, .fl .f32 f5, .fl .f32 f6])] = .leaf (.one (.fl .f32 (massV f6 7)), []) := by kernel_rfl
theorem l02Mass_8 (f0 : Nat → Nat) (f1 : Nat → Nat) (f2 : Nat → Nat) (f3 : Nat → Nat) (f4 : Nat → Nat) (f5 : Nat → Nat) (f6 : Nat → Nat) : k_l02Mass0.run [.one (.su 0 7 0 8 true)] [some (.cols 8 [.fl .f32 f0, .fl .f32 f1, .fl .f32 f2, .fl .f32 f3, .fl .f32 f4, .fl .f32 f5, .fl .f32 f6])] = .leaf (.one (.fl .f32 (massV f6 8)), []) := by kernel_rfl
theorem l02Mass_9 (f0 : Nat → Nat) (f1 : Nat → Nat) (f2 : Nat → Nat) (f3 : Nat → Nat) (f4 : Nat → Nat) (f5 : Nat → Nat) (f6 : Nat → Nat) : k_l02Mass0.run [.one (.su 0 7 0 9 true)] [some (.cols 9 [.fl .f32 f0, .fl .f32 f1, .fl .f32 f2, .fl .f32 f3, .fl .f32 f4, .fl .f32 f5, .fl .f32 f6])] = .leaf (.one (.fl .f32 (massV f6 9)), []) := by kernel_rfl
theorem l02Mass_10 (f0 : Nat → Nat) (f1 : Nat → Nat) (f2 : Nat → Nat) (f3 : Nat → Nat) (f4 : Nat → Nat) (f5 : Nat → Nat) (f6 : Nat → Nat) : k_l02Mass0.run [.one (.su 0 7 0 10 true)] [some (.cols 10 [.fl .f32 f0, .fl .f32 f1, .fl .f32 f2, .fl .f32 f3, .fl .f32 f4, .fl .f32 f5, .fl .f32 f6])] = .leaf (.one (.fl .f32 (massV f6 10)), []) := by kernel_rfl
theorem l02Mass_11 (f0 : Nat → Nat) (f1 : Nat → Nat) (f2 : Nat → Nat) (f3 : Nat → Nat) (f4 : Nat → Nat) (f5 : Nat → Nat) (f6 : Nat → Nat) : k_l02Mass0.run [.one (.su 0 7 0 11 true)] [some (.cols 11 [.fl .f32 f0, .fl .f32 f1, .fl .f32 f2, .fl .f32 f3, .fl .f32 f4, .fl .f32 f5, .fl .f32 f6])] = .leaf (.one (.fl .f32 (massV f6 11)), []) := by kernel_rfl
theorem l02Mass_12 (f0 : Nat → Nat) (f1 : Nat → Nat) (f2 : Nat → Nat) (f3 : Nat → Nat) (f4 : Nat → Nat) (f5 : Nat → Nat) (f6 : Nat → Nat) : k_l02Mass0.run [.one (.su 0 7 0 12 true)] [some (.cols 12 [.fl .f32 f0, .fl .f32 f1, .fl .f32 f2, .fl .f32 f3, .fl .f32 f4, .fl .f32 f5, .fl .f32 f6])] = .leaf (.one (.fl .f32 (massV f6 12)), []) := by kernel_rfl
theorem l02Mass_13 (f0 : Nat → Nat) (f1 : Nat → Nat) (f2 : Nat → Nat) (f3 : Nat → Nat) (f4 : Nat → Nat) (f5 : Nat → Nat) (f6 : Nat → Nat) : k_l02Mass0.run [.one (.su 0 7 0 13 true)] [some (.cols 13 [.fl .f32 f0, .fl .f32 f1, .fl .f32 f2, .fl .f32 f3, .fl .f32 f4, .fl .f32 f5, .fl .f32 f6])] = .leaf (.one (.fl .f32 (massV f6 13)), []) := by kernel_rfl
theorem l02Mass_14 (f0 : Nat → Nat) (f1 : Nat → Nat) (f2 : Nat → Nat) (f3 : Nat → Nat) (f4 : Nat → Nat) (f5 : Nat → Nat) (f6 : Nat → Nat) : k_l02Mass0.run [.one (.su 0 7 0 14 true)] [some (.cols 14 [.fl .f32 f0, .fl .f32 f1, .fl .f32 f2, .fl .f32 f3, .fl .f32 f4, .fl .f32 f5, .fl .f32 f6])] = .leaf (.one (.fl .f32 (massV f6 14)), []) := by kernel_rfl
theorem l02Mass_15 (f0 : Nat → Nat) (f1 : Nat → Nat) (f2 : Nat → Nat) (f3 : Nat → Nat) (f4 : Nat → Nat) (f5 : Nat → Nat) (f6 : Nat → Nat) : k_l02Mass0.run [.one (.su 0 7 0 15 true)] [some (.cols 15 [.fl .f32 f0, .fl .f32 f1, .fl .f32 f2, .fl .f32 f3, .fl .f32 f4, .fl .f32 f5, .fl .f32 f6])] = .leaf (.one (.fl .f32 (massV f6 15)), []) := by kernel_rfl
theorem l02Mass_16 (f0 : Nat → Nat) (f1 : Nat → Nat) (f2 : Nat → Nat) (f3 : Nat → Nat) (f4 : Nat → Nat) (f5 : Nat → Nat) (f6 : Nat → Nat) : k_l02Mass0.run [.one (.su 0 7 0 16 true)] [some (.cols 16 [.fl .f32 f0, .fl .f32 f1, .fl .f32 f2, .fl .f32 f3, .fl .f32 f4, .fl .f32 f5, .fl .f32 f6])] = .leaf (.one (.fl .f32 (massV f6 16)), []) := by kernel_rfl

theorem l02Mass_all (n : Nat) (f0 : Nat → Nat) (f1 : Nat → Nat) (f2 : Nat → Nat) (f3 : Nat → Nat) (f4 : Nat → Nat) (f5 : Nat → Nat) (f6 : Nat → Nat) (h : n ≤ 16) : k_l02Mass0.run [.one (.su 0 7 0 n true)] [some (.cols n [.fl .f32 f0, .fl .f32 f1, .fl .f32 f2, .fl .f32 f3, .fl .f32 f4, .fl .f32 f5, .fl .f32 f6])] = .leaf (.one (.fl .f32 (massV f6 n)), []) := by
  have hn : n = 0 ∨ n = 1 ∨ n = 2 ∨ n = 3 ∨ n = 4 ∨ n = 5 ∨ n = 6 ∨ n = 7 ∨ n = 8 ∨ n = 9 ∨ n = 10 ∨ n = 11 ∨ n = 12 ∨ n = 13 ∨ n = 14 ∨ n = 15 ∨ n = 16 := by omega
  rcases hn with rfl | rfl | rfl | rfl | rfl | rfl | rfl | rfl | rfl | rfl | rfl | rfl | rfl | rfl | rfl | rfl | rfl
  · exact l02Mass_0 f0 f1 f2 f3 f4 f5 f6
  · exact l02Mass_1 f0 f1 f2 f3 f4 f5 f6
  · exact l02Mass_2 f0 f1 f2 f3 f4 f5 f6
  · exact l02Mass_3 f0 f1 f2 f3 f4 f5 f6
  · exact l02Mass_4 f0 f1 f2 f3 f4 f5 f6
  · exact l02Mass_5 f0 f1 f2 f3 f4 f5 f6
  · exact l02Mass_6 f0 f1 f2 f3 f4 f5 f6
  · exact l02Mass_7 f0 f1 f2 f3 f4 f5 f6
  · exact l02Mass_8 f0 f1 f2 f3 f4 f5 f6
  · exact l02Mass_9 f0 f1 f2 f3 f4 f5 f6
  · exact l02Mass_10 f0 f1 f2 f3 f4 f5 f6
  · exact l02Mass_11 f0 f1 f2 f3 f4 f5 f6
  · exact l02Mass_12 f0 f1 f2 f3 f4 f5 f6
  · exact l02Mass_13 f0 f1 f2 f3 f4 f5 f6
  · exact l02Mass_14 f0 f1 f2 f3 f4 f5 f6
  · exact l02Mass_15 f0 f1 f2 f3 f4 f5 f6
  · exact l02Mass_16 f0 f1 f2 f3 f4 f5 f6

def run_l02Mass : List AV → Mem → T Res
  | [.one (.su 0 7 0 n kn)], [some (.cols m [.fl .f32 f0, .fl .f32 f1, .fl .f32 f2, .fl .f32 f3, .fl .f32 f4, .fl .f32 f5, .fl .f32 f6])] => .need (decide (n ≤ m)) (.need (decide (n ≤ 16)) (.leaf (.one (.fl .f32 (massV f6 n)), [])))
  | _, _ => .fail
noncomputable def k_l02Mass : Ctr Try.prog := (k_l02Mass0.re run_l02Mass (by
  intro args mem _ Φ hΦ h
  unfold run_l02Mass at h
  split at h
  · rename_i n kn m f0 f1 f2 f3 f4 f5 f6 _
    have hm : n ≤ m := of_decide_eq_true h.1
    have h16 : n ≤ 16 := of_decide_eq_true h.2.1
    have h2 : Φ (.one (.fl .f32 (massV f6 n)), []) := h.2.2
    refine ⟨[.one (.su 0 7 0 n true)], [some (.cols n [.fl .f32 f0, .fl .f32 f1, .fl .f32 f2, .fl .f32 f3, .fl .f32 f4, .fl .f32 f5, .fl .f32 f6])], fun ρ vals hv => known_su ρ vals hv, ⟨BlLe.cols_le hm, trivial⟩, ?_⟩
    rw [l02Mass_all _ _ _ _ _ _ _ _ h16]
    exact T.h_leaf h2
  · exact h.elim)).su.own

noncomputable def k_massOf0 : Ctr Try.prog := (mkC Try.prog mix [] 53 Try.f53 (bodyOf Try.f53) Try.func53 (by kernel_rfl) (by kernel_rfl) []).cl
theorem massOf_0 (f0 : Nat → Nat) (f1 : Nat → Nat) (f2 : Nat → Nat) (f3 : Nat → Nat) (f4 : Nat → Nat) (f5 : Nat → Nat) (f6 : Nat → Nat) : k_massOf0.run [.one (.su 0 7 0 0 true)] [some (.cols 0 [.fl .f32 f0, .fl .f32 f1, .fl .f32 f2, .fl .f32 f3, .fl .f32 f4, .fl .f32 f5, .fl .f32 f6])] = .leaf (.one (.fl .f32 (massV f6 0)), []) := by kernel_rfl
theorem massOf_1 (f0 : Nat → Nat) (f1 : Nat → Nat) (f2 : Nat → Nat) (f3 : Nat → Nat) (f4 : Nat → Nat) (f5 : Nat → Nat) (f6 : Nat → Nat) : k_massOf0.run [.one (.su 0 7 0 1 true)] [some (.cols 1 [.fl .f32 f0, .fl .f32 f1, .fl .f32 f2, .fl .f32 f3, .fl .f32 f4, .fl .f32 f5, .fl .f32 f6])] = .leaf (.one (.fl .f32 (massV f6 1)), []) := by kernel_rfl
theorem massOf_2 (f0 : Nat → Nat) (f1 : Nat → Nat) (f2 : Nat → Nat) (f3 : Nat → Nat) (f4 : Nat → Nat) (f5 : Nat → Nat) (f6 : Nat → Nat) : k_massOf0.run [.one (.su 0 7 0 2 true)] [some (.cols 2 [.fl .f32 f0, .fl .f32 f1, .fl .f32 f2, .fl .f32 f3, .fl .f32 f4, .fl .f32 f5, .fl .f32 f6])] = .leaf (.one (.fl .f32 (massV f6 2)), []) := by kernel_rfl
theorem massOf_3 (f0 : Nat → Nat) (f1 : Nat → Nat) (f2 : Nat → Nat) (f3 : Nat → Nat) (f4 : Nat → Nat) (f5 : Nat → Nat) (f6 : Nat → Nat) : k_massOf0.run [.one (.su 0 7 0 3 true)] [some (.cols 3 [.fl .f32 f0, .fl .f32 f1, .fl .f32 f2, .fl .f32 f3, .fl .f32 f4, .fl .f32 f5, .fl .f32 f6])] = .leaf (.one (.fl .f32 (massV f6 3)), []) := by kernel_rfl
theorem massOf_4 (f0 : Nat → Nat) (f1 : Nat → Nat) (f2 : Nat → Nat) (f3 : Nat → Nat) (f4 : Nat → Nat) (f5 : Nat → Nat) (f6 : Nat → Nat) : k_massOf0.run [.one (.su 0 7 0 4 true)] [some (.cols 4 [.fl .f32 f0, .fl .f32 f1, .fl .f32 f2, .fl .f32 f3, .fl .f32 f4, .fl .f32 f5, .fl .f32 f6])] = .leaf (.one (.fl .f32 (massV f6 4)), []) := by kernel_rfl
theorem massOf_5 (f0 : Nat → Nat) (f1 : Nat → Nat) (f2 : Nat → Nat) (f3 : Nat → Nat) (f4 : Nat → Nat) (f5 : Nat → Nat) (f6 : Nat → Nat) : k_massOf0.run [.one (.su 0 7 0 5 true)] [some (.cols 5 [.fl .f32 f0, .fl .f32 f1, .fl .f32 f2, .fl .f32 f3, .fl .f32 f4, .fl .f32 f5, .fl .f32 f6])] = .leaf (.one (.fl .f32 (massV f6 5)), []) := by kernel_rfl
theorem massOf_6 (f0 : Nat → Nat) (f1 : Nat → Nat) (f2 : Nat → Nat) (f3 : Nat → Nat) (f4 : Nat → Nat) (f5 : Nat → Nat) (f6 : Nat → Nat) : k_massOf0.run [.one (.su 0 7 0 6 true)] [some (.cols 6 [.fl .f32 f0, .fl .f32 f1, .fl .f32 f2, .fl .f32 f3, .fl .f32 f4, .fl .f32 f5, .fl .f32 f6])] = .leaf (.one (.fl .f32 (massV f6 6)), []) := by kernel_rfl
theorem massOf_7 (f0 : Nat → Nat) (f1 : Nat → Nat) (f2 : Nat → Nat) (f3 : Nat → Nat) (f4 : Nat → Nat) (f5 : Nat → Nat) (f6 : Nat → Nat) : k_massOf0.run [.one (.su 0 7 0 7 true)] [some (.cols 7 [.fl .f32 f0, .fl .f32 f1, .fl .f32 f2, .fl .f32 f3, .fl .f32 f4, .fl .f32 f5, .fl .f32 f6])] = .leaf (.one (.fl .f32 (massV f6 7)), []) := by kernel_rfl
theorem massOf_8 (f0 : Nat → Nat) (f1 : Nat → Nat) (f2 : Nat → Nat) (f3 : Nat → Nat) (f4 : Nat → Nat) (f5 : Nat → Nat) (f6 : Nat → Nat) : k_massOf0.run [.one (.su 0 7 0 8 true)] [some (.cols 8 [.fl .f32 f0, .fl .f32 f1, .fl .f32 f2, .fl .f32 f3, .fl .f32 f4, .fl .f32 f5, .fl .f32 f6])] = .leaf (.one (.fl .f32 (massV f6 8)), []) := by kernel_rfl
theorem massOf_9 (f0 : Nat → Nat) (f1 : Nat → Nat) (f2 : Nat → Nat) (f3 : Nat → Nat) (f4 : Nat → Nat) (f5 : Nat → Nat) (f6 : Nat → Nat) : k_massOf0.run [.one (.su 0 7 0 9 true)] [some (.cols 9 [.fl .f32 f0, .fl .f32 f1, .fl .f32 f2, .fl .f32 f3, .fl .f32 f4, .fl .f32 f5, .fl .f32 f6])] = .leaf (.one (.fl .f32 (massV f6 9)), []) := by kernel_rfl
theorem massOf_10 (f0 : Nat → Nat) (f1 : Nat → Nat) (f2 : Nat → Nat) (f3 : Nat → Nat) (f4 : Nat → Nat) (f5 : Nat → Nat) (f6 : Nat → Nat) : k_massOf0.run [.one (.su 0 7 0 10 true)] [some (.cols 10 [.fl .f32 f0, .fl .f32 f1, .fl .f32 f2, .fl .f32 f3, .fl .f32 f4, .fl .f32 f5, .fl .f32 f6])] = .leaf (.one (.fl .f32 (massV f6 10)), []) := by kernel_rfl
theorem massOf_11 (f0 : Nat → Nat) (f1 : Nat → Nat) (f2 : Nat → Nat) (f3 : Nat → Nat) (f4 : Nat → Nat) (f5 : Nat → Nat) (f6 : Nat → Nat) : k_massOf0.run [.one (.su 0 7 0 11 true)] [some (.cols 11 [.fl .f32 f0, .fl .f32 f1, .fl .f32 f2, .fl .f32 f3, .fl .f32 f4, .fl .f32 f5, .fl .f32 f6])] = .leaf (.one (.fl .f32 (massV f6 11)), []) := by kernel_rfl
theorem massOf_12 (f0 : Nat → Nat) (f1 : Nat → Nat) (f2 : Nat → Nat) (f3 : Nat → Nat) (f4 : Nat → Nat) (f5 : Nat → Nat) (f6 : Nat → Nat) : k_massOf0.run [.one (.su 0 7 0 12 true)] [some (.cols 12 [.fl .f32 f0, .fl .f32 f1, .fl .f32 f2, .fl .f32 f3, .fl .f32 f4, .fl .f32 f5, .fl .f32 f6])] = .leaf (.one (.fl .f32 (massV f6 12)), []) := by kernel_rfl
theorem massOf_13 (f0 : Nat → Nat) (f1 : Nat → Nat) (f2 : Nat → Nat) (f3 : Nat → Nat) (f4 : Nat → Nat) (f5 : Nat → Nat) (f6 : Nat → Nat) : k_massOf0.run [.one (.su 0 7 0 13 true)] [some (.cols 13 [.fl .f32 f0, .fl .f32 f1, .fl .f32 f2, .fl .f32 f3, .fl .f32 f4, .fl .f32 f5, .fl .f32 f6])] = .leaf (.one (.fl .f32 (massV f6 13)), []) := by kernel_rfl
theorem massOf_14 (f0 : Nat → Nat) (f1 : Nat → Nat) (f2 : Nat → Nat) (f3 : Nat → Nat) (f4 : Nat → Nat) (f5 : Nat → Nat) (f6 : Nat → Nat) : k_massOf0.run [.one (.su 0 7 0 14 true)] [some (.cols 14 [.fl .f32 f0, .fl .f32 f1, .fl .f32 f2, .fl .f32 f3, .fl .f32 f4, .fl .f32 f5, .fl .f32 f6])] = .leaf (.one (.fl .f32 (massV f6 14)), []) := by kernel_rfl
theorem massOf_15 (f0 : Nat → Nat) (f1 : Nat → Nat) (f2 : Nat → Nat) (f3 : Nat → Nat) (f4 : Nat → Nat) (f5 : Nat → Nat) (f6 : Nat → Nat) : k_massOf0.run [.one (.su 0 7 0 15 true)] [some (.cols 15 [.fl .f32 f0, .fl .f32 f1, .fl .f32 f2, .fl .f32 f3, .fl .f32 f4, .fl .f32 f5, .fl .f32 f6])] = .leaf (.one (.fl .f32 (massV f6 15)), []) := by kernel_rfl
theorem massOf_16 (f0 : Nat → Nat) (f1 : Nat → Nat) (f2 : Nat → Nat) (f3 : Nat → Nat) (f4 : Nat → Nat) (f5 : Nat → Nat) (f6 : Nat → Nat) : k_massOf0.run [.one (.su 0 7 0 16 true)] [some (.cols 16 [.fl .f32 f0, .fl .f32 f1, .fl .f32 f2, .fl .f32 f3, .fl .f32 f4, .fl .f32 f5, .fl .f32 f6])] = .leaf (.one (.fl .f32 (massV f6 16)), []) := by kernel_rfl

theorem massOf_all (n : Nat) (f0 : Nat → Nat) (f1 : Nat → Nat) (f2 : Nat → Nat) (f3 : Nat → Nat) (f4 : Nat → Nat) (f5 : Nat → Nat) (f6 : Nat → Nat) (h : n ≤ 16) : k_massOf0.run [.one (.su 0 7 0 n true)] [some (.cols n [.fl .f32 f0, .fl .f32 f1, .fl .f32 f2, .fl .f32 f3, .fl .f32 f4, .fl .f32 f5, .fl .f32 f6])] = .leaf (.one (.fl .f32 (massV f6 n)), []) := by
  have hn : n = 0 ∨ n = 1 ∨ n = 2 ∨ n = 3 ∨ n = 4 ∨ n = 5 ∨ n = 6 ∨ n = 7 ∨ n = 8 ∨ n = 9 ∨ n = 10 ∨ n = 11 ∨ n = 12 ∨ n = 13 ∨ n = 14 ∨ n = 15 ∨ n = 16 := by omega
  rcases hn with rfl | rfl | rfl | rfl | rfl | rfl | rfl | rfl | rfl | rfl | rfl | rfl | rfl | rfl | rfl | rfl | rfl
  · exact massOf_0 f0 f1 f2 f3 f4 f5 f6
  · exact massOf_1 f0 f1 f2 f3 f4 f5 f6
  · exact massOf_2 f0 f1 f2 f3 f4 f5 f6
  · exact massOf_3 f0 f1 f2 f3 f4 f5 f6
  · exact massOf_4 f0 f1 f2 f3 f4 f5 f6
  · exact massOf_5 f0 f1 f2 f3 f4 f5 f6
  · exact massOf_6 f0 f1 f2 f3 f4 f5 f6
  · exact massOf_7 f0 f1 f2 f3 f4 f5 f6
  · exact massOf_8 f0 f1 f2 f3 f4 f5 f6
  · exact massOf_9 f0 f1 f2 f3 f4 f5 f6
  · exact massOf_10 f0 f1 f2 f3 f4 f5 f6
  · exact massOf_11 f0 f1 f2 f3 f4 f5 f6
  · exact massOf_12 f0 f1 f2 f3 f4 f5 f6
  · exact massOf_13 f0 f1 f2 f3 f4 f5 f6
  · exact massOf_14 f0 f1 f2 f3 f4 f5 f6
  · exact massOf_15 f0 f1 f2 f3 f4 f5 f6
  · exact massOf_16 f0 f1 f2 f3 f4 f5 f6

def run_massOf : List AV → Mem → T Res
  | [.one (.su 0 7 0 n kn)], [some (.cols m [.fl .f32 f0, .fl .f32 f1, .fl .f32 f2, .fl .f32 f3, .fl .f32 f4, .fl .f32 f5, .fl .f32 f6])] => .need (decide (n ≤ m)) (.need (decide (n ≤ 16)) (.leaf (.one (.fl .f32 (massV f6 n)), [])))
  | _, _ => .fail
noncomputable def k_massOf : Ctr Try.prog := (k_massOf0.re run_massOf (by
  intro args mem _ Φ hΦ h
  unfold run_massOf at h
  split at h
  · rename_i n kn m f0 f1 f2 f3 f4 f5 f6 _
    have hm : n ≤ m := of_decide_eq_true h.1
    have h16 : n ≤ 16 := of_decide_eq_true h.2.1
    have h2 : Φ (.one (.fl .f32 (massV f6 n)), []) := h.2.2
    refine ⟨[.one (.su 0 7 0 n true)], [some (.cols n [.fl .f32 f0, .fl .f32 f1, .fl .f32 f2, .fl .f32 f3, .fl .f32 f4, .fl .f32 f5, .fl .f32 f6])], fun ρ vals hv => known_su ρ vals hv, ⟨BlLe.cols_le hm, trivial⟩, ?_⟩
    rw [massOf_all _ _ _ _ _ _ _ _ h16]
    exact T.h_leaf h2
  · exact h.elim)).su.own

noncomputable def k_l02Number : Ctr Try.prog := (mkC Try.prog mix [k_l01Finite] 48 Try.f48 (bodyOf Try.f48) Try.func48 (by kernel_rfl) (by kernel_rfl) []).mg
noncomputable def k_told : Ctr Try.prog := (mkC Try.prog mix [k_IsFinite] 52 Try.f52 (bodyOf Try.f52) Try.func52 (by kernel_rfl) (by kernel_rfl) []).mg
noncomputable def k_sMass : Ctr Try.prog := (mkC Try.prog mix [k_l02Are, k_l02Mass, k_l02Number] 16 Try.f16 (bodyOf Try.f16) Try.func16 (by kernel_rfl) (by kernel_rfl) []).mg
noncomputable def k_iMass : Ctr Try.prog := (mkC Try.prog mix [k_AreBodies, k_massOf, k_told] 18 Try.f18 (bodyOf Try.f18) Try.func18 (by kernel_rfl) (by kernel_rfl) []).mg

end Go.Proofs.Ytdkhpadbpeapjaa
