/-
  Which rows are bodies, for impl. No conditions.
-/
import Derived.Test.YtjaohecdhnhhbaaAr
namespace Go.Proofs.Ytjaohecdhnhhbaa
set_option linter.unusedVariables false
set_option linter.unusedSimpArgs false
open Go.RowKit

noncomputable def k_notFin : Ctr Try.prog := mkF Try.prog mix [k_IsFinite] 102 Try.f102 (bodyOf Try.f102) Try.func102 (by kernel_rfl) (by kernel_rfl) [0, 2] 6 (by kernel_rfl) (by kernel_rfl)
noncomputable def k_idxf : Ctr Try.prog := mkF Try.prog mix [k_notFin] 105 Try.f105 (bodyOf Try.f105) Try.func105 (by kernel_rfl) (by kernel_rfl) [0, 1, 4, 5, 7, 8, 9, 16] 19 (by kernel_rfl) (by kernel_rfl)
noncomputable def k_contains : Ctr Try.prog := mkF Try.prog mix [k_idxf] 101 Try.f101 (bodyOf Try.f101) Try.func101 (by kernel_rfl) (by kernel_rfl) [0, 1, 4] 9 (by kernel_rfl) (by kernel_rfl)
noncomputable def k_areFinite : Ctr Try.prog := mkF Try.prog mix [k_contains] 88 Try.f88 (bodyOf Try.f88) Try.func88 (by kernel_rfl) (by kernel_rfl) [0, 2] 6 (by kernel_rfl) (by kernel_rfl)
noncomputable def k_numbers : Ctr Try.prog := mkF Try.prog mix [] 89 Try.f89 (bodyOf Try.f89) Try.func89 (by kernel_rfl) (by kernel_rfl) [0, 1, 2] 10 (by kernel_rfl) (by kernel_rfl)
noncomputable def k_isFiniteVector0 : Ctr Try.prog := mkF Try.prog mix [k_areFinite, k_numbers] 60 Try.f60 (bodyOf Try.f60) Try.func60 (by kernel_rfl) (by kernel_rfl) [0, 1, 2] 6 (by kernel_rfl) (by kernel_rfl)
theorem isFiniteVector_ev (x y z : Nat) (mem : Mem) : k_isFiniteVector0.run [.agg [.fl .f32 x, .fl .f32 y, .fl .f32 z]] mem = .leaf (.one (.bo (!decide (0 ≤ (cond (!fin .f32 x) (0 : Int) (cond (!fin .f32 y) (IntKind.i64.wrap (0 + 1)) (cond (!fin .f32 z) (IntKind.i64.wrap (IntKind.i64.wrap (0 + 1) + 1)) (-1))))))), []) := by kernel_rfl
def run_isFiniteVector : List AV → Mem → T Res
  | [.agg [.fl .f32 x, .fl .f32 y, .fl .f32 z]], _ => .leaf (.one (.bo (fin3 x y z)), [])
  | _, _ => .fail
theorem isFiniteVector_eq (a b c : Bool) : (!decide (0 ≤ (cond (!a) (0 : Int) (cond (!b) (IntKind.i64.wrap (0 + 1)) (cond (!c) (IntKind.i64.wrap (IntKind.i64.wrap (0 + 1) + 1)) (-1)))))) = cond a (cond b c false) false := by
  cases a <;> cases b <;> cases c <;> decide
noncomputable def k_isFiniteVector : Ctr Try.prog := k_isFiniteVector0.to run_isFiniteVector (by
  intro args mem _
  unfold run_isFiniteVector
  split
  · rename_i x y z _
    rw [isFiniteVector_ev, isFiniteVector_eq]
    exact Weak.refl _
  · exact Weak.fail _)

noncomputable def k_areB10 : Ctr Try.prog := mkF Try.prog mix [k_isFiniteVector, k_IsFinite] 59 Try.f59 (bodyOf Try.f59) Try.func59 (by kernel_rfl) (by kernel_rfl) [0, 1, 2] 24 (by kernel_rfl) (by kernel_rfl)
theorem areB1_ev (x0 x1 x2 x3 x4 x5 x6 : Nat) (mem : Mem) : k_areB10.run [.agg [.fl .f32 x0, .fl .f32 x1, .fl .f32 x2, .fl .f32 x3, .fl .f32 x4, .fl .f32 x5, .fl .f32 x6]] mem = .leaf (.one (.bo (cond (!fin3 x0 x1 x2) true (cond (!fin3 x3 x4 x5) true (cond (!fin .f32 x6) true (flt .f32 x6 0))))), []) := by kernel_rfl
theorem lt_of_fin {x : Nat} (h : fin .f32 x = true) : flt .f32 x 0 = !fge .f32 x 0 := by
  rw [flt_iff, fge_iff, fin_not_nan h, show isNan .f32 0 = false by decide]
  generalize sgv FloatKind.f32.format x = a
  generalize sgv FloatKind.f32.format 0 = b
  by_cases hab : a < b
  · simp [hab, Int.not_le.2 hab]
  · simp [hab, Int.not_lt.1 hab]
theorem bad_eq (x0 x1 x2 x3 x4 x5 x6 : Nat) : (cond (!fin3 x0 x1 x2) true (cond (!fin3 x3 x4 x5) true (cond (!fin .f32 x6) true (flt .f32 x6 0)))) = !okBody x0 x1 x2 x3 x4 x5 x6 := by
  unfold okBody least
  cases fin3 x0 x1 x2 <;> cases fin3 x3 x4 x5 <;> cases hf : fin .f32 x6 <;> try rfl
  exact lt_of_fin hf
def run_areB1 : List AV → Mem → T Res
  | [.agg [.fl .f32 x0, .fl .f32 x1, .fl .f32 x2, .fl .f32 x3, .fl .f32 x4, .fl .f32 x5, .fl .f32 x6]], _ => .leaf (.one (.bo (!okBody x0 x1 x2 x3 x4 x5 x6)), [])
  | _, _ => .fail
noncomputable def k_areB1 : Ctr Try.prog := k_areB10.to run_areB1 (by
  intro args mem _
  unfold run_areB1
  split
  · rename_i x0 x1 x2 x3 x4 x5 x6 _
    rw [areB1_ev, bad_eq]
    exact Weak.refl _
  · exact Weak.fail _)

noncomputable def k_idxB : Ctr Try.prog := (mkC Try.prog mix [k_areB1] 87 Try.f87 (bodyOf Try.f87) Try.func87 (by kernel_rfl) (by kernel_rfl) []).cl
noncomputable def k_containsB : Ctr Try.prog := (mkC Try.prog mix [k_idxB] 58 Try.f58 (bodyOf Try.f58) Try.func58 (by kernel_rfl) (by kernel_rfl) []).cl
noncomputable def k_AreBodies0 : Ctr Try.prog := (mkC Try.prog mix [k_containsB] 36 Try.f36 (bodyOf Try.f36) Try.func36 (by kernel_rfl) (by kernel_rfl) []).cl.mg
theorem AreBodies_0 (f0 : Nat → Nat) (f1 : Nat → Nat) (f2 : Nat → Nat) (f3 : Nat → Nat) (f4 : Nat → Nat) (f5 : Nat → Nat) (f6 : Nat → Nat) : k_AreBodies0.run [.one (.su 0 7 0 0 true)] [some (.cols 0 [.fl .f32 f0, .fl .f32 f1, .fl .f32 f2, .fl .f32 f3, .fl .f32 f4, .fl .f32 f5, .fl .f32 f6])] = .leaf (.one (.tt true), []) := by kernel_rfl
theorem AreBodies_1 (f0 : Nat → Nat) (f1 : Nat → Nat) (f2 : Nat → Nat) (f3 : Nat → Nat) (f4 : Nat → Nat) (f5 : Nat → Nat) (f6 : Nat → Nat) : k_AreBodies0.run [.one (.su 0 7 0 1 true)] [some (.cols 1 [.fl .f32 f0, .fl .f32 f1, .fl .f32 f2, .fl .f32 f3, .fl .f32 f4, .fl .f32 f5, .fl .f32 f6])] = .leaf (.one (.bo (areB 1 f0 f1 f2 f3 f4 f5 f6)), []) := by kernel_rfl
theorem AreBodies_2 (f0 : Nat → Nat) (f1 : Nat → Nat) (f2 : Nat → Nat) (f3 : Nat → Nat) (f4 : Nat → Nat) (f5 : Nat → Nat) (f6 : Nat → Nat) : k_AreBodies0.run [.one (.su 0 7 0 2 true)] [some (.cols 2 [.fl .f32 f0, .fl .f32 f1, .fl .f32 f2, .fl .f32 f3, .fl .f32 f4, .fl .f32 f5, .fl .f32 f6])] = .leaf (.one (.bo (areB 2 f0 f1 f2 f3 f4 f5 f6)), []) := by kernel_rfl
theorem AreBodies_3 (f0 : Nat → Nat) (f1 : Nat → Nat) (f2 : Nat → Nat) (f3 : Nat → Nat) (f4 : Nat → Nat) (f5 : Nat → Nat) (f6 : Nat → Nat) : k_AreBodies0.run [.one (.su 0 7 0 3 true)] [some (.cols 3 [.fl .f32 f0, .fl .f32 f1, .fl .f32 f2, .fl .f32 f3, .fl .f32 f4, .fl .f32 f5, .fl .f32 f6])] = .leaf (.one (.bo (areB 3 f0 f1 f2 f3 f4 f5 f6)), []) := by kernel_rfl
theorem AreBodies_4 (f0 : Nat → Nat) (f1 : Nat → Nat) (f2 : Nat → Nat) (f3 : Nat → Nat) (f4 : Nat → Nat) (f5 : Nat → Nat) (f6 : Nat → Nat) : k_AreBodies0.run [.one (.su 0 7 0 4 true)] [some (.cols 4 [.fl .f32 f0, .fl .f32 f1, .fl .f32 f2, .fl .f32 f3, .fl .f32 f4, .fl .f32 f5, .fl .f32 f6])] = .leaf (.one (.bo (areB 4 f0 f1 f2 f3 f4 f5 f6)), []) := by kernel_rfl
theorem AreBodies_5 (f0 : Nat → Nat) (f1 : Nat → Nat) (f2 : Nat → Nat) (f3 : Nat → Nat) (f4 : Nat → Nat) (f5 : Nat → Nat) (f6 : Nat → Nat) : k_AreBodies0.run [.one (.su 0 7 0 5 true)] [some (.cols 5 [.fl .f32 f0, .fl .f32 f1, .fl .f32 f2, .fl .f32 f3, .fl .f32 f4, .fl .f32 f5, .fl .f32 f6])] = .leaf (.one (.bo (areB 5 f0 f1 f2 f3 f4 f5 f6)), []) := by kernel_rfl
theorem AreBodies_6 (f0 : Nat → Nat) (f1 : Nat → Nat) (f2 : Nat → Nat) (f3 : Nat → Nat) (f4 : Nat → Nat) (f5 : Nat → Nat) (f6 : Nat → Nat) : k_AreBodies0.run [.one (.su 0 7 0 6 true)] [some (.cols 6 [.fl .f32 f0, .fl .f32 f1, .fl .f32 f2, .fl .f32 f3, .fl .f32 f4, .fl .f32 f5, .fl .f32 f6])] = .leaf (.one (.bo (areB 6 f0 f1 f2 f3 f4 f5 f6)), []) := by kernel_rfl
theorem AreBodies_7 (f0 : Nat → Nat) (f1 : Nat → Nat) (f2 : Nat → Nat) (f3 : Nat → Nat) (f4 : Nat → Nat) (f5 : Nat → Nat) (f6 : Nat → Nat) : k_AreBodies0.run [.one (.su 0 7 0 7 true)] [some (.cols 7 [.fl .f32 f0, .fl .f32 f1, .fl .f32 f2, .fl .f32 f3, .fl .f32 f4, .fl .f32 f5, .fl .f32 f6])] = .leaf (.one (.bo (areB 7 f0 f1 f2 f3 f4 f5 f6)), []) := by kernel_rfl
theorem AreBodies_8 (f0 : Nat → Nat) (f1 : Nat → Nat) (f2 : Nat → Nat) (f3 : Nat → Nat) (f4 : Nat → Nat) (f5 : Nat → Nat) (f6 : Nat → Nat) : k_AreBodies0.run [.one (.su 0 7 0 8 true)] [some (.cols 8 [.fl .f32 f0, .fl .f32 f1, .fl .f32 f2, .fl .f32 f3, .fl .f32 f4, .fl .f32 f5, .fl .f32 f6])] = .leaf (.one (.bo (areB 8 f0 f1 f2 f3 f4 f5 f6)), []) := by kernel_rfl
theorem AreBodies_9 (f0 : Nat → Nat) (f1 : Nat → Nat) (f2 : Nat → Nat) (f3 : Nat → Nat) (f4 : Nat → Nat) (f5 : Nat → Nat) (f6 : Nat → Nat) : k_AreBodies0.run [.one (.su 0 7 0 9 true)] [some (.cols 9 [.fl .f32 f0, .fl .f32 f1, .fl .f32 f2, .fl .f32 f3, .fl .f32 f4, .fl .f32 f5, .fl .f32 f6])] = .leaf (.one (.bo (areB 9 f0 f1 f2 f3 f4 f5 f6)), []) := by kernel_rfl
theorem AreBodies_10 (f0 : Nat → Nat) (f1 : Nat → Nat) (f2 : Nat → Nat) (f3 : Nat → Nat) (f4 : Nat → Nat) (f5 : Nat → Nat) (f6 : Nat → Nat) : k_AreBodies0.run [.one (.su 0 7 0 10 true)] [some (.cols 10 [.fl .f32 f0, .fl .f32 f1, .fl .f32 f2, .fl .f32 f3, .fl .f32 f4, .fl .f32 f5, .fl .f32 f6])] = .leaf (.one (.bo (areB 10 f0 f1 f2 f3 f4 f5 f6)), []) := by kernel_rfl
theorem AreBodies_11 (f0 : Nat → Nat) (f1 : Nat → Nat) (f2 : Nat → Nat) (f3 : Nat → Nat) (f4 : Nat → Nat) (f5 : Nat → Nat) (f6 : Nat → Nat) : k_AreBodies0.run [.one (.su 0 7 0 11 true)] [some (.cols 11 [.fl .f32 f0, .fl .f32 f1, .fl .f32 f2, .fl .f32 f3, .fl .f32 f4, .fl .f32 f5, .fl .f32 f6])] = .leaf (.one (.bo (areB 11 f0 f1 f2 f3 f4 f5 f6)), []) := by kernel_rfl
theorem AreBodies_12 (f0 : Nat → Nat) (f1 : Nat → Nat) (f2 : Nat → Nat) (f3 : Nat → Nat) (f4 : Nat → Nat) (f5 : Nat → Nat) (f6 : Nat → Nat) : k_AreBodies0.run [.one (.su 0 7 0 12 true)] [some (.cols 12 [.fl .f32 f0, .fl .f32 f1, .fl .f32 f2, .fl .f32 f3, .fl .f32 f4, .fl .f32 f5, .fl .f32 f6])] = .leaf (.one (.bo (areB 12 f0 f1 f2 f3 f4 f5 f6)), []) := by kernel_rfl
theorem AreBodies_13 (f0 : Nat → Nat) (f1 : Nat → Nat) (f2 : Nat → Nat) (f3 : Nat → Nat) (f4 : Nat → Nat) (f5 : Nat → Nat) (f6 : Nat → Nat) : k_AreBodies0.run [.one (.su 0 7 0 13 true)] [some (.cols 13 [.fl .f32 f0, .fl .f32 f1, .fl .f32 f2, .fl .f32 f3, .fl .f32 f4, .fl .f32 f5, .fl .f32 f6])] = .leaf (.one (.bo (areB 13 f0 f1 f2 f3 f4 f5 f6)), []) := by kernel_rfl
theorem AreBodies_14 (f0 : Nat → Nat) (f1 : Nat → Nat) (f2 : Nat → Nat) (f3 : Nat → Nat) (f4 : Nat → Nat) (f5 : Nat → Nat) (f6 : Nat → Nat) : k_AreBodies0.run [.one (.su 0 7 0 14 true)] [some (.cols 14 [.fl .f32 f0, .fl .f32 f1, .fl .f32 f2, .fl .f32 f3, .fl .f32 f4, .fl .f32 f5, .fl .f32 f6])] = .leaf (.one (.bo (areB 14 f0 f1 f2 f3 f4 f5 f6)), []) := by kernel_rfl
theorem AreBodies_15 (f0 : Nat → Nat) (f1 : Nat → Nat) (f2 : Nat → Nat) (f3 : Nat → Nat) (f4 : Nat → Nat) (f5 : Nat → Nat) (f6 : Nat → Nat) : k_AreBodies0.run [.one (.su 0 7 0 15 true)] [some (.cols 15 [.fl .f32 f0, .fl .f32 f1, .fl .f32 f2, .fl .f32 f3, .fl .f32 f4, .fl .f32 f5, .fl .f32 f6])] = .leaf (.one (.bo (areB 15 f0 f1 f2 f3 f4 f5 f6)), []) := by kernel_rfl
theorem AreBodies_16 (f0 : Nat → Nat) (f1 : Nat → Nat) (f2 : Nat → Nat) (f3 : Nat → Nat) (f4 : Nat → Nat) (f5 : Nat → Nat) (f6 : Nat → Nat) : k_AreBodies0.run [.one (.su 0 7 0 16 true)] [some (.cols 16 [.fl .f32 f0, .fl .f32 f1, .fl .f32 f2, .fl .f32 f3, .fl .f32 f4, .fl .f32 f5, .fl .f32 f6])] = .leaf (.one (.bo (areB 16 f0 f1 f2 f3 f4 f5 f6)), []) := by kernel_rfl
theorem AreBodies_more (k : Nat) (f0 : Nat → Nat) (f1 : Nat → Nat) (f2 : Nat → Nat) (f3 : Nat → Nat) (f4 : Nat → Nat) (f5 : Nat → Nat) (f6 : Nat → Nat) : k_AreBodies0.run [.one (.su 0 7 0 (k + 17) true)] [some (.cols (k + 17) [.fl .f32 f0, .fl .f32 f1, .fl .f32 f2, .fl .f32 f3, .fl .f32 f4, .fl .f32 f5, .fl .f32 f6])] = .leaf (.one (.tt false), []) := by kernel_rfl

noncomputable def k_AreBodiesN : Ctr Try.prog := k_AreBodies0.re run_are (by
  intro args mem _ Φ hΦ h
  unfold run_are at h
  split at h
  · rename_i n kn m f0 f1 f2 f3 f4 f5 f6 _
    have hm : n ≤ m := of_decide_eq_true h.1
    have h2 : Φ (.one (.bo (areB n f0 f1 f2 f3 f4 f5 f6)), []) := h.2
    refine ⟨[.one (.su 0 7 0 n true)], [some (.cols n [.fl .f32 f0, .fl .f32 f1, .fl .f32 f2, .fl .f32 f3, .fl .f32 f4, .fl .f32 f5, .fl .f32 f6])], fun ρ vals hv => known_su ρ vals hv, ⟨BlLe.cols_le hm, trivial⟩, ?_⟩
    match n, h2 with
    | 0, h2 => rw [AreBodies_0]; exact T.h_leaf (hΦ _ _ (le2_bt (by rfl)) h2)
    | 1, h2 => rw [AreBodies_1]; exact T.h_leaf h2
    | 2, h2 => rw [AreBodies_2]; exact T.h_leaf h2
    | 3, h2 => rw [AreBodies_3]; exact T.h_leaf h2
    | 4, h2 => rw [AreBodies_4]; exact T.h_leaf h2
    | 5, h2 => rw [AreBodies_5]; exact T.h_leaf h2
    | 6, h2 => rw [AreBodies_6]; exact T.h_leaf h2
    | 7, h2 => rw [AreBodies_7]; exact T.h_leaf h2
    | 8, h2 => rw [AreBodies_8]; exact T.h_leaf h2
    | 9, h2 => rw [AreBodies_9]; exact T.h_leaf h2
    | 10, h2 => rw [AreBodies_10]; exact T.h_leaf h2
    | 11, h2 => rw [AreBodies_11]; exact T.h_leaf h2
    | 12, h2 => rw [AreBodies_12]; exact T.h_leaf h2
    | 13, h2 => rw [AreBodies_13]; exact T.h_leaf h2
    | 14, h2 => rw [AreBodies_14]; exact T.h_leaf h2
    | 15, h2 => rw [AreBodies_15]; exact T.h_leaf h2
    | 16, h2 => rw [AreBodies_16]; exact T.h_leaf h2
    | k + 17, h2 =>
      rw [AreBodies_more]
      exact T.h_leaf (hΦ _ _ (le2_any fun ρ v hv => by
        have e : areB (k + 17) f0 f1 f2 f3 f4 f5 f6 = false := by unfold areB; rw [decide_eq_false (by omega)]; rfl
        rw [e]; exact hv) h2)
  · exact h.elim)
noncomputable def k_AreBodies : Ctr Try.prog := k_AreBodiesN.su.own


def run17_AreBodies : List AV → Mem → T Res
  | [.one (.su 0 7 0 n kn)], [some (.cols m [.fl .f32 f0, .fl .f32 f1, .fl .f32 f2, .fl .f32 f3, .fl .f32 f4, .fl .f32 f5, .fl .f32 f6])] => .need (decide (n ≤ m)) (.need (decide (16 < n)) (.leaf (.one (.tt false), [])))
  | _, _ => .fail
noncomputable def k_AreBodies17 : Ctr Try.prog := (k_AreBodiesN.to run17_AreBodies (by
  intro args mem _
  unfold run17_AreBodies
  split
  · rename_i n kn m f0 f1 f2 f3 f4 f5 f6 _
    constructor
    intro Φ hΦ h
    have h16 : 16 < n := of_decide_eq_true h.2.1
    have e : areB n f0 f1 f2 f3 f4 f5 f6 = false := by unfold areB; rw [decide_eq_false (by omega)]; rfl
    show ((T.need (decide (n ≤ m)) (T.leaf (AV.one (SV.bo (areB n f0 f1 f2 f3 f4 f5 f6)), [])))).holds Φ
    exact T.h_need h.1 (T.h_leaf (hΦ _ _ (le2_any fun ρ v hv => by rw [e] at hv; exact hv) h.2.2))
  · exact Weak.fail _)).su.own


end Go.Proofs.Ytjaohecdhnhhbaa
