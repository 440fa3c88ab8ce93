/-
  Which rows are looks, for impl. No conditions.
-/
import Derived.Test.YtilfbhlekfoloaaAl
namespace Go.Proofs.Ytilfbhlekfoloaa
set_option linter.unusedVariables false
set_option linter.unusedSimpArgs false
open Go.RowKit

noncomputable def k_notFin : Ctr Try.prog := mkF Try.prog mix [k_IsFinite] 114 Try.f114 (bodyOf Try.f114) Try.func114 (by kernel_rfl) (by kernel_rfl) [0, 2] 6 (by kernel_rfl) (by kernel_rfl)
noncomputable def k_idxf : Ctr Try.prog := mkF Try.prog mix [k_notFin] 128 Try.f128 (bodyOf Try.f128) Try.func128 (by kernel_rfl) (by kernel_rfl) [0, 1, 4, 5, 7, 8, 9, 16] 19 (by kernel_rfl) (by kernel_rfl)
noncomputable def k_contains : Ctr Try.prog := mkF Try.prog mix [k_idxf] 113 Try.f113 (bodyOf Try.f113) Try.func113 (by kernel_rfl) (by kernel_rfl) [0, 1, 4] 9 (by kernel_rfl) (by kernel_rfl)
noncomputable def k_areFinite : Ctr Try.prog := mkF Try.prog mix [k_contains] 75 Try.f75 (bodyOf Try.f75) Try.func75 (by kernel_rfl) (by kernel_rfl) [0, 2] 6 (by kernel_rfl) (by kernel_rfl)
noncomputable def k_areL10 : Ctr Try.prog := mkF Try.prog mix [k_areFinite] 74 Try.f74 (bodyOf Try.f74) Try.func74 (by kernel_rfl) (by kernel_rfl) [0, 1, 2] 21 (by kernel_rfl) (by kernel_rfl)
theorem areL1_ev (x0 x1 x2 x3 x4 : Nat) (mem : Mem) : k_areL10.run [.agg [.fl .f32 x0, .fl .f32 x1, .fl .f32 x2, .fl .f32 x3, .fl .f32 x4]] mem = .leaf (.one (.bo (cond (!(!decide (0 ≤ (cond (!fin .f32 x0) ((0 : Int)) (cond (!fin .f32 x1) (IntKind.i64.wrap (0 + 1)) (cond (!fin .f32 x2) (IntKind.i64.wrap (IntKind.i64.wrap (0 + 1) + 1)) (cond (!fin .f32 x3) (IntKind.i64.wrap (IntKind.i64.wrap (IntKind.i64.wrap (0 + 1) + 1) + 1)) (cond (!fin .f32 x4) (IntKind.i64.wrap (IntKind.i64.wrap (IntKind.i64.wrap (IntKind.i64.wrap (0 + 1) + 1) + 1) + 1)) (-1))))))))) true (flt .f32 x4 0))), []) := by kernel_rfl
theorem fin5_eq (a b c d e : Bool) : (!decide (0 ≤ (cond (!a) ((0 : Int)) (cond (!b) (IntKind.i64.wrap (0 + 1)) (cond (!c) (IntKind.i64.wrap (IntKind.i64.wrap (0 + 1) + 1)) (cond (!d) (IntKind.i64.wrap (IntKind.i64.wrap (IntKind.i64.wrap (0 + 1) + 1) + 1)) (cond (!e) (IntKind.i64.wrap (IntKind.i64.wrap (IntKind.i64.wrap (IntKind.i64.wrap (0 + 1) + 1) + 1) + 1)) (-1)))))))) = cond a (cond b (cond c (cond d e false) false) false) false := by
  cases a <;> cases b <;> cases c <;> cases d <;> cases e <;> decide
theorem lt_of_fin {x : Nat} (h : fin .f32 x = true) : flt .f32 x 0 = !fge .f32 x 0 := by
  rw [flt_iff, fge_iff, fin_not_nan h, show isNan .f32 0 = false by decide]
  generalize sgv FloatKind.f32.format x = a
  generalize sgv FloatKind.f32.format 0 = b
  by_cases hab : a < b
  · simp [hab, Int.not_le.2 hab]
  · simp [hab, Int.not_lt.1 hab]
theorem bad_eq (x0 x1 x2 x3 x4 : Nat) : (cond (!(!decide (0 ≤ (cond (!fin .f32 x0) ((0 : Int)) (cond (!fin .f32 x1) (IntKind.i64.wrap (0 + 1)) (cond (!fin .f32 x2) (IntKind.i64.wrap (IntKind.i64.wrap (0 + 1) + 1)) (cond (!fin .f32 x3) (IntKind.i64.wrap (IntKind.i64.wrap (IntKind.i64.wrap (0 + 1) + 1) + 1)) (cond (!fin .f32 x4) (IntKind.i64.wrap (IntKind.i64.wrap (IntKind.i64.wrap (IntKind.i64.wrap (0 + 1) + 1) + 1) + 1)) (-1))))))))) true (flt .f32 x4 0)) = !okLook x0 x1 x2 x3 x4 := by
  rw [fin5_eq]
  unfold okLook least
  cases fin .f32 x0 <;> cases fin .f32 x1 <;> cases fin .f32 x2 <;> cases fin .f32 x3 <;> cases hf : fin .f32 x4 <;> try rfl
  exact lt_of_fin hf
def run_areL1 : List AV → Mem → T Res
  | [.agg [.fl .f32 x0, .fl .f32 x1, .fl .f32 x2, .fl .f32 x3, .fl .f32 x4]], _ => .leaf (.one (.bo (!okLook x0 x1 x2 x3 x4)), [])
  | _, _ => .fail
noncomputable def k_areL1 : Ctr Try.prog := k_areL10.to run_areL1 (by
  intro args mem _
  unfold run_areL1
  split
  · rename_i x0 x1 x2 x3 x4 _
    rw [areL1_ev, bad_eq]
    exact Weak.refl _
  · exact Weak.fail _)

noncomputable def k_idxB : Ctr Try.prog := (mkC Try.prog mix [k_areL1] 112 Try.f112 (bodyOf Try.f112) Try.func112 (by kernel_rfl) (by kernel_rfl) []).cl
noncomputable def k_containsB : Ctr Try.prog := (mkC Try.prog mix [k_idxB] 73 Try.f73 (bodyOf Try.f73) Try.func73 (by kernel_rfl) (by kernel_rfl) []).cl
noncomputable def k_AreLooks0 : Ctr Try.prog := (mkC Try.prog mix [k_containsB] 35 Try.f35 (bodyOf Try.f35) Try.func35 (by kernel_rfl) (by kernel_rfl) []).cl.mg
theorem AreLooks_0 (f0 : Nat → Nat) (f1 : Nat → Nat) (f2 : Nat → Nat) (f3 : Nat → Nat) (f4 : Nat → Nat) : k_AreLooks0.run [.one (.su 0 5 0 0 true)] [some (.cols 0 [.fl .f32 f0, .fl .f32 f1, .fl .f32 f2, .fl .f32 f3, .fl .f32 f4])] = .leaf (.one (.tt true), []) := by kernel_rfl
theorem AreLooks_1 (f0 : Nat → Nat) (f1 : Nat → Nat) (f2 : Nat → Nat) (f3 : Nat → Nat) (f4 : Nat → Nat) : k_AreLooks0.run [.one (.su 0 5 0 1 true)] [some (.cols 1 [.fl .f32 f0, .fl .f32 f1, .fl .f32 f2, .fl .f32 f3, .fl .f32 f4])] = .leaf (.one (.bo (areB 1 f0 f1 f2 f3 f4)), []) := by kernel_rfl
theorem AreLooks_2 (f0 : Nat → Nat) (f1 : Nat → Nat) (f2 : Nat → Nat) (f3 : Nat → Nat) (f4 : Nat → Nat) : k_AreLooks0.run [.one (.su 0 5 0 2 true)] [some (.cols 2 [.fl .f32 f0, .fl .f32 f1, .fl .f32 f2, .fl .f32 f3, .fl .f32 f4])] = .leaf (.one (.bo (areB 2 f0 f1 f2 f3 f4)), []) := by kernel_rfl
theorem AreLooks_3 (f0 : Nat → Nat) (f1 : Nat → Nat) (f2 : Nat → Nat) (f3 : Nat → Nat) (f4 : Nat → Nat) : k_AreLooks0.run [.one (.su 0 5 0 3 true)] [some (.cols 3 [.fl .f32 f0, .fl .f32 f1, .fl .f32 f2, .fl .f32 f3, .fl .f32 f4])] = .leaf (.one (.bo (areB 3 f0 f1 f2 f3 f4)), []) := by kernel_rfl
theorem AreLooks_4 (f0 : Nat → Nat) (f1 : Nat → Nat) (f2 : Nat → Nat) (f3 : Nat → Nat) (f4 : Nat → Nat) : k_AreLooks0.run [.one (.su 0 5 0 4 true)] [some (.cols 4 [.fl .f32 f0, .fl .f32 f1, .fl .f32 f2, .fl .f32 f3, .fl .f32 f4])] = .leaf (.one (.bo (areB 4 f0 f1 f2 f3 f4)), []) := by kernel_rfl
theorem AreLooks_5 (f0 : Nat → Nat) (f1 : Nat → Nat) (f2 : Nat → Nat) (f3 : Nat → Nat) (f4 : Nat → Nat) : k_AreLooks0.run [.one (.su 0 5 0 5 true)] [some (.cols 5 [.fl .f32 f0, .fl .f32 f1, .fl .f32 f2, .fl .f32 f3, .fl .f32 f4])] = .leaf (.one (.bo (areB 5 f0 f1 f2 f3 f4)), []) := by kernel_rfl
theorem AreLooks_6 (f0 : Nat → Nat) (f1 : Nat → Nat) (f2 : Nat → Nat) (f3 : Nat → Nat) (f4 : Nat → Nat) : k_AreLooks0.run [.one (.su 0 5 0 6 true)] [some (.cols 6 [.fl .f32 f0, .fl .f32 f1, .fl .f32 f2, .fl .f32 f3, .fl .f32 f4])] = .leaf (.one (.bo (areB 6 f0 f1 f2 f3 f4)), []) := by kernel_rfl
theorem AreLooks_7 (f0 : Nat → Nat) (f1 : Nat → Nat) (f2 : Nat → Nat) (f3 : Nat → Nat) (f4 : Nat → Nat) : k_AreLooks0.run [.one (.su 0 5 0 7 true)] [some (.cols 7 [.fl .f32 f0, .fl .f32 f1, .fl .f32 f2, .fl .f32 f3, .fl .f32 f4])] = .leaf (.one (.bo (areB 7 f0 f1 f2 f3 f4)), []) := by kernel_rfl
theorem AreLooks_8 (f0 : Nat → Nat) (f1 : Nat → Nat) (f2 : Nat → Nat) (f3 : Nat → Nat) (f4 : Nat → Nat) : k_AreLooks0.run [.one (.su 0 5 0 8 true)] [some (.cols 8 [.fl .f32 f0, .fl .f32 f1, .fl .f32 f2, .fl .f32 f3, .fl .f32 f4])] = .leaf (.one (.bo (areB 8 f0 f1 f2 f3 f4)), []) := by kernel_rfl
theorem AreLooks_9 (f0 : Nat → Nat) (f1 : Nat → Nat) (f2 : Nat → Nat) (f3 : Nat → Nat) (f4 : Nat → Nat) : k_AreLooks0.run [.one (.su 0 5 0 9 true)] [some (.cols 9 [.fl .f32 f0, .fl .f32 f1, .fl .f32 f2, .fl .f32 f3, .fl .f32 f4])] = .leaf (.one (.bo (areB 9 f0 f1 f2 f3 f4)), []) := by kernel_rfl
theorem AreLooks_10 (f0 : Nat → Nat) (f1 : Nat → Nat) (f2 : Nat → Nat) (f3 : Nat → Nat) (f4 : Nat → Nat) : k_AreLooks0.run [.one (.su 0 5 0 10 true)] [some (.cols 10 [.fl .f32 f0, .fl .f32 f1, .fl .f32 f2, .fl .f32 f3, .fl .f32 f4])] = .leaf (.one (.bo (areB 10 f0 f1 f2 f3 f4)), []) := by kernel_rfl
theorem AreLooks_11 (f0 : Nat → Nat) (f1 : Nat → Nat) (f2 : Nat → Nat) (f3 : Nat → Nat) (f4 : Nat → Nat) : k_AreLooks0.run [.one (.su 0 5 0 11 true)] [some (.cols 11 [.fl .f32 f0, .fl .f32 f1, .fl .f32 f2, .fl .f32 f3, .fl .f32 f4])] = .leaf (.one (.bo (areB 11 f0 f1 f2 f3 f4)), []) := by kernel_rfl
theorem AreLooks_12 (f0 : Nat → Nat) (f1 : Nat → Nat) (f2 : Nat → Nat) (f3 : Nat → Nat) (f4 : Nat → Nat) : k_AreLooks0.run [.one (.su 0 5 0 12 true)] [some (.cols 12 [.fl .f32 f0, .fl .f32 f1, .fl .f32 f2, .fl .f32 f3, .fl .f32 f4])] = .leaf (.one (.bo (areB 12 f0 f1 f2 f3 f4)), []) := by kernel_rfl
theorem AreLooks_13 (f0 : Nat → Nat) (f1 : Nat → Nat) (f2 : Nat → Nat) (f3 : Nat → Nat) (f4 : Nat → Nat) : k_AreLooks0.run [.one (.su 0 5 0 13 true)] [some (.cols 13 [.fl .f32 f0, .fl .f32 f1, .fl .f32 f2, .fl .f32 f3, .fl .f32 f4])] = .leaf (.one (.bo (areB 13 f0 f1 f2 f3 f4)), []) := by kernel_rfl
theorem AreLooks_14 (f0 : Nat → Nat) (f1 : Nat → Nat) (f2 : Nat → Nat) (f3 : Nat → Nat) (f4 : Nat → Nat) : k_AreLooks0.run [.one (.su 0 5 0 14 true)] [some (.cols 14 [.fl .f32 f0, .fl .f32 f1, .fl .f32 f2, .fl .f32 f3, .fl .f32 f4])] = .leaf (.one (.bo (areB 14 f0 f1 f2 f3 f4)), []) := by kernel_rfl
theorem AreLooks_15 (f0 : Nat → Nat) (f1 : Nat → Nat) (f2 : Nat → Nat) (f3 : Nat → Nat) (f4 : Nat → Nat) : k_AreLooks0.run [.one (.su 0 5 0 15 true)] [some (.cols 15 [.fl .f32 f0, .fl .f32 f1, .fl .f32 f2, .fl .f32 f3, .fl .f32 f4])] = .leaf (.one (.bo (areB 15 f0 f1 f2 f3 f4)), []) := by kernel_rfl
theorem AreLooks_16 (f0 : Nat → Nat) (f1 : Nat → Nat) (f2 : Nat → Nat) (f3 : Nat → Nat) (f4 : Nat → Nat) : k_AreLooks0.run [.one (.su 0 5 0 16 true)] [some (.cols 16 [.fl .f32 f0, .fl .f32 f1, .fl .f32 f2, .fl .f32 f3, .fl .f32 f4])] = .leaf (.one (.bo (areB 16 f0 f1 f2 f3 f4)), []) := by kernel_rfl
theorem AreLooks_17 (f0 : Nat → Nat) (f1 : Nat → Nat) (f2 : Nat → Nat) (f3 : Nat → Nat) (f4 : Nat → Nat) : k_AreLooks0.run [.one (.su 0 5 0 17 true)] [some (.cols 17 [.fl .f32 f0, .fl .f32 f1, .fl .f32 f2, .fl .f32 f3, .fl .f32 f4])] = .leaf (.one (.bo (areB 17 f0 f1 f2 f3 f4)), []) := by kernel_rfl
theorem AreLooks_18 (f0 : Nat → Nat) (f1 : Nat → Nat) (f2 : Nat → Nat) (f3 : Nat → Nat) (f4 : Nat → Nat) : k_AreLooks0.run [.one (.su 0 5 0 18 true)] [some (.cols 18 [.fl .f32 f0, .fl .f32 f1, .fl .f32 f2, .fl .f32 f3, .fl .f32 f4])] = .leaf (.one (.bo (areB 18 f0 f1 f2 f3 f4)), []) := by kernel_rfl
theorem AreLooks_19 (f0 : Nat → Nat) (f1 : Nat → Nat) (f2 : Nat → Nat) (f3 : Nat → Nat) (f4 : Nat → Nat) : k_AreLooks0.run [.one (.su 0 5 0 19 true)] [some (.cols 19 [.fl .f32 f0, .fl .f32 f1, .fl .f32 f2, .fl .f32 f3, .fl .f32 f4])] = .leaf (.one (.bo (areB 19 f0 f1 f2 f3 f4)), []) := by kernel_rfl
theorem AreLooks_20 (f0 : Nat → Nat) (f1 : Nat → Nat) (f2 : Nat → Nat) (f3 : Nat → Nat) (f4 : Nat → Nat) : k_AreLooks0.run [.one (.su 0 5 0 20 true)] [some (.cols 20 [.fl .f32 f0, .fl .f32 f1, .fl .f32 f2, .fl .f32 f3, .fl .f32 f4])] = .leaf (.one (.bo (areB 20 f0 f1 f2 f3 f4)), []) := by kernel_rfl
theorem AreLooks_21 (f0 : Nat → Nat) (f1 : Nat → Nat) (f2 : Nat → Nat) (f3 : Nat → Nat) (f4 : Nat → Nat) : k_AreLooks0.run [.one (.su 0 5 0 21 true)] [some (.cols 21 [.fl .f32 f0, .fl .f32 f1, .fl .f32 f2, .fl .f32 f3, .fl .f32 f4])] = .leaf (.one (.bo (areB 21 f0 f1 f2 f3 f4)), []) := by kernel_rfl
theorem AreLooks_22 (f0 : Nat → Nat) (f1 : Nat → Nat) (f2 : Nat → Nat) (f3 : Nat → Nat) (f4 : Nat → Nat) : k_AreLooks0.run [.one (.su 0 5 0 22 true)] [some (.cols 22 [.fl .f32 f0, .fl .f32 f1, .fl .f32 f2, .fl .f32 f3, .fl .f32 f4])] = .leaf (.one (.bo (areB 22 f0 f1 f2 f3 f4)), []) := by kernel_rfl
theorem AreLooks_23 (f0 : Nat → Nat) (f1 : Nat → Nat) (f2 : Nat → Nat) (f3 : Nat → Nat) (f4 : Nat → Nat) : k_AreLooks0.run [.one (.su 0 5 0 23 true)] [some (.cols 23 [.fl .f32 f0, .fl .f32 f1, .fl .f32 f2, .fl .f32 f3, .fl .f32 f4])] = .leaf (.one (.bo (areB 23 f0 f1 f2 f3 f4)), []) := by kernel_rfl
theorem AreLooks_24 (f0 : Nat → Nat) (f1 : Nat → Nat) (f2 : Nat → Nat) (f3 : Nat → Nat) (f4 : Nat → Nat) : k_AreLooks0.run [.one (.su 0 5 0 24 true)] [some (.cols 24 [.fl .f32 f0, .fl .f32 f1, .fl .f32 f2, .fl .f32 f3, .fl .f32 f4])] = .leaf (.one (.bo (areB 24 f0 f1 f2 f3 f4)), []) := by kernel_rfl
theorem AreLooks_more (k : Nat) (f0 : Nat → Nat) (f1 : Nat → Nat) (f2 : Nat → Nat) (f3 : Nat → Nat) (f4 : Nat → Nat) : k_AreLooks0.run [.one (.su 0 5 0 (k + 25) true)] [some (.cols (k + 25) [.fl .f32 f0, .fl .f32 f1, .fl .f32 f2, .fl .f32 f3, .fl .f32 f4])] = .leaf (.one (.tt false), []) := by kernel_rfl

noncomputable def k_AreLooksN : Ctr Try.prog := k_AreLooks0.re run_are (by
  intro args mem _ Φ hΦ h
  unfold run_are at h
  split at h
  · rename_i n kn m f0 f1 f2 f3 f4 _
    have hm : n ≤ m := of_decide_eq_true h.1
    have h2 : Φ (.one (.bo (areB n f0 f1 f2 f3 f4)), []) := h.2
    refine ⟨[.one (.su 0 5 0 n true)], [some (.cols n [.fl .f32 f0, .fl .f32 f1, .fl .f32 f2, .fl .f32 f3, .fl .f32 f4])], fun ρ vals hv => known_su ρ vals hv, ⟨BlLe.cols_le hm, trivial⟩, ?_⟩
    match n, h2 with
    | 0, h2 => rw [AreLooks_0]; exact T.h_leaf (hΦ _ _ (le2_bt (by rfl)) h2)
    | 1, h2 => rw [AreLooks_1]; exact T.h_leaf h2
    | 2, h2 => rw [AreLooks_2]; exact T.h_leaf h2
    | 3, h2 => rw [AreLooks_3]; exact T.h_leaf h2
    | 4, h2 => rw [AreLooks_4]; exact T.h_leaf h2
    | 5, h2 => rw [AreLooks_5]; exact T.h_leaf h2
    | 6, h2 => rw [AreLooks_6]; exact T.h_leaf h2
    | 7, h2 => rw [AreLooks_7]; exact T.h_leaf h2
    | 8, h2 => rw [AreLooks_8]; exact T.h_leaf h2
    | 9, h2 => rw [AreLooks_9]; exact T.h_leaf h2
    | 10, h2 => rw [AreLooks_10]; exact T.h_leaf h2
    | 11, h2 => rw [AreLooks_11]; exact T.h_leaf h2
    | 12, h2 => rw [AreLooks_12]; exact T.h_leaf h2
    | 13, h2 => rw [AreLooks_13]; exact T.h_leaf h2
    | 14, h2 => rw [AreLooks_14]; exact T.h_leaf h2
    | 15, h2 => rw [AreLooks_15]; exact T.h_leaf h2
    | 16, h2 => rw [AreLooks_16]; exact T.h_leaf h2
    | 17, h2 => rw [AreLooks_17]; exact T.h_leaf h2
    | 18, h2 => rw [AreLooks_18]; exact T.h_leaf h2
    | 19, h2 => rw [AreLooks_19]; exact T.h_leaf h2
    | 20, h2 => rw [AreLooks_20]; exact T.h_leaf h2
    | 21, h2 => rw [AreLooks_21]; exact T.h_leaf h2
    | 22, h2 => rw [AreLooks_22]; exact T.h_leaf h2
    | 23, h2 => rw [AreLooks_23]; exact T.h_leaf h2
    | 24, h2 => rw [AreLooks_24]; exact T.h_leaf h2
    | k + 25, h2 =>
      rw [AreLooks_more]
      exact T.h_leaf (hΦ _ _ (le2_any fun ρ v hv => by
        have e : areB (k + 25) f0 f1 f2 f3 f4 = false := by unfold areB; rw [decide_eq_false (by omega)]; rfl
        rw [e]; exact hv) h2)
  · exact h.elim)
noncomputable def k_AreLooks : Ctr Try.prog := k_AreLooksN.su.own


def run17_AreLooks : List AV → Mem → T Res
  | [.one (.su 0 5 0 n kn)], [some (.cols m [.fl .f32 f0, .fl .f32 f1, .fl .f32 f2, .fl .f32 f3, .fl .f32 f4])] => .need (decide (n ≤ m)) (.need (decide (24 < n)) (.leaf (.one (.tt false), [])))
  | _, _ => .fail
noncomputable def k_AreLooks17 : Ctr Try.prog := (k_AreLooksN.to run17_AreLooks (by
  intro args mem _
  unfold run17_AreLooks
  split
  · rename_i n kn m f0 f1 f2 f3 f4 _
    constructor
    intro Φ hΦ h
    have h16 : 24 < n := of_decide_eq_true h.2.1
    have e : areB n f0 f1 f2 f3 f4 = false := by unfold areB; rw [decide_eq_false (by omega)]; rfl
    show ((T.need (decide (n ≤ m)) (T.leaf (AV.one (SV.bo (areB n f0 f1 f2 f3 f4)), [])))).holds Φ
    exact T.h_need h.1 (T.h_leaf (hΦ _ _ (le2_any fun ρ v hv => by rw [e] at hv; exact hv) h.2.2))
  · exact Weak.fail _)).su.own


end Go.Proofs.Ytilfbhlekfoloaa
