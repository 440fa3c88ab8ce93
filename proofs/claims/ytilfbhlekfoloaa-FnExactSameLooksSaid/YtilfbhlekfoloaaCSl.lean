/-
  FnExactSameLooks: for all arguments, the program answers as the reference does. No conditions.
-/
import Derived.Test.YtilfbhlekfoloaaSl
import Derived.Test.YtilfbhlekfoloaaRows
import Derived.Test.YtilfbhlekfoloaaRo
import Derived.Test.YtilfbhlekfoloaaRs
namespace Go.Proofs.Ytilfbhlekfoloaa.fnExactSameLooks
set_option linter.unusedVariables false
set_option linter.unusedSimpArgs false
open Go.RowKit Go.ChangeShapes Go.WideShapes

theorem own : ownKnob Try.prog.godebug = none := by kernel_rfl
theorem laidOut : laidOutB Try.prog = true := by kernel_rfl

noncomputable def k_sz : Ctr Try.prog := mkC Try.prog mix [] 29 Try.f29 (bodyOf Try.f29) Try.func29 (by kernel_rfl) (by kernel_rfl) []
noncomputable def k_law : Ctr Try.prog := mkC Try.prog mix [k_sz, k_toLookS, k_sS, k_iS, k_eqLookS] 6 Try.f6 (bodyOf Try.f6) Try.func6 (by kernel_rfl) (by kernel_rfl) []

theorem tree_rr (n0 cap0 : Nat)  (c0_0 : Nat → Nat) (c0_1 : Nat → Nat) (c0_2 : Nat → Nat) (c0_3 : Nat → Nat) (c0_4 : Nat → Nat) (n1 cap1 : Nat)  (c1_0 : Nat → Nat) (c1_1 : Nat → Nat) (c1_2 : Nat → Nat) (c1_3 : Nat → Nat) (c1_4 : Nat → Nat) : k_law.run [.one (.sl 0 5 0 n0 cap0 false), .one (.sl 1 5 0 n1 cap1 false)] [some (.cols n0 [.fl .f32 c0_0, .fl .f32 c0_1, .fl .f32 c0_2, .fl .f32 c0_3, .fl .f32 c0_4]), some (.cols n1 [.fl .f32 c1_0, .fl .f32 c1_1, .fl .f32 c1_2, .fl .f32 c1_3, .fl .f32 c1_4])] =
    (T.ite (decide (IntKind.i64.wrap (1048576 - ↑n0) < 0)) (T.leaf (AV.one (SV.tt true), [])) (T.ite (decide (IntKind.i64.wrap (1048576 - ↑n0) < 0)) (T.leaf (AV.one (SV.tt true), [])) (T.ite (decide (IntKind.i64.wrap (IntKind.i64.wrap (1048576 - ↑n0) - ↑n1) < 0)) (T.leaf (AV.one (SV.tt true), [])) (T.ite (decide (IntKind.i64.wrap (IntKind.i64.wrap (1048576 - ↑n0) - ↑n1) < 0)) (T.leaf (AV.one (SV.tt true), [])) (T.need (decide (n0 ≤ 1048576)) (T.need (decide (n0 ≤ n0)) (T.need (decide (n1 ≤ 1048576)) (T.need (decide (n1 ≤ n1)) (T.need (decide (n0 ≤ n0)) (T.need (decide (n1 ≤ n1)) (T.need (decide (n0 ≤ n0)) (T.need (decide (n1 ≤ n1)) (T.need (decide (n0 ≤ 1099511627776)) (T.need (decide (n0 ≤ 1048576)) (T.need (decide (n0 ≤ n0)) (T.need (decide (n1 ≤ 1048576)) (T.need (decide (n1 ≤ n1)) (T.need (decide (n0 ≤ n0)) (T.need (decide (n1 ≤ n1)) (T.need (decide (n0 ≤ n0)) (T.need (decide (n1 ≤ n1)) (T.need (decide (n0 ≤ 1099511627776)) (T.ite (sameB n0 n1 c0_0 c0_1 c0_2 c0_3 c0_4 c1_0 c1_1 c1_2 c1_3 c1_4 !=
                                                sameB n0 n1 c0_0 c0_1 c0_2 c0_3 c0_4 c1_0 c1_1 c1_2 c1_3 c1_4) (T.leaf (AV.one (SV.tt false), [])) (T.need (decide (n0 ≤ 1048576)) (T.need (decide (n0 ≤ n0)) (T.need (cdecEqLk
                                                      { n := n0, cap := n0, m := n0, f0 := c0_0, f1 := c0_1, f2 := c0_2,
                                                        f3 := c0_3, f4 := c0_4, n' := n0, cap' := n0, m' := n0,
                                                        g0 := c0_0, g1 := c0_1, g2 := c0_2, g3 := c0_3, g4 := c0_4,
                                                        i := 0 }) (T.need (decide (n1 ≤ 1048576)) (T.need (decide (n1 ≤ n1)) (T.need (cdecEqLk
                                                            { n := n1, cap := n1, m := n1, f0 := c1_0, f1 := c1_1,
                                                              f2 := c1_2, f3 := c1_3, f4 := c1_4, n' := n1, cap' := n1,
                                                              m' := n1, g0 := c1_0, g1 := c1_1, g2 := c1_2, g3 := c1_3,
                                                              g4 := c1_4, i := 0 }) (T.leaf (AV.one (SV.tt true), []))))))))))))))))))))))))))))))) := by kernel_rfl

theorem any_rr (n0 cap0 : Nat) (hn0 : n0 ≤ 9223372036854775807) (c0_0 : Nat → Nat) (c0_1 : Nat → Nat) (c0_2 : Nat → Nat) (c0_3 : Nat → Nat) (c0_4 : Nat → Nat) (n1 cap1 : Nat) (hn1 : n1 ≤ 9223372036854775807) (c1_0 : Nat → Nat) (c1_1 : Nat → Nat) (c1_2 : Nat → Nat) (c1_3 : Nat → Nat) (c1_4 : Nat → Nat) : Yes k_law [.one (.sl 0 5 0 n0 cap0 false), .one (.sl 1 5 0 n1 cap1 false)] [some (.cols n0 [.fl .f32 c0_0, .fl .f32 c0_1, .fl .f32 c0_2, .fl .f32 c0_3, .fl .f32 c0_4]), some (.cols n1 [.fl .f32 c1_0, .fl .f32 c1_1, .fl .f32 c1_2, .fl .f32 c1_3, .fl .f32 c1_4])] := by
  constructor
  rw [tree_rr]
  have small : decide (IntKind.i64.wrap (1048576 - (n0 : Int)) < 0) = false → n0 ≤ 1048576 := fun hc => by
    rw [IntWalk.i64_in _ (by omega)] at hc
    have := of_decide_eq_false hc
    omega
  have small2 : n0 ≤ 1048576 → decide (IntKind.i64.wrap (IntKind.i64.wrap (1048576 - (n0 : Int)) - (n1 : Int)) < 0) = false → n1 ≤ 1048576 := fun h0 hc => by
    rw [IntWalk.i64_in (1048576 - (n0 : Int)) (by omega), IntWalk.i64_in _ (by omega)] at hc
    have := of_decide_eq_false hc
    omega
  exact T.h_ite (fun hc0 => T.h_leaf (.inl rfl)) (fun hc0 => have h20 := small hc0; T.h_ite (fun hc1 => T.h_leaf (.inl rfl)) (fun hc1 => have h20 := small hc1; T.h_ite (fun hc2 => T.h_leaf (.inl rfl)) (fun hc2 => have h21 := small2 h20 hc2; T.h_ite (fun hc3 => T.h_leaf (.inl rfl)) (fun hc3 => have h21 := small2 h20 hc3; T.h_need (decide_eq_true (by omega)) (T.h_need (decide_eq_true (Nat.le_refl _)) (T.h_need (decide_eq_true (by omega)) (T.h_need (decide_eq_true (Nat.le_refl _)) (T.h_need (decide_eq_true (Nat.le_refl _)) (T.h_need (decide_eq_true (Nat.le_refl _)) (T.h_need (decide_eq_true (Nat.le_refl _)) (T.h_need (decide_eq_true (Nat.le_refl _)) (T.h_need (decide_eq_true (by omega)) (T.h_need (decide_eq_true (by omega)) (T.h_need (decide_eq_true (Nat.le_refl _)) (T.h_need (decide_eq_true (by omega)) (T.h_need (decide_eq_true (Nat.le_refl _)) (T.h_need (decide_eq_true (Nat.le_refl _)) (T.h_need (decide_eq_true (Nat.le_refl _)) (T.h_need (decide_eq_true (Nat.le_refl _)) (T.h_need (decide_eq_true (Nat.le_refl _)) (T.h_need (decide_eq_true (by omega)) (T.h_ite (fun hc4 => absurd hc4 (by simp)) (fun hc4 => T.h_need (decide_eq_true (by omega)) (T.h_need (decide_eq_true (Nat.le_refl _)) (T.h_need (cdecEqLk_mk ⟨by simp, rfl, by simp, by show n0 ≤ 1099511627776; omega, Nat.zero_le _, fun _ _ => rfl, fun _ _ => rfl, fun _ _ => rfl, fun _ _ => rfl, fun _ _ => rfl⟩) (T.h_need (decide_eq_true (by omega)) (T.h_need (decide_eq_true (Nat.le_refl _)) (T.h_need (cdecEqLk_mk ⟨by simp, rfl, by simp, by show n1 ≤ 1099511627776; omega, Nat.zero_le _, fun _ _ => rfl, fun _ _ => rfl, fun _ _ => rfl, fun _ _ => rfl, fun _ _ => rfl⟩) (T.h_leaf (.inl rfl))))))))))))))))))))))))))))))

theorem tree_rn (n0 cap0 : Nat)  (c0_0 : Nat → Nat) (c0_1 : Nat → Nat) (c0_2 : Nat → Nat) (c0_3 : Nat → Nat) (c0_4 : Nat → Nat) : k_law.run [.one (.sl 0 5 0 n0 cap0 false), .one (.val (.slice none 0 0))] [some (.cols n0 [.fl .f32 c0_0, .fl .f32 c0_1, .fl .f32 c0_2, .fl .f32 c0_3, .fl .f32 c0_4])] =
    (T.ite (decide (IntKind.i64.wrap (1048576 - ↑n0) < 0)) (T.leaf (AV.one (SV.tt true), [])) (T.ite (decide (IntKind.i64.wrap (1048576 - ↑n0) < 0)) (T.leaf (AV.one (SV.tt true), [])) (T.ite (decide (IntKind.i64.wrap (IntKind.i64.wrap (1048576 - ↑n0) - ↑0) < 0)) (T.leaf (AV.one (SV.tt true), [])) (T.ite (decide (IntKind.i64.wrap (IntKind.i64.wrap (1048576 - ↑n0) - ↑0) < 0)) (T.leaf (AV.one (SV.tt true), [])) (T.need (decide (n0 ≤ 1048576)) (T.need (decide (n0 ≤ n0)) (T.need (decide (n0 ≤ n0)) (T.need (true) (T.need (decide (n0 ≤ n0)) (T.need (true) (T.need (decide (n0 ≤ 1099511627776)) (T.need (decide (n0 ≤ 1048576)) (T.need (decide (n0 ≤ n0)) (T.need (decide (n0 ≤ n0)) (T.need (true) (T.need (decide (n0 ≤ n0)) (T.need (true) (T.need (decide (n0 ≤ 1099511627776)) (T.ite ((sameB n0 0 c0_0 c0_1 c0_2 c0_3 c0_4 (fun x => 0) (fun x => 0) (fun x => 0)
                                          (fun x => 0) fun x => 0) !=
                                        sameB n0 0 c0_0 c0_1 c0_2 c0_3 c0_4 (fun x => 0) (fun x => 0) (fun x => 0)
                                          (fun x => 0) fun x => 0) (T.leaf (AV.one (SV.tt false), [])) (T.need (decide (n0 ≤ 1048576)) (T.need (decide (n0 ≤ n0)) (T.need (cdecEqLk
                                              { n := n0, cap := n0, m := n0, f0 := c0_0, f1 := c0_1, f2 := c0_2,
                                                f3 := c0_3, f4 := c0_4, n' := n0, cap' := n0, m' := n0, g0 := c0_0,
                                                g1 := c0_1, g2 := c0_2, g3 := c0_3, g4 := c0_4, i := 0 }) (T.need (cdecEqLk
                                                { n := 0, cap := 0, m := 0, f0 := fun x => 0, f1 := fun x => 0,
                                                  f2 := fun x => 0, f3 := fun x => 0, f4 := fun x => 0, n' := 0,
                                                  cap' := 0, m' := 0, g0 := fun x => 0, g1 := fun x => 0,
                                                  g2 := fun x => 0, g3 := fun x => 0, g4 := fun x => 0, i := 0 }) (T.leaf (AV.one (SV.tt true), []))))))))))))))))))))))))) := by kernel_rfl

theorem any_rn (n0 cap0 : Nat) (hn0 : n0 ≤ 9223372036854775807) (c0_0 : Nat → Nat) (c0_1 : Nat → Nat) (c0_2 : Nat → Nat) (c0_3 : Nat → Nat) (c0_4 : Nat → Nat) : Yes k_law [.one (.sl 0 5 0 n0 cap0 false), .one (.val (.slice none 0 0))] [some (.cols n0 [.fl .f32 c0_0, .fl .f32 c0_1, .fl .f32 c0_2, .fl .f32 c0_3, .fl .f32 c0_4])] := by
  constructor
  rw [tree_rn]
  have small : decide (IntKind.i64.wrap (1048576 - (n0 : Int)) < 0) = false → n0 ≤ 1048576 := fun hc => by
    rw [IntWalk.i64_in _ (by omega)] at hc
    have := of_decide_eq_false hc
    omega
  exact T.h_ite (fun hc0 => T.h_leaf (.inl rfl)) (fun hc0 => have h20 := small hc0; T.h_ite (fun hc1 => T.h_leaf (.inl rfl)) (fun hc1 => have h20 := small hc1; T.h_ite (fun hc2 => T.h_leaf (.inl rfl)) (fun hc2 => T.h_ite (fun hc3 => T.h_leaf (.inl rfl)) (fun hc3 => T.h_need (decide_eq_true (by omega)) (T.h_need (decide_eq_true (Nat.le_refl _)) (T.h_need (decide_eq_true (Nat.le_refl _)) (T.h_need rfl (T.h_need (decide_eq_true (Nat.le_refl _)) (T.h_need rfl (T.h_need (decide_eq_true (by omega)) (T.h_need (decide_eq_true (by omega)) (T.h_need (decide_eq_true (Nat.le_refl _)) (T.h_need (decide_eq_true (Nat.le_refl _)) (T.h_need rfl (T.h_need (decide_eq_true (Nat.le_refl _)) (T.h_need rfl (T.h_need (decide_eq_true (by omega)) (T.h_ite (fun hc4 => absurd hc4 (by simp)) (fun hc4 => T.h_need (decide_eq_true (by omega)) (T.h_need (decide_eq_true (Nat.le_refl _)) (T.h_need (cdecEqLk_mk ⟨by simp, rfl, by simp, by show n0 ≤ 1099511627776; omega, Nat.zero_le _, fun _ _ => rfl, fun _ _ => rfl, fun _ _ => rfl, fun _ _ => rfl, fun _ _ => rfl⟩) (T.h_need (cdecEqLk_mk ⟨by simp, rfl, by simp, by show 0 ≤ 1099511627776; omega, Nat.zero_le _, fun _ _ => rfl, fun _ _ => rfl, fun _ _ => rfl, fun _ _ => rfl, fun _ _ => rfl⟩) (T.h_leaf (.inl rfl))))))))))))))))))))))))

theorem tree_nr (n1 cap1 : Nat)  (c1_0 : Nat → Nat) (c1_1 : Nat → Nat) (c1_2 : Nat → Nat) (c1_3 : Nat → Nat) (c1_4 : Nat → Nat) : k_law.run [.one (.val (.slice none 0 0)), .one (.sl 0 5 0 n1 cap1 false)] [some (.cols n1 [.fl .f32 c1_0, .fl .f32 c1_1, .fl .f32 c1_2, .fl .f32 c1_3, .fl .f32 c1_4])] =
    (T.ite (decide (IntKind.i64.wrap (IntKind.i64.wrap (1048576 - ↑0) - ↑n1) < 0)) (T.leaf (AV.one (SV.tt true), [])) (T.ite (decide (IntKind.i64.wrap (IntKind.i64.wrap (1048576 - ↑0) - ↑n1) < 0)) (T.leaf (AV.one (SV.tt true), [])) (T.need (decide (n1 ≤ 1048576)) (T.need (decide (n1 ≤ n1)) (T.need (true) (T.need (decide (n1 ≤ n1)) (T.need (true) (T.need (decide (n1 ≤ n1)) (T.need (true) (T.need (decide (n1 ≤ 1048576)) (T.need (decide (n1 ≤ n1)) (T.need (true) (T.need (decide (n1 ≤ n1)) (T.need (true) (T.need (decide (n1 ≤ n1)) (T.need (true) (T.ite (sameB 0 n1 (fun x => 0) (fun x => 0) (fun x => 0) (fun x => 0) (fun x => 0) c1_0 c1_1
                                      c1_2 c1_3 c1_4 !=
                                    sameB 0 n1 (fun x => 0) (fun x => 0) (fun x => 0) (fun x => 0) (fun x => 0) c1_0
                                      c1_1 c1_2 c1_3 c1_4) (T.leaf (AV.one (SV.tt false), [])) (T.need (cdecEqLk
                                      { n := 0, cap := 0, m := 0, f0 := fun x => 0, f1 := fun x => 0, f2 := fun x => 0,
                                        f3 := fun x => 0, f4 := fun x => 0, n' := 0, cap' := 0, m' := 0,
                                        g0 := fun x => 0, g1 := fun x => 0, g2 := fun x => 0, g3 := fun x => 0,
                                        g4 := fun x => 0, i := 0 }) (T.need (decide (n1 ≤ 1048576)) (T.need (decide (n1 ≤ n1)) (T.need (cdecEqLk
                                            { n := n1, cap := n1, m := n1, f0 := c1_0, f1 := c1_1, f2 := c1_2,
                                              f3 := c1_3, f4 := c1_4, n' := n1, cap' := n1, m' := n1, g0 := c1_0,
                                              g1 := c1_1, g2 := c1_2, g3 := c1_3, g4 := c1_4, i := 0 }) (T.leaf (AV.one (SV.tt true), []))))))))))))))))))))))) := by kernel_rfl

theorem any_nr (n1 cap1 : Nat) (hn1 : n1 ≤ 9223372036854775807) (c1_0 : Nat → Nat) (c1_1 : Nat → Nat) (c1_2 : Nat → Nat) (c1_3 : Nat → Nat) (c1_4 : Nat → Nat) : Yes k_law [.one (.val (.slice none 0 0)), .one (.sl 0 5 0 n1 cap1 false)] [some (.cols n1 [.fl .f32 c1_0, .fl .f32 c1_1, .fl .f32 c1_2, .fl .f32 c1_3, .fl .f32 c1_4])] := by
  constructor
  rw [tree_nr]
  have small : decide (IntKind.i64.wrap (IntKind.i64.wrap (1048576 - ((0 : Nat) : Int)) - (n1 : Int)) < 0) = false → n1 ≤ 1048576 := fun hc => by
    rw [IntWalk.i64_in (1048576 - ((0 : Nat) : Int)) (by omega), IntWalk.i64_in _ (by omega)] at hc
    have := of_decide_eq_false hc
    omega
  exact T.h_ite (fun hc0 => T.h_leaf (.inl rfl)) (fun hc0 => have h21 := small hc0; T.h_ite (fun hc1 => T.h_leaf (.inl rfl)) (fun hc1 => have h21 := small hc1; T.h_need (decide_eq_true (by omega)) (T.h_need (decide_eq_true (Nat.le_refl _)) (T.h_need rfl (T.h_need (decide_eq_true (Nat.le_refl _)) (T.h_need rfl (T.h_need (decide_eq_true (Nat.le_refl _)) (T.h_need rfl (T.h_need (decide_eq_true (by omega)) (T.h_need (decide_eq_true (Nat.le_refl _)) (T.h_need rfl (T.h_need (decide_eq_true (Nat.le_refl _)) (T.h_need rfl (T.h_need (decide_eq_true (Nat.le_refl _)) (T.h_need rfl (T.h_ite (fun hc2 => absurd hc2 (by simp)) (fun hc2 => T.h_need (cdecEqLk_mk ⟨by simp, rfl, by simp, by show 0 ≤ 1099511627776; omega, Nat.zero_le _, fun _ _ => rfl, fun _ _ => rfl, fun _ _ => rfl, fun _ _ => rfl, fun _ _ => rfl⟩) (T.h_need (decide_eq_true (by omega)) (T.h_need (decide_eq_true (Nat.le_refl _)) (T.h_need (cdecEqLk_mk ⟨by simp, rfl, by simp, by show n1 ≤ 1099511627776; omega, Nat.zero_le _, fun _ _ => rfl, fun _ _ => rfl, fun _ _ => rfl, fun _ _ => rfl, fun _ _ => rfl⟩) (T.h_leaf (.inl rfl))))))))))))))))))))))

theorem tree_nn  : k_law.run [.one (.val (.slice none 0 0)), .one (.val (.slice none 0 0))] [] =
    (T.need (true) (T.need (true) (T.need (true) (T.need (true) (T.need (true) (T.need (true) (T.need (true) (T.need (true) (T.need (true) (T.need (true) (T.ite ((sameB 0 0 (fun x => 0) (fun x => 0) (fun x => 0) (fun x => 0) (fun x => 0) (fun x => 0)
                          (fun x => 0) (fun x => 0) (fun x => 0) fun x => 0) !=
                        sameB 0 0 (fun x => 0) (fun x => 0) (fun x => 0) (fun x => 0) (fun x => 0) (fun x => 0)
                          (fun x => 0) (fun x => 0) (fun x => 0) fun x => 0) (T.leaf (AV.one (SV.tt false), [])) (T.need (cdecEqLk
                          { n := 0, cap := 0, m := 0, f0 := fun x => 0, f1 := fun x => 0, f2 := fun x => 0,
                            f3 := fun x => 0, f4 := fun x => 0, n' := 0, cap' := 0, m' := 0, g0 := fun x => 0,
                            g1 := fun x => 0, g2 := fun x => 0, g3 := fun x => 0, g4 := fun x => 0, i := 0 }) (T.need (cdecEqLk
                            { n := 0, cap := 0, m := 0, f0 := fun x => 0, f1 := fun x => 0, f2 := fun x => 0,
                              f3 := fun x => 0, f4 := fun x => 0, n' := 0, cap' := 0, m' := 0, g0 := fun x => 0,
                              g1 := fun x => 0, g2 := fun x => 0, g3 := fun x => 0, g4 := fun x => 0, i := 0 }) (T.leaf (AV.one (SV.tt true), []))))))))))))))) := by kernel_rfl

theorem any_nn  : Yes k_law [.one (.val (.slice none 0 0)), .one (.val (.slice none 0 0))] [] := by
  constructor
  rw [tree_nn]
  exact T.h_need rfl (T.h_need rfl (T.h_need rfl (T.h_need rfl (T.h_need rfl (T.h_need rfl (T.h_need rfl (T.h_need rfl (T.h_need rfl (T.h_need rfl (T.h_ite (fun hc0 => absurd hc0 (by simp)) (fun hc0 => T.h_need (cdecEqLk_mk ⟨by simp, rfl, by simp, by show 0 ≤ 1099511627776; omega, Nat.zero_le _, fun _ _ => rfl, fun _ _ => rfl, fun _ _ => rfl, fun _ _ => rfl, fun _ _ => rfl⟩) (T.h_need (cdecEqLk_mk ⟨by simp, rfl, by simp, by show 0 ≤ 1099511627776; omega, Nat.zero_le _, fun _ _ => rfl, fun _ _ => rfl, fun _ _ => rfl, fun _ _ => rfl, fun _ _ => rfl⟩) (T.h_leaf (.inl rfl))))))))))))))

set_option maxRecDepth 100000 in
theorem lifted (os : Os) (started : os.Started) (H : Type) (enc : TypeId × Value → H) :
    ReturnsInHanded {} Try.checked os 6 .any (Rows.fnExactSameLooksSpec.pre6 enc Try.prog Try.f6 Rows.fnExactSameLooksRow.domain false) (Rows.fnExactSameLooksSpec.post enc Try.prog Try.f6 false true false false) := by
  refine returnsInHanded_of_change (C := Try.checked) own started (by kernel_rfl) Try.func6
    (ChangeSpec.witness6 (enc := enc) (C := Try.checked) false ⟨#[], #[.slice none 0 0, .slice none 0 0], []⟩ 8 (by kernel_rfl) (by kernel_rfl) (by kernel_rfl) (by kernel_rfl)) ?_
  intro W base args ds gs before hval0 hW _ _
  have hval : ∀ (j : Nat) t v, Try.f6.params[j]? = some t → args[j]? = some v → Value.okWide Try.prog W .any base t v := hval0
  refine post_true (P := Try.prog) (s := Rows.fnExactSameLooksSpec) (fn := Try.f6) (tb := 4) rfl laidOut (by kernel_rfl) (by kernel_rfl) Try.underlying4 (fun ds hlen => ?_) hW ?_
  · have hlen : ds.length = 2 := hlen.trans (by kernel_rfl)
    match ds, hlen with
    | [d0, d1], _ => rfl
  · obtain ⟨p, q, hA0, hV, rfl, hfz, hnd⟩ := hW
    have hA : DataW.TrodAll enc Try.prog W 0 (fun _ => true) true Try.f6.params.toList args.toList ds p := hA0
    rw [Try.params6] at hA hval
    obtain ⟨v0, vs0, d0, ds0, p0, q0, hargs0, rfl, rfl, k0, r0⟩ := trodAll_cons hA
    obtain ⟨v1, vs1, d1, ds1, p1, q1, hargs1, rfl, rfl, k1, r1⟩ := trodAll_cons r0
    obtain ⟨rfl, rfl, rfl⟩ := trodAll_nil r1
    subst hargs1
    obtain rfl : args = #[v0, v1] := by cases args; simp_all
    have op0 := open_row (P := Try.prog) (n := 4) (ks := [.fl .f32, .fl .f32, .fl .f32, .fl .f32, .fl .f32]) Try.underlying44 (by kernel_rfl) rfl (by kernel_rfl) (hval 0 44 v0 rfl rfl) k0
    have op1 := open_row (P := Try.prog) (n := 4) (ks := [.fl .f32, .fl .f32, .fl .f32, .fl .f32, .fl .f32]) Try.underlying44 (by kernel_rfl) rfl (by kernel_rfl) (hval 1 44 v1 rfl rfl) k1
    rcases op0 with rfl | ⟨b0, o0, len0, cap0, rfl, hl0, bk0⟩
    · skip
      rcases op1 with rfl | ⟨b1, o1, len1, cap1, rfl, hl1, bk1⟩
      · skip
        have hra : RelA (fun _ => none) [.one (.val (.slice none 0 0)), .one (.val (.slice none 0 0))] (#[.slice none 0 0, .slice none 0 0] : Array Value).toList := ⟨⟨rfl, rfl⟩, ⟨rfl, rfl⟩, trivial⟩
        exact calls_of_ctr (P := Try.prog) k_law (f := 6) (by kernel_rfl) Try.func6 (by kernel_rfl) (root := bodyOf Try.f6) (by kernel_rfl) (ρ := (fun _ => none)) (memOK_nil W) hra (any_nn )
      · have hlen1 : len1 ≤ 9223372036854775807 := by have e : maxLen = 9223372036854775807 := rfl; omega
        have hra : RelA (rho1 b1 o1) [.one (.val (.slice none 0 0)), .one (.sl 0 5 0 len1 cap1 false)] (#[.slice none 0 0, .slice (some ⟨b1, o1, none⟩) len1 cap1] : Array Value).toList := ⟨⟨rfl, rfl⟩, ⟨b1, o1, rfl, by simp⟩, trivial⟩
        exact calls_of_ctr (P := Try.prog) k_law (f := 6) (by kernel_rfl) Try.func6 (by kernel_rfl) (root := bodyOf Try.f6) (by kernel_rfl) (ρ := (rho1 b1 o1)) (memOK_one bk1) hra (any_nr len1 cap1 hlen1 _ _ _ _ _)
    · have hlen0 : len0 ≤ 9223372036854775807 := by have e : maxLen = 9223372036854775807 := rfl; omega
      rcases op1 with rfl | ⟨b1, o1, len1, cap1, rfl, hl1, bk1⟩
      · skip
        have hra : RelA (rho1 b0 o0) [.one (.sl 0 5 0 len0 cap0 false), .one (.val (.slice none 0 0))] (#[.slice (some ⟨b0, o0, none⟩) len0 cap0, .slice none 0 0] : Array Value).toList := ⟨⟨b0, o0, rfl, by simp⟩, ⟨rfl, rfl⟩, trivial⟩
        exact calls_of_ctr (P := Try.prog) k_law (f := 6) (by kernel_rfl) Try.func6 (by kernel_rfl) (root := bodyOf Try.f6) (by kernel_rfl) (ρ := (rho1 b0 o0)) (memOK_one bk0) hra (any_rn len0 cap0 hlen0 _ _ _ _ _)
      · have hlen1 : len1 ≤ 9223372036854775807 := by have e : maxLen = 9223372036854775807 := rfl; omega
        have hra : RelA (rho2 b0 o0 b1 o1) [.one (.sl 0 5 0 len0 cap0 false), .one (.sl 1 5 0 len1 cap1 false)] (#[.slice (some ⟨b0, o0, none⟩) len0 cap0, .slice (some ⟨b1, o1, none⟩) len1 cap1] : Array Value).toList := ⟨⟨b0, o0, rfl, by simp⟩, ⟨b1, o1, rfl, by simp⟩, trivial⟩
        exact calls_of_ctr (P := Try.prog) k_law (f := 6) (by kernel_rfl) Try.func6 (by kernel_rfl) (root := bodyOf Try.f6) (by kernel_rfl) (ρ := (rho2 b0 o0 b1 o1)) (memOK_two bk0 bk1) hra (any_rr len0 cap0 hlen0 _ _ _ _ _ len1 cap1 hlen1 _ _ _ _ _)

theorem holds : Rows.FnExactSameLooksSaid :=
  OpenClaim.holds_of_wide 6 Try.f6 rfl rfl rfl rfl rfl rfl rfl ⟨rfl, rfl, rfl, rfl, rfl⟩ rfl rfl rfl rfl rfl (by kernel_rfl) Try.func6 (by kernel_rfl)
    (of_decide_eq_true (by kernel_rfl)) (by unfold Func.isWrapper; first | (rw [if_pos (by decide +kernel)]; kernel_rfl) | (rw [if_neg (by decide +kernel)]; exact ⟨rfl, rfl⟩))
    (fun os started H enc _ => lifted os started H enc)

end Go.Proofs.Ytilfbhlekfoloaa.fnExactSameLooks
