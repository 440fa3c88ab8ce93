/-
  FnExactCentreOfBodies: for all arguments, the program answers as the reference does. No conditions.
-/
import Derived.Test.YtjcofjelfaoecaaCe
import Derived.Test.YtjcofjelfaoecaaRows
import Derived.Test.YtjcofjelfaoecaaRo
import Derived.Test.YtjcofjelfaoecaaRs
namespace Go.Proofs.Ytjcofjelfaoecaa.fnExactCentreOfBodies
set_option linter.unusedVariables false
set_option linter.unusedSimpArgs false
open Go.RowKit Go.ChangeShapes Go.WideShapes

theorem own : ownKnob Try.prog.godebug = none := by kernel_rfl
theorem laidOut : laidOutB Try.prog = true := by kernel_rfl

noncomputable def k_sz : Ctr Try.prog := mkC Try.prog mix [] 15 Try.f15 (bodyOf Try.f15) Try.func15 (by kernel_rfl) (by kernel_rfl) []
noncomputable def k_law : Ctr Try.prog := mkC Try.prog mix [k_sz, k_toBodyS, k_sCe, k_iCe, k_eqVector, k_eqBodyS] 7 Try.f7 (bodyOf Try.f7) Try.func7 (by kernel_rfl) (by kernel_rfl) []

theorem tree_r (n0 cap0 : Nat)  (c0_0 : Nat → Nat) (c0_1 : Nat → Nat) (c0_2 : Nat → Nat) (c0_3 : Nat → Nat) (c0_4 : Nat → Nat) (c0_5 : Nat → Nat) (c0_6 : Nat → Nat) : k_law.run [.one (.sl 0 7 0 n0 cap0 false)] [some (.cols n0 [.fl .f32 c0_0, .fl .f32 c0_1, .fl .f32 c0_2, .fl .f32 c0_3, .fl .f32 c0_4, .fl .f32 c0_5, .fl .f32 c0_6])] =
    (T.ite (decide (IntKind.i64.wrap (1048576 - ↑n0) < 0)) (T.leaf (AV.one (SV.tt true), [])) (T.ite (decide (IntKind.i64.wrap (1048576 - ↑n0) < 0)) (T.leaf (AV.one (SV.tt true), [])) (T.need (decide (n0 ≤ 1048576)) (T.need (decide (n0 ≤ n0)) (T.need (decide (n0 ≤ n0)) (T.need (decide (n0 ≤ n0)) (T.need (decide (n0 ≤ 1048576)) (T.need (decide (n0 ≤ n0)) (T.need (decide (n0 ≤ n0)) (T.need (decide (n0 ≤ n0)) (T.need (decide (ceV n0 c0_0 c0_1 c0_2 c0_3 c0_4 c0_5 c0_6 (ce6 n0 c0_0 c0_1 c0_2 c0_3 c0_4 c0_5 c0_6) (ce6 n0 c0_0 c0_1 c0_2 c0_3 c0_4 c0_5 c0_6).1 = ceV n0 c0_0 c0_1 c0_2 c0_3 c0_4 c0_5 c0_6 (ce6 n0 c0_0 c0_1 c0_2 c0_3 c0_4 c0_5 c0_6) (ce6 n0 c0_0 c0_1 c0_2 c0_3 c0_4 c0_5 c0_6).1 ∧ ceV n0 c0_0 c0_1 c0_2 c0_3 c0_4 c0_5 c0_6 (ce6 n0 c0_0 c0_1 c0_2 c0_3 c0_4 c0_5 c0_6) (ce6 n0 c0_0 c0_1 c0_2 c0_3 c0_4 c0_5 c0_6).2.1 = ceV n0 c0_0 c0_1 c0_2 c0_3 c0_4 c0_5 c0_6 (ce6 n0 c0_0 c0_1 c0_2 c0_3 c0_4 c0_5 c0_6) (ce6 n0 c0_0 c0_1 c0_2 c0_3 c0_4 c0_5 c0_6).2.1 ∧ ceV n0 c0_0 c0_1 c0_2 c0_3 c0_4 c0_5 c0_6 (ce6 n0 c0_0 c0_1 c0_2 c0_3 c0_4 c0_5 c0_6) (ce6 n0 c0_0 c0_1 c0_2 c0_3 c0_4 c0_5 c0_6).2.2.1 = ceV n0 c0_0 c0_1 c0_2 c0_3 c0_4 c0_5 c0_6 (ce6 n0 c0_0 c0_1 c0_2 c0_3 c0_4 c0_5 c0_6) (ce6 n0 c0_0 c0_1 c0_2 c0_3 c0_4 c0_5 c0_6).2.2.1)) (T.need (decide (ceV n0 c0_0 c0_1 c0_2 c0_3 c0_4 c0_5 c0_6 (ce6 n0 c0_0 c0_1 c0_2 c0_3 c0_4 c0_5 c0_6) (ce6 n0 c0_0 c0_1 c0_2 c0_3 c0_4 c0_5 c0_6).2.2.2.1 = ceV n0 c0_0 c0_1 c0_2 c0_3 c0_4 c0_5 c0_6 (ce6 n0 c0_0 c0_1 c0_2 c0_3 c0_4 c0_5 c0_6) (ce6 n0 c0_0 c0_1 c0_2 c0_3 c0_4 c0_5 c0_6).2.2.2.1 ∧ ceV n0 c0_0 c0_1 c0_2 c0_3 c0_4 c0_5 c0_6 (ce6 n0 c0_0 c0_1 c0_2 c0_3 c0_4 c0_5 c0_6) (ce6 n0 c0_0 c0_1 c0_2 c0_3 c0_4 c0_5 c0_6).2.2.2.2.1 = ceV n0 c0_0 c0_1 c0_2 c0_3 c0_4 c0_5 c0_6 (ce6 n0 c0_0 c0_1 c0_2 c0_3 c0_4 c0_5 c0_6) (ce6 n0 c0_0 c0_1 c0_2 c0_3 c0_4 c0_5 c0_6).2.2.2.2.1 ∧ ceV n0 c0_0 c0_1 c0_2 c0_3 c0_4 c0_5 c0_6 (ce6 n0 c0_0 c0_1 c0_2 c0_3 c0_4 c0_5 c0_6) (ce6 n0 c0_0 c0_1 c0_2 c0_3 c0_4 c0_5 c0_6).2.2.2.2.2 = ceV n0 c0_0 c0_1 c0_2 c0_3 c0_4 c0_5 c0_6 (ce6 n0 c0_0 c0_1 c0_2 c0_3 c0_4 c0_5 c0_6) (ce6 n0 c0_0 c0_1 c0_2 c0_3 c0_4 c0_5 c0_6).2.2.2.2.2)) (T.ite (ceK n0 c0_0 c0_1 c0_2 c0_3 c0_4 c0_5 c0_6 (ce6 n0 c0_0 c0_1 c0_2 c0_3 c0_4 c0_5 c0_6) != ceK n0 c0_0 c0_1 c0_2 c0_3 c0_4 c0_5 c0_6 (ce6 n0 c0_0 c0_1 c0_2 c0_3 c0_4 c0_5 c0_6)) (T.leaf (AV.one (SV.tt false), [])) (T.need (decide (n0 ≤ 1048576)) (T.need (decide (n0 ≤ n0)) (T.need (cdecEqBd { n := n0, cap := n0, m := n0, f0 := c0_0, f1 := c0_1, f2 := c0_2, f3 := c0_3, f4 := c0_4, f5 := c0_5, f6 := c0_6, n' := n0, cap' := n0, m' := n0, g0 := c0_0, g1 := c0_1, g2 := c0_2, g3 := c0_3, g4 := c0_4, g5 := c0_5, g6 := c0_6, i := 0 }) (T.leaf (AV.one (SV.tt true), [])))))))))))))))))) := by kernel_rfl

theorem any_r (n0 cap0 : Nat) (hn0 : n0 ≤ 9223372036854775807) (c0_0 : Nat → Nat) (c0_1 : Nat → Nat) (c0_2 : Nat → Nat) (c0_3 : Nat → Nat) (c0_4 : Nat → Nat) (c0_5 : Nat → Nat) (c0_6 : Nat → Nat) : Yes k_law [.one (.sl 0 7 0 n0 cap0 false)] [some (.cols n0 [.fl .f32 c0_0, .fl .f32 c0_1, .fl .f32 c0_2, .fl .f32 c0_3, .fl .f32 c0_4, .fl .f32 c0_5, .fl .f32 c0_6])] := by
  constructor
  rw [tree_r]
  have small : decide (IntKind.i64.wrap (1048576 - (n0 : Int)) < 0) = false → n0 ≤ 1048576 := fun hc => by
    rw [IntWalk.i64_in _ (by omega)] at hc
    have := of_decide_eq_false hc
    omega
  exact T.h_ite (fun hc0 => T.h_leaf (.inl rfl)) (fun hc0 => have h20 := small hc0; T.h_ite (fun hc1 => T.h_leaf (.inl rfl)) (fun hc1 => have h20 := small hc1; T.h_need (decide_eq_true (by omega)) (T.h_need (decide_eq_true (Nat.le_refl _)) (T.h_need (decide_eq_true (Nat.le_refl _)) (T.h_need (decide_eq_true (Nat.le_refl _)) (T.h_need (decide_eq_true (by omega)) (T.h_need (decide_eq_true (Nat.le_refl _)) (T.h_need (decide_eq_true (Nat.le_refl _)) (T.h_need (decide_eq_true (Nat.le_refl _)) (T.h_need (decide_eq_true ⟨rfl, rfl, rfl⟩) (T.h_need (decide_eq_true ⟨rfl, rfl, rfl⟩) (T.h_ite (fun hc2 => absurd hc2 (by simp)) (fun hc2 => T.h_need (decide_eq_true (by omega)) (T.h_need (decide_eq_true (Nat.le_refl _)) (T.h_need (cdecEqBd_mk ⟨by simp, rfl, by simp, by show n0 ≤ 1099511627776; omega, Nat.zero_le _, fun _ _ => rfl, fun _ _ => rfl, fun _ _ => rfl, fun _ _ => rfl, fun _ _ => rfl, fun _ _ => rfl, fun _ _ => rfl⟩) (T.h_leaf (.inl rfl)))))))))))))))))

theorem tree_n  : k_law.run [.one (.val (.slice none 0 0))] [] =
    (T.need (true) (T.need (true) (T.need (true) (T.need (true) (T.need (true) (T.need (true) (T.ite (ceK 0 (fun x => 0) (fun x => 0) (fun x => 0) (fun x => 0) (fun x => 0) (fun x => 0) (fun x => 0) (ce6 0 (fun x => 0) (fun x => 0) (fun x => 0) (fun x => 0) (fun x => 0) (fun x => 0) fun x => 0) != ceK 0 (fun x => 0) (fun x => 0) (fun x => 0) (fun x => 0) (fun x => 0) (fun x => 0) (fun x => 0) (ce6 0 (fun x => 0) (fun x => 0) (fun x => 0) (fun x => 0) (fun x => 0) (fun x => 0) fun x => 0)) (T.leaf (AV.one (SV.tt false), [])) (T.need (cdecEqBd { n := 0, cap := 0, m := 0, f0 := fun x => 0, f1 := fun x => 0, f2 := fun x => 0, f3 := fun x => 0, f4 := fun x => 0, f5 := fun x => 0, f6 := fun x => 0, n' := 0, cap' := 0, m' := 0, g0 := fun x => 0, g1 := fun x => 0, g2 := fun x => 0, g3 := fun x => 0, g4 := fun x => 0, g5 := fun x => 0, g6 := fun x => 0, i := 0 }) (T.leaf (AV.one (SV.tt true), [])))))))))) := by kernel_rfl

theorem any_n  : Yes k_law [.one (.val (.slice none 0 0))] [] := by
  constructor
  rw [tree_n]
  exact T.h_need rfl (T.h_need rfl (T.h_need rfl (T.h_need rfl (T.h_need rfl (T.h_need rfl (T.h_ite (fun hc0 => absurd hc0 (by simp)) (fun hc0 => T.h_need (cdecEqBd_mk ⟨by simp, rfl, by simp, by show 0 ≤ 1099511627776; omega, Nat.zero_le _, fun _ _ => rfl, fun _ _ => rfl, fun _ _ => rfl, fun _ _ => rfl, fun _ _ => rfl, fun _ _ => rfl, fun _ _ => rfl⟩) (T.h_leaf (.inl rfl)))))))))

set_option maxRecDepth 100000 in
theorem lifted (os : Os) (started : os.Started) (H : Type) (enc : TypeId × Value → H) :
    ReturnsInHanded {} Try.checked os 7 .any (Rows.fnExactCentreOfBodiesSpec.pre6 enc Try.prog Try.f7 Rows.fnExactCentreOfBodiesRow.domain false) (Rows.fnExactCentreOfBodiesSpec.post enc Try.prog Try.f7 false true false false) := by
  refine returnsInHanded_of_change (C := Try.checked) own started (by kernel_rfl) Try.func7
    (ChangeSpec.witness6 (enc := enc) (C := Try.checked) false ⟨#[], #[.slice none 0 0], []⟩ 8 (by kernel_rfl) (by kernel_rfl) (by kernel_rfl) (by kernel_rfl)) ?_
  intro W base args ds gs before hval0 hW _ _
  have hval : ∀ (j : Nat) t v, Try.f7.params[j]? = some t → args[j]? = some v → Value.okWide Try.prog W .any base t v := hval0
  refine post_true (P := Try.prog) (s := Rows.fnExactCentreOfBodiesSpec) (fn := Try.f7) (tb := 4) rfl laidOut (by kernel_rfl) (by kernel_rfl) Try.underlying4 (fun ds hlen => ?_) hW ?_
  · have hlen : ds.length = 1 := hlen.trans (by kernel_rfl)
    match ds, hlen with
    | [d0], _ => rfl
  · obtain ⟨p, q, hA0, hV, rfl, hfz, hnd⟩ := hW
    have hA : DataW.TrodAll enc Try.prog W 0 (fun _ => true) true Try.f7.params.toList args.toList ds p := hA0
    rw [Try.params7] at hA hval
    obtain ⟨v0, vs0, d0, ds0, p0, q0, hargs0, rfl, rfl, k0, r0⟩ := trodAll_cons hA
    obtain ⟨rfl, rfl, rfl⟩ := trodAll_nil r0
    obtain rfl : args = #[v0] := by cases args; simp_all
    have op0 := open_row (P := Try.prog) (n := 4) (ks := [.fl .f32, .fl .f32, .fl .f32, .fl .f32, .fl .f32, .fl .f32, .fl .f32]) Try.underlying22 (by kernel_rfl) rfl (by kernel_rfl) (hval 0 22 v0 rfl rfl) k0
    rcases op0 with rfl | ⟨b0, o0, len0, cap0, rfl, hl0, bk0⟩
    · skip
      have hra : RelA (fun _ => none) [.one (.val (.slice none 0 0))] (#[.slice none 0 0] : Array Value).toList := ⟨⟨rfl, rfl⟩, trivial⟩
      exact calls_of_ctr (P := Try.prog) k_law (f := 7) (by kernel_rfl) Try.func7 (by kernel_rfl) (root := bodyOf Try.f7) (by kernel_rfl) (ρ := (fun _ => none)) (memOK_nil W) hra (any_n )
    · have hlen0 : len0 ≤ 9223372036854775807 := by have e : maxLen = 9223372036854775807 := rfl; omega
      have hra : RelA (rho1 b0 o0) [.one (.sl 0 7 0 len0 cap0 false)] (#[.slice (some ⟨b0, o0, none⟩) len0 cap0] : Array Value).toList := ⟨⟨b0, o0, rfl, by simp⟩, trivial⟩
      exact calls_of_ctr (P := Try.prog) k_law (f := 7) (by kernel_rfl) Try.func7 (by kernel_rfl) (root := bodyOf Try.f7) (by kernel_rfl) (ρ := (rho1 b0 o0)) (memOK_one bk0) hra (any_r len0 cap0 hlen0 _ _ _ _ _ _ _)

theorem holds : Rows.FnExactCentreOfBodiesSaid :=
  OpenClaim.holds_of_wide 7 Try.f7 rfl rfl rfl rfl rfl rfl rfl ⟨rfl, rfl, rfl, rfl, rfl⟩ rfl rfl rfl rfl rfl (by kernel_rfl) Try.func7 (by kernel_rfl)
    (of_decide_eq_true (by kernel_rfl)) (by unfold Func.isWrapper; first | (rw [if_pos (by decide +kernel)]; kernel_rfl) | (rw [if_neg (by decide +kernel)]; exact ⟨rfl, rfl⟩))
    (fun os started H enc _ => lifted os started H enc)

end Go.Proofs.Ytjcofjelfaoecaa.fnExactCentreOfBodies
