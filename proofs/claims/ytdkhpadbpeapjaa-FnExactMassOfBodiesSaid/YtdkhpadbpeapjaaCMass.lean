/-
  FnExactMassOfBodies: for all arguments, the program answers as the reference does. No conditions.
-/
import Derived.Test.YtdkhpadbpeapjaaMa
import Derived.Test.YtdkhpadbpeapjaaRows
import Derived.Test.YtdkhpadbpeapjaaRo
import Derived.Test.YtdkhpadbpeapjaaRs
namespace Go.Proofs.Ytdkhpadbpeapjaa.fnExactMassOfBodies
set_option linter.unusedVariables false
set_option linter.unusedSimpArgs false
open Go.RowKit Go.ChangeShapes Go.WideShapes

theorem own : ownKnob Try.prog.godebug = none := by kernel_rfl
theorem laidOut : laidOutB Try.prog = true := by kernel_rfl

noncomputable def k_sz : Ctr Try.prog := mkC Try.prog mix [] 15 Try.f15 (bodyOf Try.f15) Try.func15 (by kernel_rfl) (by kernel_rfl) []
noncomputable def k_law : Ctr Try.prog := mkC Try.prog mix [k_sz, k_toBodyS, k_sMass, k_iMass, k_sameFloat, k_eqBodyS] 3 Try.f3 (bodyOf Try.f3) Try.func3 (by kernel_rfl) (by kernel_rfl) []
noncomputable def k_z_w_szBodyS : Ctr Try.prog := mkC Try.prog mix [] 15 Try.f15 (bodyOf Try.f15) Try.func15 (by kernel_rfl) (by kernel_rfl) []
noncomputable def k_z_s_l01VFinite : Ctr Try.prog := mkC Try.prog mix [k_l01Finite] 68 Try.f68 (bodyOf Try.f68) Try.func68 (by kernel_rfl) (by kernel_rfl) []
noncomputable def k_z_s_l02Least : Ctr Try.prog := mkC Try.prog mix [k_l01Finite] 90 Try.f90 (bodyOf Try.f90) Try.func90 (by kernel_rfl) (by kernel_rfl) []
noncomputable def k_z_s_l02Body : Ctr Try.prog := mkC Try.prog mix [k_z_s_l01VFinite, k_z_s_l02Least] 101 Try.f101 (bodyOf Try.f101) Try.func101 (by kernel_rfl) (by kernel_rfl) []
noncomputable def k_z_s_l02Are : Ctr Try.prog := mkC Try.prog mix [k_z_s_l02Body] 47 Try.f47 (bodyOf Try.f47) Try.func47 (by kernel_rfl) (by kernel_rfl) []
noncomputable def k_z_s_l02Number : Ctr Try.prog := mkC Try.prog mix [k_l01Finite] 48 Try.f48 (bodyOf Try.f48) Try.func48 (by kernel_rfl) (by kernel_rfl) []
noncomputable def k_z_s_l02Mass : Ctr Try.prog := mkC Try.prog mix [] 49 Try.f49 (bodyOf Try.f49) Try.func49 (by kernel_rfl) (by kernel_rfl) []
noncomputable def k_z_s_MassOfBodies : Ctr Try.prog := mkC Try.prog mix [k_z_s_l02Are, k_z_s_l02Number, k_z_s_l02Mass] 16 Try.f16 (bodyOf Try.f16) Try.func16 (by kernel_rfl) (by kernel_rfl) []
noncomputable def k_z_w_toVector : Ctr Try.prog := mkC Try.prog mix [] 37 Try.f37 (bodyOf Try.f37) Try.func37 (by kernel_rfl) (by kernel_rfl) []
noncomputable def k_z_w_toBody : Ctr Try.prog := mkC Try.prog mix [k_z_w_toVector] 50 Try.f50 (bodyOf Try.f50) Try.func50 (by kernel_rfl) (by kernel_rfl) []
noncomputable def k_z_w_toBodyS : Ctr Try.prog := mkC Try.prog mix [k_z_w_toBody] 17 Try.f17 (bodyOf Try.f17) Try.func17 (by kernel_rfl) (by kernel_rfl) []
noncomputable def k_z_g_slices_IndexFunc_Body : Ctr Try.prog := mkC Try.prog mix [] 115 Try.f115 (bodyOf Try.f115) Try.func115 (by kernel_rfl) (by kernel_rfl) []
noncomputable def k_z_g_slices_ContainsFunc_Body : Ctr Try.prog := mkC Try.prog mix [k_z_g_slices_IndexFunc_Body] 102 Try.f102 (bodyOf Try.f102) Try.func102 (by kernel_rfl) (by kernel_rfl) []
noncomputable def k_z_g_slices_IndexFunc_float32 : Ctr Try.prog := mkC Try.prog mix [] 122 Try.f122 (bodyOf Try.f122) Try.func122 (by kernel_rfl) (by kernel_rfl) []
noncomputable def k_z_g_slices_ContainsFunc_float32 : Ctr Try.prog := mkC Try.prog mix [k_z_g_slices_IndexFunc_float32] 116 Try.f116 (bodyOf Try.f116) Try.func116 (by kernel_rfl) (by kernel_rfl) []
noncomputable def k_z_i_areFiniteD1 : Ctr Try.prog := mkC Try.prog mix [k_IsFinite] 117 Try.f117 (bodyOf Try.f117) Try.func117 (by kernel_rfl) (by kernel_rfl) []
noncomputable def k_z_i_areFinite : Ctr Try.prog := mkC Try.prog mix [k_z_g_slices_ContainsFunc_float32, k_z_i_areFiniteD1] 104 Try.f104 (bodyOf Try.f104) Try.func104 (by kernel_rfl) (by kernel_rfl) []
noncomputable def k_z_i_isFiniteVector : Ctr Try.prog := mkC Try.prog mix [k_z_i_areFinite] 71 Try.f71 (bodyOf Try.f71) Try.func71 (by kernel_rfl) (by kernel_rfl) []
noncomputable def k_z_i_AreBodiesD1 : Ctr Try.prog := mkC Try.prog mix [k_z_i_isFiniteVector, k_IsFinite] 103 Try.f103 (bodyOf Try.f103) Try.func103 (by kernel_rfl) (by kernel_rfl) []
noncomputable def k_z_i_AreBodies : Ctr Try.prog := mkC Try.prog mix [k_z_g_slices_ContainsFunc_Body, k_z_i_AreBodiesD1] 51 Try.f51 (bodyOf Try.f51) Try.func51 (by kernel_rfl) (by kernel_rfl) []
noncomputable def k_z_i_told : Ctr Try.prog := mkC Try.prog mix [k_IsFinite] 52 Try.f52 (bodyOf Try.f52) Try.func52 (by kernel_rfl) (by kernel_rfl) []
noncomputable def k_z_i_massOf : Ctr Try.prog := mkC Try.prog mix [] 53 Try.f53 (bodyOf Try.f53) Try.func53 (by kernel_rfl) (by kernel_rfl) []
noncomputable def k_z_i_MassOfBodies : Ctr Try.prog := mkC Try.prog mix [k_z_i_AreBodies, k_z_i_told, k_z_i_massOf] 18 Try.f18 (bodyOf Try.f18) Try.func18 (by kernel_rfl) (by kernel_rfl) []
noncomputable def k_z_w_sameFloat : Ctr Try.prog := mkC Try.prog mix [] 19 Try.f19 (bodyOf Try.f19) Try.func19 (by kernel_rfl) (by kernel_rfl) []
noncomputable def k_z_w_eqVector : Ctr Try.prog := mkC Try.prog mix [k_z_w_sameFloat] 23 Try.f23 (bodyOf Try.f23) Try.func23 (by kernel_rfl) (by kernel_rfl) []
noncomputable def k_z_w_eqBody : Ctr Try.prog := mkC Try.prog mix [k_z_w_sameFloat, k_z_w_eqVector] 54 Try.f54 (bodyOf Try.f54) Try.func54 (by kernel_rfl) (by kernel_rfl) []
noncomputable def k_z_w_eqBodyS : Ctr Try.prog := mkC Try.prog mix [k_z_w_eqBody] 20 Try.f20 (bodyOf Try.f20) Try.func20 (by kernel_rfl) (by kernel_rfl) []
noncomputable def k_z_w_FnExactMassOfBodies : Ctr Try.prog := mkC Try.prog mix [k_z_w_szBodyS, k_z_s_MassOfBodies, k_z_w_toBodyS, k_z_i_MassOfBodies, k_z_w_sameFloat, k_z_w_eqBodyS] 3 Try.f3 (bodyOf Try.f3) Try.func3 (by kernel_rfl) (by kernel_rfl) []

theorem tree_r (n0 cap0 : Nat)  (c0_0 : Nat → Nat) (c0_1 : Nat → Nat) (c0_2 : Nat → Nat) (c0_3 : Nat → Nat) (c0_4 : Nat → Nat) (c0_5 : Nat → Nat) (c0_6 : Nat → Nat) : k_law.run [.one (.sl 0 7 0 n0 cap0 false)] [some (.cols n0 [.fl .f32 c0_0, .fl .f32 c0_1, .fl .f32 c0_2, .fl .f32 c0_3, .fl .f32 c0_4, .fl .f32 c0_5, .fl .f32 c0_6])] =
    (T.ite (decide (IntKind.i64.wrap (1048576 - ↑n0) < 0)) (T.leaf (AV.one (SV.tt true), [])) (T.ite (decide (IntKind.i64.wrap (1048576 - ↑n0) < 0)) (T.leaf (AV.one (SV.tt true), [])) (T.need (decide (n0 ≤ 1048576)) (T.need (decide (n0 ≤ n0)) (T.need (decide (n0 ≤ n0)) (T.need (bif !areB n0 c0_0 c0_1 c0_2 c0_3 c0_4 c0_5 c0_6 then true else decide (n0 ≤ n0)) (T.need (bif !areB n0 c0_0 c0_1 c0_2 c0_3 c0_4 c0_5 c0_6 then true else decide (n0 ≤ 16)) (T.need (decide (n0 ≤ 1048576)) (T.need (decide (n0 ≤ n0)) (T.need (decide (n0 ≤ n0)) (T.need (bif !areB n0 c0_0 c0_1 c0_2 c0_3 c0_4 c0_5 c0_6 then true else decide (n0 ≤ n0)) (T.need (bif !areB n0 c0_0 c0_1 c0_2 c0_3 c0_4 c0_5 c0_6 then true else decide (n0 ≤ 16)) (T.need (decide
                            (fcvt FloatKind.f32 FloatKind.f64
                                (bif !areB n0 c0_0 c0_1 c0_2 c0_3 c0_4 c0_5 c0_6 then canon FloatKind.f32 0
                                else
                                  bif !fin FloatKind.f32 (massV c0_6 n0) then canon FloatKind.f32 0
                                  else massV c0_6 n0) =
                              fcvt FloatKind.f32 FloatKind.f64
                                (bif !areB n0 c0_0 c0_1 c0_2 c0_3 c0_4 c0_5 c0_6 then canon FloatKind.f32 0
                                else
                                  bif !fin FloatKind.f32 (massV c0_6 n0) then canon FloatKind.f32 0
                                  else massV c0_6 n0))) (T.ite ((bif !areB n0 c0_0 c0_1 c0_2 c0_3 c0_4 c0_5 c0_6 then false
                              else !!fin FloatKind.f32 (massV c0_6 n0)) !=
                              bif !areB n0 c0_0 c0_1 c0_2 c0_3 c0_4 c0_5 c0_6 then false
                              else !!fin FloatKind.f32 (massV c0_6 n0)) (T.leaf (AV.one (SV.tt false), [])) (T.need (decide (n0 ≤ 1048576)) (T.need (decide (n0 ≤ n0)) (T.need (cdecEqBd
                                    { n := n0, cap := n0, m := n0, f0 := c0_0, f1 := c0_1, f2 := c0_2, f3 := c0_3,
                                      f4 := c0_4, f5 := c0_5, f6 := c0_6, n' := n0, cap' := n0, m' := n0, g0 := c0_0,
                                      g1 := c0_1, g2 := c0_2, g3 := c0_3, g4 := c0_4, g5 := c0_5, g6 := c0_6, i := 0 }) (T.leaf (AV.one (SV.tt true), []))))))))))))))))))) := by kernel_rfl

theorem any_r (n0 cap0 : Nat) (hn0 : n0 ≤ 9223372036854775807) (c0_0 : Nat → Nat) (c0_1 : Nat → Nat) (c0_2 : Nat → Nat) (c0_3 : Nat → Nat) (c0_4 : Nat → Nat) (c0_5 : Nat → Nat) (c0_6 : Nat → Nat) : Yes k_law [.one (.sl 0 7 0 n0 cap0 false)] [some (.cols n0 [.fl .f32 c0_0, .fl .f32 c0_1, .fl .f32 c0_2, .fl .f32 c0_3, .fl .f32 c0_4, .fl .f32 c0_5, .fl .f32 c0_6])] := by
  constructor
  rw [tree_r]
  have hA16 : (bif !areB n0 c0_0 c0_1 c0_2 c0_3 c0_4 c0_5 c0_6 then true else decide (n0 ≤ 16)) = true := by
    cases hA : areB n0 c0_0 c0_1 c0_2 c0_3 c0_4 c0_5 c0_6 with
    | false => rfl
    | true => exact decide_eq_true (areB_le hA)
  have small : decide (IntKind.i64.wrap (1048576 - (n0 : Int)) < 0) = false → n0 ≤ 1048576 := fun hc => by
    rw [IntWalk.i64_in _ (by omega)] at hc
    have := of_decide_eq_false hc
    omega
  exact T.h_ite (fun hc0 => T.h_leaf (.inl rfl)) (fun hc0 => have h20 := small hc0; T.h_ite (fun hc1 => T.h_leaf (.inl rfl)) (fun hc1 => have h20 := small hc1; T.h_need (decide_eq_true (by omega)) (T.h_need (decide_eq_true (Nat.le_refl _)) (T.h_need (decide_eq_true (Nat.le_refl _)) (T.h_need (by simp) (T.h_need hA16 (T.h_need (decide_eq_true (by omega)) (T.h_need (decide_eq_true (Nat.le_refl _)) (T.h_need (decide_eq_true (Nat.le_refl _)) (T.h_need (by simp) (T.h_need hA16 (T.h_need (decide_eq_true rfl) (T.h_ite (fun hc2 => absurd hc2 (by simp)) (fun hc2 => T.h_need (decide_eq_true (by omega)) (T.h_need (decide_eq_true (Nat.le_refl _)) (T.h_need (cdecEqBd_mk ⟨by simp, rfl, by simp, by show n0 ≤ 1099511627776; omega, Nat.zero_le _, fun _ _ => rfl, fun _ _ => rfl, fun _ _ => rfl, fun _ _ => rfl, fun _ _ => rfl, fun _ _ => rfl, fun _ _ => rfl⟩) (T.h_leaf (.inl rfl))))))))))))))))))

theorem any_n  : Yes k_z_w_FnExactMassOfBodies [.one (.val (.slice none 0 0))] [] := yes_of (by kernel_rfl)

set_option maxRecDepth 100000 in
theorem lifted (os : Os) (started : os.Started) (H : Type) (enc : TypeId × Value → H) :
    ReturnsInHanded {} Try.checked os 3 .any (Rows.fnExactMassOfBodiesSpec.pre6 enc Try.prog Try.f3 Rows.fnExactMassOfBodiesRow.domain false) (Rows.fnExactMassOfBodiesSpec.post enc Try.prog Try.f3 false true false false) := by
  refine returnsInHanded_of_change (C := Try.checked) own started (by kernel_rfl) Try.func3
    (ChangeSpec.witness6 (enc := enc) (C := Try.checked) false ⟨#[], #[.slice none 0 0], []⟩ 8 (by kernel_rfl) (by kernel_rfl) (by kernel_rfl) (by kernel_rfl)) ?_
  intro W base args ds gs before hval0 hW _ _
  have hval : ∀ (j : Nat) t v, Try.f3.params[j]? = some t → args[j]? = some v → Value.okWide Try.prog W .any base t v := hval0
  refine post_true (P := Try.prog) (s := Rows.fnExactMassOfBodiesSpec) (fn := Try.f3) (tb := 4) rfl laidOut (by kernel_rfl) (by kernel_rfl) Try.underlying4 (fun ds hlen => ?_) hW ?_
  · have hlen : ds.length = 1 := hlen.trans (by kernel_rfl)
    match ds, hlen with
    | [d0], _ => rfl
  · obtain ⟨p, q, hA0, hV, rfl, hfz, hnd⟩ := hW
    have hA : DataW.TrodAll enc Try.prog W 0 (fun _ => true) true Try.f3.params.toList args.toList ds p := hA0
    rw [Try.params3] at hA hval
    obtain ⟨v0, vs0, d0, ds0, p0, q0, hargs0, rfl, rfl, k0, r0⟩ := trodAll_cons hA
    obtain ⟨rfl, rfl, rfl⟩ := trodAll_nil r0
    obtain rfl : args = #[v0] := by cases args; simp_all
    have op0 := open_row (P := Try.prog) (n := 4) (ks := [.fl .f32, .fl .f32, .fl .f32, .fl .f32, .fl .f32, .fl .f32, .fl .f32]) Try.underlying22 (by kernel_rfl) rfl (by kernel_rfl) (hval 0 22 v0 rfl rfl) k0
    rcases op0 with rfl | ⟨b0, o0, len0, cap0, rfl, hl0, bk0⟩
    · skip
      have hra : RelA (fun _ => none) [.one (.val (.slice none 0 0))] (#[.slice none 0 0] : Array Value).toList := ⟨⟨rfl, rfl⟩, trivial⟩
      exact calls_of_ctr (P := Try.prog) k_z_w_FnExactMassOfBodies (f := 3) (by kernel_rfl) Try.func3 (by kernel_rfl) (root := bodyOf Try.f3) (by kernel_rfl) (ρ := (fun _ => none)) (memOK_nil W) hra (any_n )
    · have hlen0 : len0 ≤ 9223372036854775807 := by have e : maxLen = 9223372036854775807 := rfl; omega
      have hra : RelA (rho1 b0 o0) [.one (.sl 0 7 0 len0 cap0 false)] (#[.slice (some ⟨b0, o0, none⟩) len0 cap0] : Array Value).toList := ⟨⟨b0, o0, rfl, by simp⟩, trivial⟩
      exact calls_of_ctr (P := Try.prog) k_law (f := 3) (by kernel_rfl) Try.func3 (by kernel_rfl) (root := bodyOf Try.f3) (by kernel_rfl) (ρ := (rho1 b0 o0)) (memOK_one bk0) hra (any_r len0 cap0 hlen0 _ _ _ _ _ _ _)

theorem holds : Rows.FnExactMassOfBodiesSaid :=
  OpenClaim.holds_of_wide 3 Try.f3 rfl rfl rfl rfl rfl rfl rfl ⟨rfl, rfl, rfl, rfl, rfl⟩ rfl rfl rfl rfl rfl (by kernel_rfl) Try.func3 (by kernel_rfl)
    (of_decide_eq_true (by kernel_rfl)) (by unfold Func.isWrapper; first | (rw [if_pos (by decide +kernel)]; kernel_rfl) | (rw [if_neg (by decide +kernel)]; exact ⟨rfl, rfl⟩))
    (fun os started H enc _ => lifted os started H enc)

end Go.Proofs.Ytdkhpadbpeapjaa.fnExactMassOfBodies
