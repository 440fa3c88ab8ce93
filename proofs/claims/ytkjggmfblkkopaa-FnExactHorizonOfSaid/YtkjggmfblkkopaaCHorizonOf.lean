/-
  FnExactHorizonOf: for all arguments, the program answers as the reference does. No conditions.
-/
import Derived.Test.YtkjggmfblkkopaaSc
import Derived.Test.YtkjggmfblkkopaaEq
import Derived.Test.YtkjggmfblkkopaaRows
import Derived.Test.YtkjggmfblkkopaaRo
import Derived.Test.YtkjggmfblkkopaaRs
namespace Go.Proofs.Ytkjggmfblkkopaa.fnExactHorizonOf
set_option linter.unusedVariables false
set_option linter.unusedSimpArgs false
open Go.RowKit Go.ChangeShapes Go.WideShapes

theorem own : ownKnob Try.prog.godebug = none := by kernel_rfl
theorem laidOut : laidOutB Try.prog = true := by kernel_rfl

noncomputable def k_z_w_toBall : Ctr Try.prog := (mkF Try.prog mix [] 16 Try.f16 (bodyOf Try.f16) Try.func16 (by kernel_rfl) (by kernel_rfl) [0, 1, 2, 3] 17 (by kernel_rfl) (by kernel_rfl)).mg
noncomputable def k_z_s_l02Least : Ctr Try.prog := (mkF Try.prog mix [k_l01Finite] 64 Try.f64 (bodyOf Try.f64) Try.func64 (by kernel_rfl) (by kernel_rfl) [0, 2] 9 (by kernel_rfl) (by kernel_rfl)).mg
noncomputable def k_z_s_l02Number : Ctr Try.prog := (mkF Try.prog mix [k_l01Finite] 66 Try.f66 (bodyOf Try.f66) Try.func66 (by kernel_rfl) (by kernel_rfl) [0, 2, 3, 6] 8 (by kernel_rfl) (by kernel_rfl)).mg
noncomputable def k_z_s_HorizonOf : Ctr Try.prog := (mkF Try.prog mix [k_svb, k_z_s_l02Least, k_l01Sqrt, k_z_s_l02Number, k_l01Angle] 19 Try.f19 (bodyOf Try.f19) Try.func19 (by kernel_rfl) (by kernel_rfl) [0, 1, 2, 4, 5, 6, 13] 29 (by kernel_rfl) (by kernel_rfl)).mg
noncomputable def k_z_i_aMass : Ctr Try.prog := (mkF Try.prog mix [k_IsFinite] 68 Try.f68 (bodyOf Try.f68) Try.func68 (by kernel_rfl) (by kernel_rfl) [0, 2] 9 (by kernel_rfl) (by kernel_rfl)).mg
noncomputable def k_z_i_told : Ctr Try.prog := (mkF Try.prog mix [k_IsFinite] 69 Try.f69 (bodyOf Try.f69) Try.func69 (by kernel_rfl) (by kernel_rfl) [0, 2, 3, 6] 8 (by kernel_rfl) (by kernel_rfl)).mg
noncomputable def k_z_i_HorizonOf : Ctr Try.prog := (mkF Try.prog mix [k_ivb, k_z_i_aMass, k_z_i_told, k_AngleTurns, k_RootNumber] 20 Try.f20 (bodyOf Try.f20) Try.func20 (by kernel_rfl) (by kernel_rfl) [0, 1, 2, 4, 5, 13] 28 (by kernel_rfl) (by kernel_rfl)).mg
noncomputable def k_z_w_FnExactHorizonOf : Ctr Try.prog := mkF Try.prog mix [k_z_w_toBall, k_z_s_HorizonOf, k_z_i_HorizonOf, k_sameFloat] 4 Try.f4 (bodyOf Try.f4) Try.func4 (by kernel_rfl) (by kernel_rfl) [0, 1, 2, 4, 5, 6, 7, 8, 33, 199] 34 (by kernel_rfl) (by kernel_rfl)

theorem tree_ (v0_0 : Nat)  (v0_1 : Nat)  (v0_2 : Nat)  (v0_3 : Nat)  (v1_0 : Nat)  : k_z_w_FnExactHorizonOf.run [.agg [.fl .f32 v0_0, .fl .f32 v0_1, .fl .f32 v0_2, .fl .f32 v0_3], .one (.fl .f32 v1_0)] [] =
    (T.need (decide
    (fcvt FloatKind.f32 FloatKind.f64
        (bif
            bif !vb v0_0 v0_1 v0_2 v0_3 then true
            else !bif fin FloatKind.f32 v1_0 then fge FloatKind.f32 v1_0 (canon FloatKind.f32 0) else false then
          canon FloatKind.f32 0
        else
          bif
              !fin FloatKind.f32
                  (angleV
                    (rootV
                      (fmul FloatKind.f32 v1_0
                        (fadd FloatKind.f32 (fmul FloatKind.f32 (canon FloatKind.f32 1073741824) v0_1) v1_0)))
                    v0_1) then
            canon FloatKind.f32 0
          else
            angleV
              (rootV
                (fmul FloatKind.f32 v1_0
                  (fadd FloatKind.f32 (fmul FloatKind.f32 (canon FloatKind.f32 1073741824) v0_1) v1_0)))
              v0_1) =
      fcvt FloatKind.f32 FloatKind.f64
        (bif
            bif !vb v0_0 v0_1 v0_2 v0_3 then true
            else !bif fin FloatKind.f32 v1_0 then fge FloatKind.f32 v1_0 (canon FloatKind.f32 0) else false then
          canon FloatKind.f32 0
        else
          bif
              !fin FloatKind.f32
                  (angleV
                    (rootV
                      (fmul FloatKind.f32 v1_0
                        (fadd FloatKind.f32 (fmul FloatKind.f32 (canon FloatKind.f32 1073741824) v0_1) v1_0)))
                    v0_1) then
            canon FloatKind.f32 0
          else
            angleV
              (rootV
                (fmul FloatKind.f32 v1_0
                  (fadd FloatKind.f32 (fmul FloatKind.f32 (canon FloatKind.f32 1073741824) v0_1) v1_0)))
              v0_1))) (T.leaf (AV.one
        (SV.bo
          !(bif
                  bif !vb v0_0 v0_1 v0_2 v0_3 then true
                  else !bif fin FloatKind.f32 v1_0 then fge FloatKind.f32 v1_0 (canon FloatKind.f32 0) else false then
                false
              else
                !!fin FloatKind.f32
                      (angleV
                        (rootV
                          (fmul FloatKind.f32 v1_0
                            (fadd FloatKind.f32 (fmul FloatKind.f32 (canon FloatKind.f32 1073741824) v0_1) v1_0)))
                        v0_1)) !=
              bif
                  bif !vb v0_0 v0_1 v0_2 v0_3 then true
                  else !bif fin FloatKind.f32 v1_0 then fge FloatKind.f32 v1_0 (canon FloatKind.f32 0) else false then
                false
              else
                !!fin FloatKind.f32
                      (angleV
                        (rootV
                          (fmul FloatKind.f32 v1_0
                            (fadd FloatKind.f32 (fmul FloatKind.f32 (canon FloatKind.f32 1073741824) v0_1) v1_0)))
                        v0_1)),
      []))) := by kernel_rfl

theorem any_ (v0_0 : Nat) (hv0_0 : Can .f32 v0_0) (v0_1 : Nat) (hv0_1 : Can .f32 v0_1) (v0_2 : Nat) (hv0_2 : Can .f32 v0_2) (v0_3 : Nat) (hv0_3 : Can .f32 v0_3) (v1_0 : Nat) (hv1_0 : Can .f32 v1_0) : Yes k_z_w_FnExactHorizonOf [.agg [.fl .f32 v0_0, .fl .f32 v0_1, .fl .f32 v0_2, .fl .f32 v0_3], .one (.fl .f32 v1_0)] [] := by
  constructor
  rw [tree_]
  exact T.h_need (decide_eq_true rfl) (T.h_leaf (.inr (congrArg (fun b => AV.one (SV.bo b)) (not_bne _))))

set_option maxRecDepth 100000 in
theorem lifted (os : Os) (started : os.Started) (H : Type) (enc : TypeId × Value → H) :
    ReturnsInHanded {} Try.checked os 4 .any (Rows.fnExactHorizonOfSpec.pre6 enc Try.prog Try.f4 Rows.fnExactHorizonOfRow.domain false) (Rows.fnExactHorizonOfSpec.post enc Try.prog Try.f4 false true false false) := by
  refine returnsInHanded_of_change (C := Try.checked) own started (by kernel_rfl) Try.func4
    (ChangeSpec.witness6 (enc := enc) (C := Try.checked) false ⟨#[], #[.agg #[.float .f32 0, .float .f32 0, .float .f32 0, .float .f32 0], .float .f32 0], []⟩ 8 (by kernel_rfl) (by kernel_rfl) (by kernel_rfl) (by kernel_rfl)) ?_
  intro W base args ds gs before hval0 hW _ _
  have hval : ∀ (j : Nat) t v, Try.f4.params[j]? = some t → args[j]? = some v → Value.okWide Try.prog W .any base t v := hval0
  refine post_true (P := Try.prog) (s := Rows.fnExactHorizonOfSpec) (fn := Try.f4) (tb := 4) rfl laidOut (by kernel_rfl) (by kernel_rfl) Try.underlying4 (fun ds hlen => ?_) hW ?_
  · have hlen : ds.length = 2 := hlen.trans (by kernel_rfl)
    match ds, hlen with
    | [d0, d1], _ => rfl
  · obtain ⟨p, q, hA0, hV, rfl, hfz, hnd⟩ := hW
    have hA : DataW.TrodAll enc Try.prog W 0 (fun _ => true) true Try.f4.params.toList args.toList ds p := hA0
    rw [Try.params4] at hA hval
    obtain ⟨v0, vs0, d0, ds0, p0, q0, hargs0, rfl, rfl, k0, r0⟩ := trodAll_cons hA
    obtain ⟨v1, vs1, d1, ds1, p1, q1, hargs1, rfl, rfl, k1, r1⟩ := trodAll_cons r0
    obtain ⟨rfl, rfl, rfl⟩ := trodAll_nil r1
    subst hargs1
    obtain rfl : args = #[v0, v1] := by cases args; simp_all
    obtain ⟨ss0, a0, b0⟩ := open_struct (P := Try.prog) (n := 4) (ks := [.fl .f32, .fl .f32, .fl .f32, .fl .f32]) (fun _ => none) Try.underlying24 (by kernel_rfl) rfl (hval 0 24 v0 rfl rfl) k0
    obtain ⟨v0_0, _, rfl, hv0_0, v0_1, _, rfl, hv0_1, v0_2, _, rfl, hv0_2, v0_3, _, rfl, hv0_3, rfl⟩ := b0
    obtain ⟨s1, a1, b1⟩ := open_cell (P := Try.prog) (n := 4) (k := .fl .f32) (fun _ => none) (by rw [Try.underlying22]) (by kernel_rfl) rfl (hval 1 22 v1 rfl rfl) k1
    obtain ⟨v1_0, _, e1, hv1_0, rfl⟩ := b1
    obtain rfl : s1 = .fl .f32 v1_0 := (List.cons.inj e1).1
    have hra : RelA (fun _ => none) [.agg [.fl .f32 v0_0, .fl .f32 v0_1, .fl .f32 v0_2, .fl .f32 v0_3], .one (.fl .f32 v1_0)] (#[v0, v1] : Array Value).toList := ⟨(av_any (ρ := fun _ => none) rfl a0), (av_any (ρ := fun _ => none) rfl a1), trivial⟩
    exact calls_of_ctr (P := Try.prog) k_z_w_FnExactHorizonOf (f := 4) (by kernel_rfl) Try.func4 (by kernel_rfl) (root := bodyOf Try.f4) (by kernel_rfl) (ρ := (fun _ => none)) (memOK_nil W) hra (any_ v0_0 hv0_0 v0_1 hv0_1 v0_2 hv0_2 v0_3 hv0_3 v1_0 hv1_0)

theorem holds : Rows.FnExactHorizonOfSaid :=
  OpenClaim.holds_of_wide 4 Try.f4 rfl rfl rfl rfl rfl rfl rfl ⟨rfl, rfl, rfl, rfl, rfl⟩ rfl rfl rfl rfl rfl (by kernel_rfl) Try.func4 (by kernel_rfl)
    (of_decide_eq_true (by kernel_rfl)) (by unfold Func.isWrapper; first | (rw [if_pos (by decide +kernel)]; kernel_rfl) | (rw [if_neg (by decide +kernel)]; exact ⟨rfl, rfl⟩))
    (fun os started H enc _ => lifted os started H enc)

end Go.Proofs.Ytkjggmfblkkopaa.fnExactHorizonOf
