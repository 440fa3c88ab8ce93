/-
  FnExactArcBetween: for all arguments, the program answers as the reference does. No conditions.
-/
import Derived.Test.YtkjggmfblkkopaaSd
import Derived.Test.YtkjggmfblkkopaaEq
import Derived.Test.YtkjggmfblkkopaaRows
import Derived.Test.YtkjggmfblkkopaaRo
import Derived.Test.YtkjggmfblkkopaaRs
namespace Go.Proofs.Ytkjggmfblkkopaa.fnExactArcBetween
set_option linter.unusedVariables false
set_option linter.unusedSimpArgs false
open Go.RowKit Go.ChangeShapes Go.WideShapes

theorem own : ownKnob Try.prog.godebug = none := by kernel_rfl
theorem laidOut : laidOutB Try.prog = true := by kernel_rfl

noncomputable def k_z_w_toMark : Ctr Try.prog := (mkF Try.prog mix [] 23 Try.f23 (bodyOf Try.f23) Try.func23 (by kernel_rfl) (by kernel_rfl) [0, 1, 2, 3] 14 (by kernel_rfl) (by kernel_rfl)).mg
noncomputable def k_z_w_FnExactArcBetween : Ctr Try.prog := mkF Try.prog mix [k_sameFloat, k_z_w_toMark, k_sArcBetween, k_iArcBetween] 6 Try.f6 (bodyOf Try.f6) Try.func6 (by kernel_rfl) (by kernel_rfl) [0, 1, 2, 3, 4, 5, 6, 7, 8, 35, 199] 36 (by kernel_rfl) (by kernel_rfl)

theorem tree_ (v0_0 : Nat)  (v0_1 : Nat)  (v0_2 : Nat)  (v1_0 : Nat)  (v1_1 : Nat)  (v1_2 : Nat)  : k_z_w_FnExactArcBetween.run [.agg [.fl .f32 v0_0, .fl .f32 v0_1, .fl .f32 v0_2], .agg [.fl .f32 v1_0, .fl .f32 v1_1, .fl .f32 v1_2]] [] =
    (T.need (decide
    (fcvt FloatKind.f32 FloatKind.f64
        (bif
            bif
                !bif fge FloatKind.f32 v0_0 3196059648 then
                    bif fle FloatKind.f32 v0_0 1048576000 then
                      bif fge FloatKind.f32 v0_1 3204448256 then
                        bif flt FloatKind.f32 v0_1 1056964608 then fin FloatKind.f32 v0_2 else false
                      else false
                    else false
                  else false then
              true
            else
              !bif fge FloatKind.f32 v1_0 3196059648 then
                  bif fle FloatKind.f32 v1_0 1048576000 then
                    bif fge FloatKind.f32 v1_1 3204448256 then
                      bif flt FloatKind.f32 v1_1 1056964608 then fin FloatKind.f32 v1_2 else false
                    else false
                  else false
                else false then
          canon FloatKind.f32 0
        else
          bif
              !fin FloatKind.f32
                  (arcA (plX 1065353216 0 0 v0_0 v0_1 0 0) (plY 1065353216 0 0 v0_0 v0_1 0 0) (plZ 1065353216 v0_0 0)
                    (plX 1065353216 0 0 v1_0 v1_1 0 0) (plY 1065353216 0 0 v1_0 v1_1 0 0) (plZ 1065353216 v1_0 0)) then
            canon FloatKind.f32 0
          else
            arcA (plX 1065353216 0 0 v0_0 v0_1 0 0) (plY 1065353216 0 0 v0_0 v0_1 0 0) (plZ 1065353216 v0_0 0)
              (plX 1065353216 0 0 v1_0 v1_1 0 0) (plY 1065353216 0 0 v1_0 v1_1 0 0) (plZ 1065353216 v1_0 0)) =
      fcvt FloatKind.f32 FloatKind.f64
        (bif
            bif
                !bif fge FloatKind.f32 v0_0 3196059648 then
                    bif fle FloatKind.f32 v0_0 1048576000 then
                      bif fge FloatKind.f32 v0_1 3204448256 then
                        bif flt FloatKind.f32 v0_1 1056964608 then fin FloatKind.f32 v0_2 else false
                      else false
                    else false
                  else false then
              true
            else
              !bif fge FloatKind.f32 v1_0 3196059648 then
                  bif fle FloatKind.f32 v1_0 1048576000 then
                    bif fge FloatKind.f32 v1_1 3204448256 then
                      bif flt FloatKind.f32 v1_1 1056964608 then fin FloatKind.f32 v1_2 else false
                    else false
                  else false
                else false then
          canon FloatKind.f32 0
        else
          bif
              !fin FloatKind.f32
                  (arcA (plX 1065353216 0 0 v0_0 v0_1 0 0) (plY 1065353216 0 0 v0_0 v0_1 0 0) (plZ 1065353216 v0_0 0)
                    (plX 1065353216 0 0 v1_0 v1_1 0 0) (plY 1065353216 0 0 v1_0 v1_1 0 0) (plZ 1065353216 v1_0 0)) then
            canon FloatKind.f32 0
          else
            arcA (plX 1065353216 0 0 v0_0 v0_1 0 0) (plY 1065353216 0 0 v0_0 v0_1 0 0) (plZ 1065353216 v0_0 0)
              (plX 1065353216 0 0 v1_0 v1_1 0 0) (plY 1065353216 0 0 v1_0 v1_1 0 0) (plZ 1065353216 v1_0 0)))) (T.leaf (AV.one
        (SV.bo
          !(bif
                  bif
                      !bif fge FloatKind.f32 v0_0 3196059648 then
                          bif fle FloatKind.f32 v0_0 1048576000 then
                            bif fge FloatKind.f32 v0_1 3204448256 then
                              bif flt FloatKind.f32 v0_1 1056964608 then fin FloatKind.f32 v0_2 else false
                            else false
                          else false
                        else false then
                    true
                  else
                    !bif fge FloatKind.f32 v1_0 3196059648 then
                        bif fle FloatKind.f32 v1_0 1048576000 then
                          bif fge FloatKind.f32 v1_1 3204448256 then
                            bif flt FloatKind.f32 v1_1 1056964608 then fin FloatKind.f32 v1_2 else false
                          else false
                        else false
                      else false then
                false
              else
                !!fin FloatKind.f32
                      (arcA (plX 1065353216 0 0 v0_0 v0_1 0 0) (plY 1065353216 0 0 v0_0 v0_1 0 0)
                        (plZ 1065353216 v0_0 0) (plX 1065353216 0 0 v1_0 v1_1 0 0) (plY 1065353216 0 0 v1_0 v1_1 0 0)
                        (plZ 1065353216 v1_0 0))) !=
              bif
                  bif
                      !bif fge FloatKind.f32 v0_0 3196059648 then
                          bif fle FloatKind.f32 v0_0 1048576000 then
                            bif fge FloatKind.f32 v0_1 3204448256 then
                              bif flt FloatKind.f32 v0_1 1056964608 then fin FloatKind.f32 v0_2 else false
                            else false
                          else false
                        else false then
                    true
                  else
                    !bif fge FloatKind.f32 v1_0 3196059648 then
                        bif fle FloatKind.f32 v1_0 1048576000 then
                          bif fge FloatKind.f32 v1_1 3204448256 then
                            bif flt FloatKind.f32 v1_1 1056964608 then fin FloatKind.f32 v1_2 else false
                          else false
                        else false
                      else false then
                false
              else
                !!fin FloatKind.f32
                      (arcA (plX 1065353216 0 0 v0_0 v0_1 0 0) (plY 1065353216 0 0 v0_0 v0_1 0 0)
                        (plZ 1065353216 v0_0 0) (plX 1065353216 0 0 v1_0 v1_1 0 0) (plY 1065353216 0 0 v1_0 v1_1 0 0)
                        (plZ 1065353216 v1_0 0))),
      []))) := by kernel_rfl

theorem any_ (v0_0 : Nat) (hv0_0 : Can .f32 v0_0) (v0_1 : Nat) (hv0_1 : Can .f32 v0_1) (v0_2 : Nat) (hv0_2 : Can .f32 v0_2) (v1_0 : Nat) (hv1_0 : Can .f32 v1_0) (v1_1 : Nat) (hv1_1 : Can .f32 v1_1) (v1_2 : Nat) (hv1_2 : Can .f32 v1_2) : Yes k_z_w_FnExactArcBetween [.agg [.fl .f32 v0_0, .fl .f32 v0_1, .fl .f32 v0_2], .agg [.fl .f32 v1_0, .fl .f32 v1_1, .fl .f32 v1_2]] [] := by
  constructor
  rw [tree_]
  exact T.h_need (decide_eq_true rfl) (T.h_leaf (.inr (congrArg (fun b => AV.one (SV.bo b)) (not_bne _))))

set_option maxRecDepth 100000 in
theorem lifted (os : Os) (started : os.Started) (H : Type) (enc : TypeId × Value → H) :
    ReturnsInHanded {} Try.checked os 6 .any (Rows.fnExactArcBetweenSpec.pre6 enc Try.prog Try.f6 Rows.fnExactArcBetweenRow.domain false) (Rows.fnExactArcBetweenSpec.post enc Try.prog Try.f6 false true false false) := by
  refine returnsInHanded_of_change (C := Try.checked) own started (by kernel_rfl) Try.func6
    (ChangeSpec.witness6 (enc := enc) (C := Try.checked) false ⟨#[], #[.agg #[.float .f32 0, .float .f32 0, .float .f32 0], .agg #[.float .f32 0, .float .f32 0, .float .f32 0]], []⟩ 8 (by kernel_rfl) (by kernel_rfl) (by kernel_rfl) (by kernel_rfl)) ?_
  intro W base args ds gs before hval0 hW _ _
  have hval : ∀ (j : Nat) t v, Try.f6.params[j]? = some t → args[j]? = some v → Value.okWide Try.prog W .any base t v := hval0
  refine post_true (P := Try.prog) (s := Rows.fnExactArcBetweenSpec) (fn := Try.f6) (tb := 4) rfl laidOut (by kernel_rfl) (by kernel_rfl) Try.underlying4 (fun ds hlen => ?_) hW ?_
  · have hlen : ds.length = 2 := hlen.trans (by kernel_rfl)
    match ds, hlen with
    | [d0, d1], _ => rfl
  · obtain ⟨p, q, hA0, hV, rfl, hfz, hnd⟩ := hW
    have hA : DataW.TrodAll enc Try.prog W 0 (fun _ => true) true Try.f6.params.toList args.toList ds p := hA0
    rw [Try.params6] at hA hval
    obtain ⟨v0, vs0, d0, ds0, p0, q0, hargs0, rfl, rfl, k0, r0⟩ := trodAll_cons hA
    obtain ⟨v1, vs1, d1, ds1, p1, q1, hargs1, rfl, rfl, k1, r1⟩ := trodAll_cons r0
    obtain ⟨rfl, rfl, rfl⟩ := trodAll_nil r1
    subst hargs1
    obtain rfl : args = #[v0, v1] := by cases args; simp_all
    obtain ⟨ss0, a0, b0⟩ := open_struct (P := Try.prog) (n := 4) (ks := [.fl .f32, .fl .f32, .fl .f32]) (fun _ => none) Try.underlying40 (by kernel_rfl) rfl (hval 0 40 v0 rfl rfl) k0
    obtain ⟨v0_0, _, rfl, hv0_0, v0_1, _, rfl, hv0_1, v0_2, _, rfl, hv0_2, rfl⟩ := b0
    obtain ⟨ss1, a1, b1⟩ := open_struct (P := Try.prog) (n := 4) (ks := [.fl .f32, .fl .f32, .fl .f32]) (fun _ => none) Try.underlying40 (by kernel_rfl) rfl (hval 1 40 v1 rfl rfl) k1
    obtain ⟨v1_0, _, rfl, hv1_0, v1_1, _, rfl, hv1_1, v1_2, _, rfl, hv1_2, rfl⟩ := b1
    have hra : RelA (fun _ => none) [.agg [.fl .f32 v0_0, .fl .f32 v0_1, .fl .f32 v0_2], .agg [.fl .f32 v1_0, .fl .f32 v1_1, .fl .f32 v1_2]] (#[v0, v1] : Array Value).toList := ⟨(av_any (ρ := fun _ => none) rfl a0), (av_any (ρ := fun _ => none) rfl a1), trivial⟩
    exact calls_of_ctr (P := Try.prog) k_z_w_FnExactArcBetween (f := 6) (by kernel_rfl) Try.func6 (by kernel_rfl) (root := bodyOf Try.f6) (by kernel_rfl) (ρ := (fun _ => none)) (memOK_nil W) hra (any_ v0_0 hv0_0 v0_1 hv0_1 v0_2 hv0_2 v1_0 hv1_0 v1_1 hv1_1 v1_2 hv1_2)

theorem holds : Rows.FnExactArcBetweenSaid :=
  OpenClaim.holds_of_wide 6 Try.f6 rfl rfl rfl rfl rfl rfl rfl ⟨rfl, rfl, rfl, rfl, rfl⟩ rfl rfl rfl rfl rfl (by kernel_rfl) Try.func6 (by kernel_rfl)
    (of_decide_eq_true (by kernel_rfl)) (by unfold Func.isWrapper; first | (rw [if_pos (by decide +kernel)]; kernel_rfl) | (rw [if_neg (by decide +kernel)]; exact ⟨rfl, rfl⟩))
    (fun os started H enc _ => lifted os started H enc)

end Go.Proofs.Ytkjggmfblkkopaa.fnExactArcBetween
