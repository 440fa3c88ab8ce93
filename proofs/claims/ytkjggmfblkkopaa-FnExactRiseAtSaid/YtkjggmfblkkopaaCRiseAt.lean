/-
  FnExactRiseAt: for all arguments, the program answers as the reference does. No conditions.
-/
import Derived.Test.YtkjggmfblkkopaaSd
import Derived.Test.YtkjggmfblkkopaaEq
import Derived.Test.YtkjggmfblkkopaaRows
import Derived.Test.YtkjggmfblkkopaaRo
import Derived.Test.YtkjggmfblkkopaaRs
namespace Go.Proofs.Ytkjggmfblkkopaa.fnExactRiseAt
set_option linter.unusedVariables false
set_option linter.unusedSimpArgs false
open Go.RowKit Go.ChangeShapes Go.WideShapes

theorem own : ownKnob Try.prog.godebug = none := by kernel_rfl
theorem laidOut : laidOutB Try.prog = true := by kernel_rfl

noncomputable def k_z_w_toBall : Ctr Try.prog := (mkF Try.prog mix [] 16 Try.f16 (bodyOf Try.f16) Try.func16 (by kernel_rfl) (by kernel_rfl) [0, 1, 2, 3] 17 (by kernel_rfl) (by kernel_rfl)).mg
noncomputable def k_z_w_toVector : Ctr Try.prog := (mkF Try.prog mix [] 17 Try.f17 (bodyOf Try.f17) Try.func17 (by kernel_rfl) (by kernel_rfl) [0, 1, 2, 3] 14 (by kernel_rfl) (by kernel_rfl)).mg
noncomputable def k_z_w_toMark : Ctr Try.prog := (mkF Try.prog mix [] 23 Try.f23 (bodyOf Try.f23) Try.func23 (by kernel_rfl) (by kernel_rfl) [0, 1, 2, 3] 14 (by kernel_rfl) (by kernel_rfl)).mg
noncomputable def k_z_w_FnExactRiseAt : Ctr Try.prog := mkF Try.prog mix [k_z_w_toBall, k_z_w_toVector, k_sameFloat, k_z_w_toMark, k_sRiseAt, k_iRiseAt] 7 Try.f7 (bodyOf Try.f7) Try.func7 (by kernel_rfl) (by kernel_rfl) [0, 1, 2, 3, 4, 5, 6, 8, 9, 10, 11, 12, 45, 199] 46 (by kernel_rfl) (by kernel_rfl)

theorem tree_ (v0_0 : Nat)  (v0_1 : Nat)  (v0_2 : Nat)  (v0_3 : Nat)  (v1_0 : Nat)  (v1_1 : Nat)  (v1_2 : Nat)  (v2_0 : Nat)  (v2_1 : Nat)  (v2_2 : Nat)  (v3_0 : Nat)  : k_z_w_FnExactRiseAt.run [.agg [.fl .f32 v0_0, .fl .f32 v0_1, .fl .f32 v0_2, .fl .f32 v0_3], .agg [.fl .f32 v1_0, .fl .f32 v1_1, .fl .f32 v1_2], .agg [.fl .f32 v2_0, .fl .f32 v2_1, .fl .f32 v2_2], .one (.fl .f32 v3_0)] [] =
    (T.need (decide
    (fcvt FloatKind.f32 FloatKind.f64
        (bif
            bif !vb v0_0 v0_1 v0_2 v0_3 then true
            else
              bif
                  !bif fge FloatKind.f32 v1_0 3196059648 then
                      bif fle FloatKind.f32 v1_0 1048576000 then
                        bif fge FloatKind.f32 v1_1 3204448256 then
                          bif flt FloatKind.f32 v1_1 1056964608 then fin FloatKind.f32 v1_2 else false
                        else false
                      else false
                    else false then
                true
              else bif !fv v2_0 v2_1 v2_2 then true else !fin FloatKind.f32 v3_0 then
          canon FloatKind.f32 0
        else
          bif
              !fin FloatKind.f32
                  (rise (plX v0_1 v0_2 v0_3 v1_0 v1_1 v1_2 v3_0) (plY v0_1 v0_2 v0_3 v1_0 v1_1 v1_2 v3_0)
                    (plZ v0_1 v1_0 v1_2) v2_0 v2_1 v2_2) then
            canon FloatKind.f32 0
          else
            rise (plX v0_1 v0_2 v0_3 v1_0 v1_1 v1_2 v3_0) (plY v0_1 v0_2 v0_3 v1_0 v1_1 v1_2 v3_0) (plZ v0_1 v1_0 v1_2)
              v2_0 v2_1 v2_2) =
      fcvt FloatKind.f32 FloatKind.f64
        (bif
            bif !vb v0_0 v0_1 v0_2 v0_3 then true
            else
              bif
                  !bif fge FloatKind.f32 v1_0 3196059648 then
                      bif fle FloatKind.f32 v1_0 1048576000 then
                        bif fge FloatKind.f32 v1_1 3204448256 then
                          bif flt FloatKind.f32 v1_1 1056964608 then fin FloatKind.f32 v1_2 else false
                        else false
                      else false
                    else false then
                true
              else bif !fv v2_0 v2_1 v2_2 then true else !fin FloatKind.f32 v3_0 then
          canon FloatKind.f32 0
        else
          bif
              !fin FloatKind.f32
                  (rise (plX v0_1 v0_2 v0_3 v1_0 v1_1 v1_2 v3_0) (plY v0_1 v0_2 v0_3 v1_0 v1_1 v1_2 v3_0)
                    (plZ v0_1 v1_0 v1_2) v2_0 v2_1 v2_2) then
            canon FloatKind.f32 0
          else
            rise (plX v0_1 v0_2 v0_3 v1_0 v1_1 v1_2 v3_0) (plY v0_1 v0_2 v0_3 v1_0 v1_1 v1_2 v3_0) (plZ v0_1 v1_0 v1_2)
              v2_0 v2_1 v2_2))) (T.leaf (AV.one
        (SV.bo
          !(bif
                  bif !vb v0_0 v0_1 v0_2 v0_3 then true
                  else
                    bif
                        !bif fge FloatKind.f32 v1_0 3196059648 then
                            bif fle FloatKind.f32 v1_0 1048576000 then
                              bif fge FloatKind.f32 v1_1 3204448256 then
                                bif flt FloatKind.f32 v1_1 1056964608 then fin FloatKind.f32 v1_2 else false
                              else false
                            else false
                          else false then
                      true
                    else bif !fv v2_0 v2_1 v2_2 then true else !fin FloatKind.f32 v3_0 then
                false
              else
                !!fin FloatKind.f32
                      (rise (plX v0_1 v0_2 v0_3 v1_0 v1_1 v1_2 v3_0) (plY v0_1 v0_2 v0_3 v1_0 v1_1 v1_2 v3_0)
                        (plZ v0_1 v1_0 v1_2) v2_0 v2_1 v2_2)) !=
              bif
                  bif !vb v0_0 v0_1 v0_2 v0_3 then true
                  else
                    bif
                        !bif fge FloatKind.f32 v1_0 3196059648 then
                            bif fle FloatKind.f32 v1_0 1048576000 then
                              bif fge FloatKind.f32 v1_1 3204448256 then
                                bif flt FloatKind.f32 v1_1 1056964608 then fin FloatKind.f32 v1_2 else false
                              else false
                            else false
                          else false then
                      true
                    else bif !fv v2_0 v2_1 v2_2 then true else !fin FloatKind.f32 v3_0 then
                false
              else
                !!fin FloatKind.f32
                      (rise (plX v0_1 v0_2 v0_3 v1_0 v1_1 v1_2 v3_0) (plY v0_1 v0_2 v0_3 v1_0 v1_1 v1_2 v3_0)
                        (plZ v0_1 v1_0 v1_2) v2_0 v2_1 v2_2)),
      []))) := by kernel_rfl

theorem any_ (v0_0 : Nat) (hv0_0 : Can .f32 v0_0) (v0_1 : Nat) (hv0_1 : Can .f32 v0_1) (v0_2 : Nat) (hv0_2 : Can .f32 v0_2) (v0_3 : Nat) (hv0_3 : Can .f32 v0_3) (v1_0 : Nat) (hv1_0 : Can .f32 v1_0) (v1_1 : Nat) (hv1_1 : Can .f32 v1_1) (v1_2 : Nat) (hv1_2 : Can .f32 v1_2) (v2_0 : Nat) (hv2_0 : Can .f32 v2_0) (v2_1 : Nat) (hv2_1 : Can .f32 v2_1) (v2_2 : Nat) (hv2_2 : Can .f32 v2_2) (v3_0 : Nat) (hv3_0 : Can .f32 v3_0) : Yes k_z_w_FnExactRiseAt [.agg [.fl .f32 v0_0, .fl .f32 v0_1, .fl .f32 v0_2, .fl .f32 v0_3], .agg [.fl .f32 v1_0, .fl .f32 v1_1, .fl .f32 v1_2], .agg [.fl .f32 v2_0, .fl .f32 v2_1, .fl .f32 v2_2], .one (.fl .f32 v3_0)] [] := by
  constructor
  rw [tree_]
  exact T.h_need (decide_eq_true rfl) (T.h_leaf (.inr (congrArg (fun b => AV.one (SV.bo b)) (not_bne _))))

set_option maxRecDepth 100000 in
theorem lifted (os : Os) (started : os.Started) (H : Type) (enc : TypeId × Value → H) :
    ReturnsInHanded {} Try.checked os 7 .any (Rows.fnExactRiseAtSpec.pre6 enc Try.prog Try.f7 Rows.fnExactRiseAtRow.domain false) (Rows.fnExactRiseAtSpec.post enc Try.prog Try.f7 false true false false) := by
  refine returnsInHanded_of_change (C := Try.checked) own started (by kernel_rfl) Try.func7
    (ChangeSpec.witness6 (enc := enc) (C := Try.checked) false ⟨#[], #[.agg #[.float .f32 0, .float .f32 0, .float .f32 0, .float .f32 0], .agg #[.float .f32 0, .float .f32 0, .float .f32 0], .agg #[.float .f32 0, .float .f32 0, .float .f32 0], .float .f32 0], []⟩ 8 (by kernel_rfl) (by kernel_rfl) (by kernel_rfl) (by kernel_rfl)) ?_
  intro W base args ds gs before hval0 hW _ _
  have hval : ∀ (j : Nat) t v, Try.f7.params[j]? = some t → args[j]? = some v → Value.okWide Try.prog W .any base t v := hval0
  refine post_true (P := Try.prog) (s := Rows.fnExactRiseAtSpec) (fn := Try.f7) (tb := 4) rfl laidOut (by kernel_rfl) (by kernel_rfl) Try.underlying4 (fun ds hlen => ?_) hW ?_
  · have hlen : ds.length = 4 := hlen.trans (by kernel_rfl)
    match ds, hlen with
    | [d0, d1, d2, d3], _ => rfl
  · obtain ⟨p, q, hA0, hV, rfl, hfz, hnd⟩ := hW
    have hA : DataW.TrodAll enc Try.prog W 0 (fun _ => true) true Try.f7.params.toList args.toList ds p := hA0
    rw [Try.params7] at hA hval
    obtain ⟨v0, vs0, d0, ds0, p0, q0, hargs0, rfl, rfl, k0, r0⟩ := trodAll_cons hA
    obtain ⟨v1, vs1, d1, ds1, p1, q1, hargs1, rfl, rfl, k1, r1⟩ := trodAll_cons r0
    obtain ⟨v2, vs2, d2, ds2, p2, q2, hargs2, rfl, rfl, k2, r2⟩ := trodAll_cons r1
    obtain ⟨v3, vs3, d3, ds3, p3, q3, hargs3, rfl, rfl, k3, r3⟩ := trodAll_cons r2
    obtain ⟨rfl, rfl, rfl⟩ := trodAll_nil r3
    subst hargs3
    subst hargs2
    subst hargs1
    obtain rfl : args = #[v0, v1, v2, v3] := by cases args; simp_all
    obtain ⟨ss0, a0, b0⟩ := open_struct (P := Try.prog) (n := 4) (ks := [.fl .f32, .fl .f32, .fl .f32, .fl .f32]) (fun _ => none) Try.underlying24 (by kernel_rfl) rfl (hval 0 24 v0 rfl rfl) k0
    obtain ⟨v0_0, _, rfl, hv0_0, v0_1, _, rfl, hv0_1, v0_2, _, rfl, hv0_2, v0_3, _, rfl, hv0_3, rfl⟩ := b0
    obtain ⟨ss1, a1, b1⟩ := open_struct (P := Try.prog) (n := 4) (ks := [.fl .f32, .fl .f32, .fl .f32]) (fun _ => none) Try.underlying40 (by kernel_rfl) rfl (hval 1 40 v1 rfl rfl) k1
    obtain ⟨v1_0, _, rfl, hv1_0, v1_1, _, rfl, hv1_1, v1_2, _, rfl, hv1_2, rfl⟩ := b1
    obtain ⟨ss2, a2, b2⟩ := open_struct (P := Try.prog) (n := 4) (ks := [.fl .f32, .fl .f32, .fl .f32]) (fun _ => none) Try.underlying26 (by kernel_rfl) rfl (hval 2 26 v2 rfl rfl) k2
    obtain ⟨v2_0, _, rfl, hv2_0, v2_1, _, rfl, hv2_1, v2_2, _, rfl, hv2_2, rfl⟩ := b2
    obtain ⟨s3, a3, b3⟩ := open_cell (P := Try.prog) (n := 4) (k := .fl .f32) (fun _ => none) (by rw [Try.underlying22]) (by kernel_rfl) rfl (hval 3 22 v3 rfl rfl) k3
    obtain ⟨v3_0, _, e3, hv3_0, rfl⟩ := b3
    obtain rfl : s3 = .fl .f32 v3_0 := (List.cons.inj e3).1
    have hra : RelA (fun _ => none) [.agg [.fl .f32 v0_0, .fl .f32 v0_1, .fl .f32 v0_2, .fl .f32 v0_3], .agg [.fl .f32 v1_0, .fl .f32 v1_1, .fl .f32 v1_2], .agg [.fl .f32 v2_0, .fl .f32 v2_1, .fl .f32 v2_2], .one (.fl .f32 v3_0)] (#[v0, v1, v2, v3] : Array Value).toList := ⟨(av_any (ρ := fun _ => none) rfl a0), (av_any (ρ := fun _ => none) rfl a1), (av_any (ρ := fun _ => none) rfl a2), (av_any (ρ := fun _ => none) rfl a3), trivial⟩
    exact calls_of_ctr (P := Try.prog) k_z_w_FnExactRiseAt (f := 7) (by kernel_rfl) Try.func7 (by kernel_rfl) (root := bodyOf Try.f7) (by kernel_rfl) (ρ := (fun _ => none)) (memOK_nil W) hra (any_ v0_0 hv0_0 v0_1 hv0_1 v0_2 hv0_2 v0_3 hv0_3 v1_0 hv1_0 v1_1 hv1_1 v1_2 hv1_2 v2_0 hv2_0 v2_1 hv2_1 v2_2 hv2_2 v3_0 hv3_0)

theorem holds : Rows.FnExactRiseAtSaid :=
  OpenClaim.holds_of_wide 7 Try.f7 rfl rfl rfl rfl rfl rfl rfl ⟨rfl, rfl, rfl, rfl, rfl⟩ rfl rfl rfl rfl rfl (by kernel_rfl) Try.func7 (by kernel_rfl)
    (of_decide_eq_true (by kernel_rfl)) (by unfold Func.isWrapper; first | (rw [if_pos (by decide +kernel)]; kernel_rfl) | (rw [if_neg (by decide +kernel)]; exact ⟨rfl, rfl⟩))
    (fun os started H enc _ => lifted os started H enc)

end Go.Proofs.Ytkjggmfblkkopaa.fnExactRiseAt
