/-
  FnExactSinkLong: for all arguments, the program answers as the reference does. No conditions.
-/
import Derived.Test.YtdmcpgbnomhahaaSm
import Derived.Test.YtdmcpgbnomhahaaEq
import Derived.Test.YtdmcpgbnomhahaaRows
import Derived.Test.YtdmcpgbnomhahaaRo
import Derived.Test.YtdmcpgbnomhahaaRs
namespace Go.Proofs.Ytdmcpgbnomhahaa.fnExactSinkLong
set_option linter.unusedVariables false
set_option linter.unusedSimpArgs false
open Go.RowKit Go.ChangeShapes Go.WideShapes

theorem own : ownKnob Try.prog.godebug = none := by kernel_rfl
theorem laidOut : laidOutB Try.prog = true := by kernel_rfl

noncomputable def k_z_w_toBall : Ctr Try.prog := (mkF Try.prog mix [] 22 Try.f22 (bodyOf Try.f22) Try.func22 (by kernel_rfl) (by kernel_rfl) [0, 1, 2, 3] 17 (by kernel_rfl) (by kernel_rfl)).mg
noncomputable def k_law : Ctr Try.prog := mkF Try.prog mix [k_z_w_toBall, k_sSn, k_iSink, k_sameFloat] 6 Try.f6 (bodyOf Try.f6) Try.func6 (by kernel_rfl) (by kernel_rfl) [0, 1, 2, 3, 4, 5, 6, 12, 13, 14, 15, 16, 49, 199] 50 (by kernel_rfl) (by kernel_rfl)

theorem tree_ (v0_0 : Nat)  (v0_1 : Nat)  (v0_2 : Nat)  (v0_3 : Nat)  (v1_0 : Nat)  (v2_0 : Nat)  (v3_0 : Nat)  (v4_0 : Nat)  (v5_0 : Nat)  : k_law.run [.agg [.fl .f32 v0_0, .fl .f32 v0_1, .fl .f32 v0_2, .fl .f32 v0_3], .one (.fl .f32 v1_0), .one (.fl .f32 v2_0), .one (.fl .f32 v3_0), .one (.fl .f32 v4_0), .one (.fl .f32 v5_0)] [] =
    (T.need (decide (fcvt FloatKind.f32 FloatKind.f64 (bif skAll v0_0 v0_1 v0_2 v0_3 v1_0 v2_0 v3_0 v4_0 v5_0 then skX v0_0 v0_1 v1_0 v2_0 v3_0 v4_0 v5_0 else 0) = fcvt FloatKind.f32 FloatKind.f64 (bif skAll v0_0 v0_1 v0_2 v0_3 v1_0 v2_0 v3_0 v4_0 v5_0 then skX v0_0 v0_1 v1_0 v2_0 v3_0 v4_0 v5_0 else 0))) (T.leaf (AV.one (SV.bo !skAll v0_0 v0_1 v0_2 v0_3 v1_0 v2_0 v3_0 v4_0 v5_0 != skAll v0_0 v0_1 v0_2 v0_3 v1_0 v2_0 v3_0 v4_0 v5_0), []))) := by kernel_rfl

theorem any_ (v0_0 : Nat) (hv0_0 : Can .f32 v0_0) (v0_1 : Nat) (hv0_1 : Can .f32 v0_1) (v0_2 : Nat) (hv0_2 : Can .f32 v0_2) (v0_3 : Nat) (hv0_3 : Can .f32 v0_3) (v1_0 : Nat) (hv1_0 : Can .f32 v1_0) (v2_0 : Nat) (hv2_0 : Can .f32 v2_0) (v3_0 : Nat) (hv3_0 : Can .f32 v3_0) (v4_0 : Nat) (hv4_0 : Can .f32 v4_0) (v5_0 : Nat) (hv5_0 : Can .f32 v5_0) : Yes k_law [.agg [.fl .f32 v0_0, .fl .f32 v0_1, .fl .f32 v0_2, .fl .f32 v0_3], .one (.fl .f32 v1_0), .one (.fl .f32 v2_0), .one (.fl .f32 v3_0), .one (.fl .f32 v4_0), .one (.fl .f32 v5_0)] [] := by
  constructor
  rw [tree_]
  exact T.h_need (decide_eq_true rfl) (T.h_leaf (.inr (congrArg (fun b => AV.one (SV.bo b)) (by simp))))

set_option maxRecDepth 100000 in
theorem lifted (os : Os) (started : os.Started) (H : Type) (enc : TypeId × Value → H) :
    ReturnsInHanded {} Try.checked os 6 .any (Rows.fnExactSinkLongSpec.pre6 enc Try.prog Try.f6 Rows.fnExactSinkLongRow.domain false) (Rows.fnExactSinkLongSpec.post enc Try.prog Try.f6 false true false false) := by
  refine returnsInHanded_of_change (C := Try.checked) own started (by kernel_rfl) Try.func6
    (ChangeSpec.witness6 (enc := enc) (C := Try.checked) false ⟨#[], #[.agg #[.float .f32 0, .float .f32 0, .float .f32 0, .float .f32 0], .float .f32 0, .float .f32 0, .float .f32 0, .float .f32 0, .float .f32 0], []⟩ 8 (by kernel_rfl) (by kernel_rfl) (by kernel_rfl) (by kernel_rfl)) ?_
  intro W base args ds gs before hval0 hW _ _
  have hval : ∀ (j : Nat) t v, Try.f6.params[j]? = some t → args[j]? = some v → Value.okWide Try.prog W .any base t v := hval0
  refine post_true (P := Try.prog) (s := Rows.fnExactSinkLongSpec) (fn := Try.f6) (tb := 4) rfl laidOut (by kernel_rfl) (by kernel_rfl) Try.underlying4 (fun ds hlen => ?_) hW ?_
  · have hlen : ds.length = 6 := hlen.trans (by kernel_rfl)
    match ds, hlen with
    | [d0, d1, d2, d3, d4, d5], _ => rfl
  · obtain ⟨p, q, hA0, hV, rfl, hfz, hnd⟩ := hW
    have hA : DataW.TrodAll enc Try.prog W 0 (fun _ => true) true Try.f6.params.toList args.toList ds p := hA0
    rw [Try.params6] at hA hval
    obtain ⟨v0, vs0, d0, ds0, p0, q0, hargs0, rfl, rfl, k0, r0⟩ := trodAll_cons hA
    obtain ⟨v1, vs1, d1, ds1, p1, q1, hargs1, rfl, rfl, k1, r1⟩ := trodAll_cons r0
    obtain ⟨v2, vs2, d2, ds2, p2, q2, hargs2, rfl, rfl, k2, r2⟩ := trodAll_cons r1
    obtain ⟨v3, vs3, d3, ds3, p3, q3, hargs3, rfl, rfl, k3, r3⟩ := trodAll_cons r2
    obtain ⟨v4, vs4, d4, ds4, p4, q4, hargs4, rfl, rfl, k4, r4⟩ := trodAll_cons r3
    obtain ⟨v5, vs5, d5, ds5, p5, q5, hargs5, rfl, rfl, k5, r5⟩ := trodAll_cons r4
    obtain ⟨rfl, rfl, rfl⟩ := trodAll_nil r5
    subst hargs5
    subst hargs4
    subst hargs3
    subst hargs2
    subst hargs1
    obtain rfl : args = #[v0, v1, v2, v3, v4, v5] := by cases args; simp_all
    obtain ⟨ss0, a0, b0⟩ := open_struct (P := Try.prog) (n := 4) (ks := [.fl .f32, .fl .f32, .fl .f32, .fl .f32]) (fun _ => none) Try.underlying47 (by kernel_rfl) rfl (hval 0 47 v0 rfl rfl) k0
    obtain ⟨v0_0, _, rfl, hv0_0, v0_1, _, rfl, hv0_1, v0_2, _, rfl, hv0_2, v0_3, _, rfl, hv0_3, rfl⟩ := b0
    obtain ⟨s1, a1, b1⟩ := open_cell (P := Try.prog) (n := 4) (k := .fl .f32) (fun _ => none) (by rw [Try.underlying22]) (by kernel_rfl) rfl (hval 1 22 v1 rfl rfl) k1
    obtain ⟨v1_0, _, e1, hv1_0, rfl⟩ := b1
    obtain rfl : s1 = .fl .f32 v1_0 := (List.cons.inj e1).1
    obtain ⟨s2, a2, b2⟩ := open_cell (P := Try.prog) (n := 4) (k := .fl .f32) (fun _ => none) (by rw [Try.underlying22]) (by kernel_rfl) rfl (hval 2 22 v2 rfl rfl) k2
    obtain ⟨v2_0, _, e2, hv2_0, rfl⟩ := b2
    obtain rfl : s2 = .fl .f32 v2_0 := (List.cons.inj e2).1
    obtain ⟨s3, a3, b3⟩ := open_cell (P := Try.prog) (n := 4) (k := .fl .f32) (fun _ => none) (by rw [Try.underlying22]) (by kernel_rfl) rfl (hval 3 22 v3 rfl rfl) k3
    obtain ⟨v3_0, _, e3, hv3_0, rfl⟩ := b3
    obtain rfl : s3 = .fl .f32 v3_0 := (List.cons.inj e3).1
    obtain ⟨s4, a4, b4⟩ := open_cell (P := Try.prog) (n := 4) (k := .fl .f32) (fun _ => none) (by rw [Try.underlying22]) (by kernel_rfl) rfl (hval 4 22 v4 rfl rfl) k4
    obtain ⟨v4_0, _, e4, hv4_0, rfl⟩ := b4
    obtain rfl : s4 = .fl .f32 v4_0 := (List.cons.inj e4).1
    obtain ⟨s5, a5, b5⟩ := open_cell (P := Try.prog) (n := 4) (k := .fl .f32) (fun _ => none) (by rw [Try.underlying22]) (by kernel_rfl) rfl (hval 5 22 v5 rfl rfl) k5
    obtain ⟨v5_0, _, e5, hv5_0, rfl⟩ := b5
    obtain rfl : s5 = .fl .f32 v5_0 := (List.cons.inj e5).1
    have hra : RelA (fun _ => none) [.agg [.fl .f32 v0_0, .fl .f32 v0_1, .fl .f32 v0_2, .fl .f32 v0_3], .one (.fl .f32 v1_0), .one (.fl .f32 v2_0), .one (.fl .f32 v3_0), .one (.fl .f32 v4_0), .one (.fl .f32 v5_0)] (#[v0, v1, v2, v3, v4, v5] : Array Value).toList := ⟨(av_any (ρ := fun _ => none) rfl a0), (av_any (ρ := fun _ => none) rfl a1), (av_any (ρ := fun _ => none) rfl a2), (av_any (ρ := fun _ => none) rfl a3), (av_any (ρ := fun _ => none) rfl a4), (av_any (ρ := fun _ => none) rfl a5), trivial⟩
    exact calls_of_ctr (P := Try.prog) k_law (f := 6) (by kernel_rfl) Try.func6 (by kernel_rfl) (root := bodyOf Try.f6) (by kernel_rfl) (ρ := (fun _ => none)) (memOK_nil W) hra (any_ v0_0 hv0_0 v0_1 hv0_1 v0_2 hv0_2 v0_3 hv0_3 v1_0 hv1_0 v2_0 hv2_0 v3_0 hv3_0 v4_0 hv4_0 v5_0 hv5_0)

theorem holds : Rows.FnExactSinkLongSaid :=
  OpenClaim.holds_of_wide 6 Try.f6 rfl rfl rfl rfl rfl rfl rfl ⟨rfl, rfl, rfl, rfl, rfl⟩ rfl rfl rfl rfl rfl (by kernel_rfl) Try.func6 (by kernel_rfl)
    (of_decide_eq_true (by kernel_rfl)) (by unfold Func.isWrapper; first | (rw [if_pos (by decide +kernel)]; kernel_rfl) | (rw [if_neg (by decide +kernel)]; exact ⟨rfl, rfl⟩))
    (fun os started H enc _ => lifted os started H enc)

end Go.Proofs.Ytdmcpgbnomhahaa.fnExactSinkLong
