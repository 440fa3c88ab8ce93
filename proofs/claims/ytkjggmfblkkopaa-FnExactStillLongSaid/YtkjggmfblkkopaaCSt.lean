/-
  FnExactStillLong: for all arguments, the program answers as the reference does. No conditions.
-/
import Derived.Test.YtkjggmfblkkopaaLg
import Derived.Test.YtkjggmfblkkopaaEq
import Derived.Test.YtkjggmfblkkopaaRows
import Derived.Test.YtkjggmfblkkopaaRo
import Derived.Test.YtkjggmfblkkopaaRs
namespace Go.Proofs.Ytkjggmfblkkopaa.fnExactStillLong
set_option linter.unusedVariables false
set_option linter.unusedSimpArgs false
open Go.RowKit Go.ChangeShapes Go.WideShapes

theorem own : ownKnob Try.prog.godebug = none := by kernel_rfl
theorem laidOut : laidOutB Try.prog = true := by kernel_rfl

theorem needC {a b c : Bool} (h : a = true → b = true) (k : a = false → c = true) : (bif a then b else c) = true := by
  cases a with
  | true => exact h rfl
  | false => exact k rfl
noncomputable def k_to : Ctr Try.prog := mkC Try.prog mix [] 16 Try.f16 (bodyOf Try.f16) Try.func16 (by kernel_rfl) (by kernel_rfl) []
noncomputable def k_law : Ctr Try.prog := mkF Try.prog mix [k_to, k_sSt, k_iSt, k_sameFloat] 9 Try.f9 (bodyOf Try.f9) Try.func9 (by kernel_rfl) (by kernel_rfl) [0, 1, 2, 3, 4, 5, 6, 29, 199] 30 (by kernel_rfl) (by kernel_rfl)

theorem tree_ (v0_0 : Nat)  (v0_1 : Nat)  (v0_2 : Nat)  (v0_3 : Nat)  : k_law.run [.agg [.fl .f32 v0_0, .fl .f32 v0_1, .fl .f32 v0_2, .fl .f32 v0_3]] [] =
    (T.need (decide (fcvt FloatKind.f32 FloatKind.f64 (stlX v0_0 v0_1 v0_2 v0_3) = fcvt FloatKind.f32 FloatKind.f64 (stlX v0_0 v0_1 v0_2 v0_3))) (T.leaf (AV.one (SV.bo !stlB v0_0 v0_1 v0_2 v0_3 != stlB v0_0 v0_1 v0_2 v0_3), []))) := by kernel_rfl

theorem any_ (v0_0 : Nat) (hv0_0 : Can .f32 v0_0) (v0_1 : Nat) (hv0_1 : Can .f32 v0_1) (v0_2 : Nat) (hv0_2 : Can .f32 v0_2) (v0_3 : Nat) (hv0_3 : Can .f32 v0_3) : Yes k_law [.agg [.fl .f32 v0_0, .fl .f32 v0_1, .fl .f32 v0_2, .fl .f32 v0_3]] [] := by
  constructor
  rw [tree_]
  exact T.h_need (decide_eq_true rfl) (T.h_leaf (.inr (congrArg (fun b => AV.one (SV.bo b)) (by simp [*] <;> omega))))

set_option maxRecDepth 100000 in
theorem lifted (os : Os) (started : os.Started) (H : Type) (enc : TypeId × Value → H) :
    ReturnsInHanded {} Try.checked os 9 .any (Rows.fnExactStillLongSpec.pre6 enc Try.prog Try.f9 Rows.fnExactStillLongRow.domain false) (Rows.fnExactStillLongSpec.post enc Try.prog Try.f9 false true false false) := by
  refine returnsInHanded_of_change (C := Try.checked) own started (by kernel_rfl) Try.func9
    (ChangeSpec.witness6 (enc := enc) (C := Try.checked) false ⟨#[], #[.agg #[.float .f32 0, .float .f32 0, .float .f32 0, .float .f32 0]], []⟩ 8 (by kernel_rfl) (by kernel_rfl) (by kernel_rfl) (by kernel_rfl)) ?_
  intro W base args ds gs before hval0 hW _ _
  have hval : ∀ (j : Nat) t v, Try.f9.params[j]? = some t → args[j]? = some v → Value.okWide Try.prog W .any base t v := hval0
  refine post_true (P := Try.prog) (s := Rows.fnExactStillLongSpec) (fn := Try.f9) (tb := 4) rfl laidOut (by kernel_rfl) (by kernel_rfl) Try.underlying4 (fun ds hlen => ?_) hW ?_
  · have hlen : ds.length = 1 := hlen.trans (by kernel_rfl)
    match ds, hlen with
    | [d0], _ => rfl
  · obtain ⟨p, q, hA0, hV, rfl, hfz, hnd⟩ := hW
    have hA : DataW.TrodAll enc Try.prog W 0 (fun _ => true) true Try.f9.params.toList args.toList ds p := hA0
    rw [Try.params9] at hA hval
    obtain ⟨v0, vs0, d0, ds0, p0, q0, hargs0, rfl, rfl, k0, r0⟩ := trodAll_cons hA
    obtain ⟨rfl, rfl, rfl⟩ := trodAll_nil r0
    obtain rfl : args = #[v0] := by cases args; simp_all
    obtain ⟨ss0, a0, b0⟩ := open_struct (P := Try.prog) (n := 4) (ks := [.fl .f32, .fl .f32, .fl .f32, .fl .f32]) (fun _ => none) Try.underlying24 (by kernel_rfl) rfl (hval 0 24 v0 rfl rfl) k0
    obtain ⟨v0_0, _, rfl, hv0_0, v0_1, _, rfl, hv0_1, v0_2, _, rfl, hv0_2, v0_3, _, rfl, hv0_3, rfl⟩ := b0
    have hra : RelA (fun _ => none) [.agg [.fl .f32 v0_0, .fl .f32 v0_1, .fl .f32 v0_2, .fl .f32 v0_3]] (#[v0] : Array Value).toList := ⟨(av_any (ρ := fun _ => none) rfl a0), trivial⟩
    exact calls_of_ctr (P := Try.prog) k_law (f := 9) (by kernel_rfl) Try.func9 (by kernel_rfl) (root := bodyOf Try.f9) (by kernel_rfl) (ρ := (fun _ => none)) (memOK_nil W) hra (any_ v0_0 hv0_0 v0_1 hv0_1 v0_2 hv0_2 v0_3 hv0_3)

theorem holds : Rows.FnExactStillLongSaid :=
  OpenClaim.holds_of_wide 9 Try.f9 rfl rfl rfl rfl rfl rfl rfl ⟨rfl, rfl, rfl, rfl, rfl⟩ rfl rfl rfl rfl rfl (by kernel_rfl) Try.func9 (by kernel_rfl)
    (of_decide_eq_true (by kernel_rfl)) (by unfold Func.isWrapper; first | (rw [if_pos (by decide +kernel)]; kernel_rfl) | (rw [if_neg (by decide +kernel)]; exact ⟨rfl, rfl⟩))
    (fun os started H enc _ => lifted os started H enc)

end Go.Proofs.Ytkjggmfblkkopaa.fnExactStillLong
