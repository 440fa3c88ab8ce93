/-
  FnExactWrapTurn: for all arguments, the program answers as the reference does. No conditions.
-/
import Derived.Test.YtkjggmfblkkopaaWu
import Derived.Test.YtkjggmfblkkopaaEq
import Derived.Test.YtkjggmfblkkopaaRows
import Derived.Test.YtkjggmfblkkopaaRo
import Derived.Test.YtkjggmfblkkopaaRs
namespace Go.Proofs.Ytkjggmfblkkopaa.fnExactWrapTurn
set_option linter.unusedVariables false
set_option linter.unusedSimpArgs false
open Go.RowKit Go.ChangeShapes Go.WideShapes

theorem own : ownKnob Try.prog.godebug = none := by kernel_rfl
theorem laidOut : laidOutB Try.prog = true := by kernel_rfl

noncomputable def k_z_w_FnExactWrapTurn : Ctr Try.prog := mkF Try.prog mix [k_sameFloat, k_sWt, k_iWt] 8 Try.f8 (bodyOf Try.f8) Try.func8 (by kernel_rfl) (by kernel_rfl) [0, 2, 3, 4, 5, 6, 27, 199] 28 (by kernel_rfl) (by kernel_rfl)

theorem tree_ (v0_0 : Nat)  : k_z_w_FnExactWrapTurn.run [.one (.fl .f32 v0_0)] [] =
    (T.need (decide
    (fcvt FloatKind.f32 FloatKind.f64 (bif fin FloatKind.f32 v0_0 then wrapV v0_0 else 0) =
      fcvt FloatKind.f32 FloatKind.f64 (bif fin FloatKind.f32 v0_0 then wrapV v0_0 else 0))) (T.leaf (AV.one (SV.bo !fin FloatKind.f32 v0_0 != fin FloatKind.f32 v0_0), []))) := by kernel_rfl

theorem any_ (v0_0 : Nat) (hv0_0 : Can .f32 v0_0) : Yes k_z_w_FnExactWrapTurn [.one (.fl .f32 v0_0)] [] := by
  constructor
  rw [tree_]
  exact T.h_need (decide_eq_true rfl) (T.h_leaf (.inr (congrArg (fun b => AV.one (SV.bo b)) (by simp))))

set_option maxRecDepth 100000 in
theorem lifted (os : Os) (started : os.Started) (H : Type) (enc : TypeId × Value → H) :
    ReturnsInHanded {} Try.checked os 8 .any (Rows.fnExactWrapTurnSpec.pre6 enc Try.prog Try.f8 Rows.fnExactWrapTurnRow.domain false) (Rows.fnExactWrapTurnSpec.post enc Try.prog Try.f8 false true false false) := by
  refine returnsInHanded_of_change (C := Try.checked) own started (by kernel_rfl) Try.func8
    (ChangeSpec.witness6 (enc := enc) (C := Try.checked) false ⟨#[], #[.float .f32 0], []⟩ 8 (by kernel_rfl) (by kernel_rfl) (by kernel_rfl) (by kernel_rfl)) ?_
  intro W base args ds gs before hval0 hW _ _
  have hval : ∀ (j : Nat) t v, Try.f8.params[j]? = some t → args[j]? = some v → Value.okWide Try.prog W .any base t v := hval0
  refine post_true (P := Try.prog) (s := Rows.fnExactWrapTurnSpec) (fn := Try.f8) (tb := 4) rfl laidOut (by kernel_rfl) (by kernel_rfl) Try.underlying4 (fun ds hlen => ?_) hW ?_
  · have hlen : ds.length = 1 := hlen.trans (by kernel_rfl)
    match ds, hlen with
    | [d0], _ => rfl
  · obtain ⟨p, q, hA0, hV, rfl, hfz, hnd⟩ := hW
    have hA : DataW.TrodAll enc Try.prog W 0 (fun _ => true) true Try.f8.params.toList args.toList ds p := hA0
    rw [Try.params8] at hA hval
    obtain ⟨v0, vs0, d0, ds0, p0, q0, hargs0, rfl, rfl, k0, r0⟩ := trodAll_cons hA
    obtain ⟨rfl, rfl, rfl⟩ := trodAll_nil r0
    obtain rfl : args = #[v0] := by cases args; simp_all
    obtain ⟨s0, a0, b0⟩ := open_cell (P := Try.prog) (n := 4) (k := .fl .f32) (fun _ => none) (by rw [Try.underlying22]) (by kernel_rfl) rfl (hval 0 22 v0 rfl rfl) k0
    obtain ⟨v0_0, _, e0, hv0_0, rfl⟩ := b0
    obtain rfl : s0 = .fl .f32 v0_0 := (List.cons.inj e0).1
    have hra : RelA (fun _ => none) [.one (.fl .f32 v0_0)] (#[v0] : Array Value).toList := ⟨(av_any (ρ := fun _ => none) rfl a0), trivial⟩
    exact calls_of_ctr (P := Try.prog) k_z_w_FnExactWrapTurn (f := 8) (by kernel_rfl) Try.func8 (by kernel_rfl) (root := bodyOf Try.f8) (by kernel_rfl) (ρ := (fun _ => none)) (memOK_nil W) hra (any_ v0_0 hv0_0)

theorem holds : Rows.FnExactWrapTurnSaid :=
  OpenClaim.holds_of_wide 8 Try.f8 rfl rfl rfl rfl rfl rfl rfl ⟨rfl, rfl, rfl, rfl, rfl⟩ rfl rfl rfl rfl rfl (by kernel_rfl) Try.func8 (by kernel_rfl)
    (of_decide_eq_true (by kernel_rfl)) (by unfold Func.isWrapper; first | (rw [if_pos (by decide +kernel)]; kernel_rfl) | (rw [if_neg (by decide +kernel)]; exact ⟨rfl, rfl⟩))
    (fun os started H enc _ => lifted os started H enc)

end Go.Proofs.Ytkjggmfblkkopaa.fnExactWrapTurn
