/-
  FnExactValidMark: for every Mark, impl and spec agree on ValidMark. No conditions.
-/
import Derived.Test.YtjgmmhknelimmaaRows
import Derived.Test.YtjgmmhknelimmaaNum
import Derived.Test.YtjgmmhknelimmaaRo
import Derived.Test.YtjgmmhknelimmaaMg
namespace Go.Proofs.Ytjgmmhknelimmaa.fnExactValidMark
set_option linter.unusedVariables false
set_option linter.unusedSimpArgs false
open Go.RowKit Go.ChangeShapes Go.WideShapes

theorem own : ownKnob Try.prog.godebug = none := by kernel_rfl
theorem laidOut : laidOutB Try.prog = true := by kernel_rfl

noncomputable def k_toMark : Ctr Try.prog := mkC Try.prog mix [] 10 Try.f10 (bodyOf Try.f10) Try.func10 (by kernel_rfl) (by kernel_rfl) []
noncomputable def k_l06Mark : Ctr Try.prog := mkC Try.prog mix [k_l01Finite] 26 Try.f26 (bodyOf Try.f26) Try.func26 (by kernel_rfl) (by kernel_rfl) []
noncomputable def k_s0 : Ctr Try.prog := mkC Try.prog mix [k_l06Mark] 9 Try.f9 (bodyOf Try.f9) Try.func9 (by kernel_rfl) (by kernel_rfl) []
noncomputable def k_i0 : Ctr Try.prog := mkC Try.prog mix [k_IsFinite] 11 Try.f11 (bodyOf Try.f11) Try.func11 (by kernel_rfl) (by kernel_rfl) []
noncomputable def k_s : Ctr Try.prog := k_s0.mg
noncomputable def k_i : Ctr Try.prog := k_i0.mg
noncomputable def ans (x y z : Nat) : Bool := boolIn (k_s.run [.agg [.fl .f32 x, .fl .f32 y, .fl .f32 z]] [])
noncomputable def k_law : Ctr Try.prog := mkC Try.prog mix [k_toMark, k_s, k_i] 3 Try.f3 (bodyOf Try.f3) Try.func3 (by kernel_rfl) (by kernel_rfl) []
theorem any (v0_0 : Nat) (hv0_0 : Can .f32 v0_0) (v0_1 : Nat) (hv0_1 : Can .f32 v0_1) (v0_2 : Nat) (hv0_2 : Can .f32 v0_2) : Yes k_law [.agg [.fl .f32 v0_0, .fl .f32 v0_1, .fl .f32 v0_2]] [] := by
  generalize hB : ans v0_0 v0_1 v0_2 = B
  have e : k_law.run [.agg [.fl .f32 v0_0, .fl .f32 v0_1, .fl .f32 v0_2]] [] = T.ite (ans v0_0 v0_1 v0_2 != ans v0_0 v0_1 v0_2) (.leaf (.one (.tt false), [])) (.leaf (.one (.tt true), [])) := by kernel_rfl
  constructor
  rw [e]
  exact ⟨fun h => by simp at h, fun _ => .inl rfl⟩

set_option maxRecDepth 100000 in
theorem lifted (os : Os) (started : os.Started) (H : Type) (enc : TypeId × Value → H) :
    ReturnsInHanded {} Try.checked os 3 .any (Rows.fnExactValidMarkSpec.pre6 enc Try.prog Try.f3 Rows.fnExactValidMarkRow.domain false) (Rows.fnExactValidMarkSpec.post enc Try.prog Try.f3 false true false false) := by
  refine returnsInHanded_of_change (C := Try.checked) own started (by kernel_rfl) Try.func3
    (ChangeSpec.witness6 (enc := enc) (C := Try.checked) false ⟨#[], #[.agg #[.float .f32 0, .float .f32 0, .float .f32 0]], []⟩ 8 (by kernel_rfl) (by kernel_rfl) (by kernel_rfl) (by kernel_rfl)) ?_
  intro W base args ds gs before hval0 hW _ _
  have hval : ∀ (j : Nat) t v, Try.f3.params[j]? = some t → args[j]? = some v → Value.okWide Try.prog W .any base t v := hval0
  refine post_true (P := Try.prog) (s := Rows.fnExactValidMarkSpec) (fn := Try.f3) (tb := 4) rfl laidOut (by kernel_rfl) (by kernel_rfl) Try.underlying4 (fun ds hlen => ?_) hW ?_
  · have hlen : ds.length = 1 := hlen.trans (by kernel_rfl)
    match ds, hlen with
    | [d0], _ => rfl
  · obtain ⟨p, q, hA0, hV, rfl, hfz, hnd⟩ := hW
    have hA : DataW.TrodAll enc Try.prog W 0 (fun _ => true) true Try.f3.params.toList args.toList ds p := hA0
    rw [Try.params3] at hA hval
    obtain ⟨v0, vs0, d0, ds0, p0, q0, hargs0, rfl, rfl, k0, r0⟩ := trodAll_cons hA
    obtain ⟨rfl, rfl, rfl⟩ := trodAll_nil r0
    obtain rfl : args = #[v0] := by cases args; simp_all
    obtain ⟨ss0, a0, b0⟩ := open_struct (P := Try.prog) (n := 4) (ks := [.fl .f32, .fl .f32, .fl .f32]) (fun _ => none) Try.underlying24 (by kernel_rfl) rfl (hval 0 24 v0 rfl rfl) k0
    obtain ⟨v0_0, _, rfl, hv0_0, v0_1, _, rfl, hv0_1, v0_2, _, rfl, hv0_2, rfl⟩ := b0
    have hra : RelA (fun _ => none) [.agg [.fl .f32 v0_0, .fl .f32 v0_1, .fl .f32 v0_2]] (#[v0] : Array Value).toList := ⟨a0, trivial⟩
    exact calls_of_ctr (P := Try.prog) k_law (f := 3) (by kernel_rfl) Try.func3 (by kernel_rfl) (root := bodyOf Try.f3) (by kernel_rfl) (mem := []) (ρ := fun _ => none) (memOK_nil W) hra (any v0_0 hv0_0 v0_1 hv0_1 v0_2 hv0_2)

theorem holds : Rows.FnExactValidMarkSaid :=
  OpenClaim.holds_of_wide 3 Try.f3 rfl rfl rfl rfl rfl rfl rfl ⟨rfl, rfl, rfl, rfl, rfl⟩ rfl rfl rfl rfl rfl (by kernel_rfl) Try.func3 (by kernel_rfl)
    (of_decide_eq_true (by kernel_rfl)) (by unfold Func.isWrapper; first | (rw [if_pos (by decide +kernel)]; kernel_rfl) | (rw [if_neg (by decide +kernel)]; exact ⟨rfl, rfl⟩))
    (fun os started H enc _ => lifted os started H enc)

end Go.Proofs.Ytjgmmhknelimmaa.fnExactValidMark
