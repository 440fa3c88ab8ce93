/-
  FnExactSameBall: for every two values, impl and spec agree on SameBall. No conditions.
-/
import Derived.Test.YtjgmmhknelimmaaRows
import Derived.Test.YtjgmmhknelimmaaNum
import Derived.Test.YtjgmmhknelimmaaRo
import Derived.Test.YtjgmmhknelimmaaMg
namespace Go.Proofs.Ytjgmmhknelimmaa.fnExactSameBall
set_option linter.unusedVariables false
set_option linter.unusedSimpArgs false
open Go.RowKit Go.ChangeShapes Go.WideShapes

theorem own : ownKnob Try.prog.godebug = none := by kernel_rfl
theorem laidOut : laidOutB Try.prog = true := by kernel_rfl

noncomputable def k_to : Ctr Try.prog := mkC Try.prog mix [] 18 Try.f18 (bodyOf Try.f18) Try.func18 (by kernel_rfl) (by kernel_rfl) []
noncomputable def k_s1 : Ctr Try.prog := mkC Try.prog mix [k_l01Same] 32 Try.f32 (bodyOf Try.f32) Try.func32 (by kernel_rfl) (by kernel_rfl) []
noncomputable def k_s0 : Ctr Try.prog := mkC Try.prog mix [k_s1] 17 Try.f17 (bodyOf Try.f17) Try.func17 (by kernel_rfl) (by kernel_rfl) []
noncomputable def k_eqf : Ctr Try.prog := (mkC Try.prog mix [k_SameNumber] 39 Try.f39 (bodyOf Try.f39) Try.func39 (by kernel_rfl) (by kernel_rfl) []).cl
noncomputable def k_sameNumbers : Ctr Try.prog := mkC Try.prog mix [k_eqf] 29 Try.f29 (bodyOf Try.f29) Try.func29 (by kernel_rfl) (by kernel_rfl) []
noncomputable def k_i0 : Ctr Try.prog := mkC Try.prog mix [k_sameNumbers] 19 Try.f19 (bodyOf Try.f19) Try.func19 (by kernel_rfl) (by kernel_rfl) []
noncomputable def k_s : Ctr Try.prog := k_s0.mg
noncomputable def k_i : Ctr Try.prog := k_i0.mg
noncomputable def k_law : Ctr Try.prog := mkC Try.prog mix [k_to, k_s, k_i] 6 Try.f6 (bodyOf Try.f6) Try.func6 (by kernel_rfl) (by kernel_rfl) []
theorem any (v0_0 : Nat) (hv0_0 : Can .f32 v0_0) (v0_1 : Nat) (hv0_1 : Can .f32 v0_1) (v0_2 : Nat) (hv0_2 : Can .f32 v0_2) (v0_3 : Nat) (hv0_3 : Can .f32 v0_3) (v1_0 : Nat) (hv1_0 : Can .f32 v1_0) (v1_1 : Nat) (hv1_1 : Can .f32 v1_1) (v1_2 : Nat) (hv1_2 : Can .f32 v1_2) (v1_3 : Nat) (hv1_3 : Can .f32 v1_3) : Yes k_law [.agg [.fl .f32 v0_0, .fl .f32 v0_1, .fl .f32 v0_2, .fl .f32 v0_3], .agg [.fl .f32 v1_0, .fl .f32 v1_1, .fl .f32 v1_2, .fl .f32 v1_3]] [] := by
  have e : k_law.run [.agg [.fl .f32 v0_0, .fl .f32 v0_1, .fl .f32 v0_2, .fl .f32 v0_3], .agg [.fl .f32 v1_0, .fl .f32 v1_1, .fl .f32 v1_2, .fl .f32 v1_3]] [] = T.ite ((cond (!(decide (v0_0 = v1_0))) false (cond (!(decide (v0_1 = v1_1))) false (cond (!(decide (v0_2 = v1_2))) false (!!(decide (v0_3 = v1_3)))))) != (cond (decide (v0_0 = v1_0)) (cond (decide (v0_1 = v1_1)) (cond (decide (v0_2 = v1_2)) (decide (v0_3 = v1_3)) false) false) false)) (.leaf (.one (.tt false), [])) (.leaf (.one (.tt true), [])) := by kernel_rfl
  have same : (cond (!(decide (v0_0 = v1_0))) false (cond (!(decide (v0_1 = v1_1))) false (cond (!(decide (v0_2 = v1_2))) false (!!(decide (v0_3 = v1_3)))))) = (cond (decide (v0_0 = v1_0)) (cond (decide (v0_1 = v1_1)) (cond (decide (v0_2 = v1_2)) (decide (v0_3 = v1_3)) false) false) false) := by
    generalize decide (v0_0 = v1_0) = b0
    generalize decide (v0_1 = v1_1) = b1
    generalize decide (v0_2 = v1_2) = b2
    generalize decide (v0_3 = v1_3) = b3
    cases b0 <;> cases b1 <;> cases b2 <;> cases b3 <;> rfl
  constructor
  rw [e, same]
  exact ⟨fun h => by simp at h, fun _ => .inl rfl⟩

set_option maxRecDepth 100000 in
theorem lifted (os : Os) (started : os.Started) (H : Type) (enc : TypeId × Value → H) :
    ReturnsInHanded {} Try.checked os 6 .any (Rows.fnExactSameBallSpec.pre6 enc Try.prog Try.f6 Rows.fnExactSameBallRow.domain false) (Rows.fnExactSameBallSpec.post enc Try.prog Try.f6 false true false false) := by
  refine returnsInHanded_of_change (C := Try.checked) own started (by kernel_rfl) Try.func6
    (ChangeSpec.witness6 (enc := enc) (C := Try.checked) false ⟨#[], #[.agg #[.float .f32 0, .float .f32 0, .float .f32 0, .float .f32 0], .agg #[.float .f32 0, .float .f32 0, .float .f32 0, .float .f32 0]], []⟩ 8 (by kernel_rfl) (by kernel_rfl) (by kernel_rfl) (by kernel_rfl)) ?_
  intro W base args ds gs before hval0 hW _ _
  have hval : ∀ (j : Nat) t v, Try.f6.params[j]? = some t → args[j]? = some v → Value.okWide Try.prog W .any base t v := hval0
  refine post_true (P := Try.prog) (s := Rows.fnExactSameBallSpec) (fn := Try.f6) (tb := 4) rfl laidOut (by kernel_rfl) (by kernel_rfl) Try.underlying4 (fun ds hlen => ?_) hW ?_
  · have hlen : ds.length = 2 := hlen.trans (by kernel_rfl)
    match ds, hlen with
    | [d0, d1], _ => rfl
  · obtain ⟨p, q, hA0, hV, rfl, hfz, hnd⟩ := hW
    have hA : DataW.TrodAll enc Try.prog W 0 (fun _ => true) true Try.f6.params.toList args.toList ds p := hA0
    rw [Try.params6] at hA hval
    obtain ⟨v0, vs0, d0, ds0, p0, q0, hargs0, rfl, rfl, k0, r0⟩ := trodAll_cons hA
    obtain ⟨v1, vs1, d1, ds1, p1, q1, hargs1, rfl, rfl, k1, r1⟩ := trodAll_cons r0
    obtain ⟨rfl, rfl, rfl⟩ := trodAll_nil r1
    subst hargs1
    obtain rfl : args = #[v0, v1] := by cases args; simp_all
    obtain ⟨ss0, a0, b0⟩ := open_struct (P := Try.prog) (n := 4) (ks := [.fl .f32, .fl .f32, .fl .f32, .fl .f32]) (fun _ => none) Try.underlying38 (by kernel_rfl) rfl (hval 0 38 v0 rfl rfl) k0
    obtain ⟨v0_0, _, rfl, hv0_0, v0_1, _, rfl, hv0_1, v0_2, _, rfl, hv0_2, v0_3, _, rfl, hv0_3, rfl⟩ := b0
    obtain ⟨ss1, a1, b1⟩ := open_struct (P := Try.prog) (n := 4) (ks := [.fl .f32, .fl .f32, .fl .f32, .fl .f32]) (fun _ => none) Try.underlying38 (by kernel_rfl) rfl (hval 1 38 v1 rfl rfl) k1
    obtain ⟨v1_0, _, rfl, hv1_0, v1_1, _, rfl, hv1_1, v1_2, _, rfl, hv1_2, v1_3, _, rfl, hv1_3, rfl⟩ := b1
    have hra : RelA (fun _ => none) [.agg [.fl .f32 v0_0, .fl .f32 v0_1, .fl .f32 v0_2, .fl .f32 v0_3], .agg [.fl .f32 v1_0, .fl .f32 v1_1, .fl .f32 v1_2, .fl .f32 v1_3]] (#[v0, v1] : Array Value).toList := ⟨a0, a1, trivial⟩
    exact calls_of_ctr (P := Try.prog) k_law (f := 6) (by kernel_rfl) Try.func6 (by kernel_rfl) (root := bodyOf Try.f6) (by kernel_rfl) (mem := []) (ρ := fun _ => none) (memOK_nil W) hra (any v0_0 hv0_0 v0_1 hv0_1 v0_2 hv0_2 v0_3 hv0_3 v1_0 hv1_0 v1_1 hv1_1 v1_2 hv1_2 v1_3 hv1_3)

theorem holds : Rows.FnExactSameBallSaid :=
  OpenClaim.holds_of_wide 6 Try.f6 rfl rfl rfl rfl rfl rfl rfl ⟨rfl, rfl, rfl, rfl, rfl⟩ rfl rfl rfl rfl rfl (by kernel_rfl) Try.func6 (by kernel_rfl)
    (of_decide_eq_true (by kernel_rfl)) (by unfold Func.isWrapper; first | (rw [if_pos (by decide +kernel)]; kernel_rfl) | (rw [if_neg (by decide +kernel)]; exact ⟨rfl, rfl⟩))
    (fun os started H enc _ => lifted os started H enc)

end Go.Proofs.Ytjgmmhknelimmaa.fnExactSameBall
