/-
  FnExactValidBall: for every Ball, impl and spec agree on ValidBall. No conditions.
-/
import Derived.Test.YtjgmmhknelimmaaRows
import Derived.Test.YtjgmmhknelimmaaNum
import Derived.Test.YtjgmmhknelimmaaRo
import Derived.Test.YtjgmmhknelimmaaMg
namespace Go.Proofs.Ytjgmmhknelimmaa.fnExactValidBall
set_option linter.unusedVariables false
set_option linter.unusedSimpArgs false
open Go.RowKit Go.ChangeShapes Go.WideShapes

theorem own : ownKnob Try.prog.godebug = none := by kernel_rfl
theorem laidOut : laidOutB Try.prog = true := by kernel_rfl

noncomputable def k_to : Ctr Try.prog := mkC Try.prog mix [] 18 Try.f18 (bodyOf Try.f18) Try.func18 (by kernel_rfl) (by kernel_rfl) []
noncomputable def k_above : Ctr Try.prog := (mkC Try.prog mix [k_l01Finite] 41 Try.f41 (bodyOf Try.f41) Try.func41 (by kernel_rfl) (by kernel_rfl) []).mg
noncomputable def k_l06Ball : Ctr Try.prog := mkC Try.prog mix [k_above, k_l01Finite] 33 Try.f33 (bodyOf Try.f33) Try.func33 (by kernel_rfl) (by kernel_rfl) []
noncomputable def k_s : Ctr Try.prog := (mkC Try.prog mix [k_l06Ball] 24 Try.f24 (bodyOf Try.f24) Try.func24 (by kernel_rfl) (by kernel_rfl) []).mg
noncomputable def k_aLength : Ctr Try.prog := (mkC Try.prog mix [k_IsFinite] 42 Try.f42 (bodyOf Try.f42) Try.func42 (by kernel_rfl) (by kernel_rfl) []).mg
noncomputable def k_areLengths : Ctr Try.prog := (mkC Try.prog mix [k_aLength] 34 Try.f34 (bodyOf Try.f34) Try.func34 (by kernel_rfl) (by kernel_rfl) []).cl.mg
noncomputable def k_notFin : Ctr Try.prog := mkC Try.prog mix [k_IsFinite] 44 Try.f44 (bodyOf Try.f44) Try.func44 (by kernel_rfl) (by kernel_rfl) []
noncomputable def k_idxf : Ctr Try.prog := (mkC Try.prog mix [k_notFin] 49 Try.f49 (bodyOf Try.f49) Try.func49 (by kernel_rfl) (by kernel_rfl) []).cl
noncomputable def k_contains : Ctr Try.prog := mkC Try.prog mix [k_idxf] 43 Try.f43 (bodyOf Try.f43) Try.func43 (by kernel_rfl) (by kernel_rfl) []
noncomputable def k_areFinite : Ctr Try.prog := (mkC Try.prog mix [k_contains] 35 Try.f35 (bodyOf Try.f35) Try.func35 (by kernel_rfl) (by kernel_rfl) []).mg
noncomputable def k_i : Ctr Try.prog := (mkC Try.prog mix [k_areLengths, k_areFinite] 25 Try.f25 (bodyOf Try.f25) Try.func25 (by kernel_rfl) (by kernel_rfl) []).mg
noncomputable def k_law : Ctr Try.prog := mkC Try.prog mix [k_to, k_s, k_i] 8 Try.f8 (bodyOf Try.f8) Try.func8 (by kernel_rfl) (by kernel_rfl) []
def AL (x : Nat) : Bool := cond (fin .f32 x) (fgt .f32 x 0) false
theorem any (v0_0 : Nat) (hv0_0 : Can .f32 v0_0) (v0_1 : Nat) (hv0_1 : Can .f32 v0_1) (v0_2 : Nat) (hv0_2 : Can .f32 v0_2) (v0_3 : Nat) (hv0_3 : Can .f32 v0_3) : Yes k_law [.agg [.fl .f32 v0_0, .fl .f32 v0_1, .fl .f32 v0_2, .fl .f32 v0_3]] [] := by
  have e : k_law.run [.agg [.fl .f32 v0_0, .fl .f32 v0_1, .fl .f32 v0_2, .fl .f32 v0_3]] [] = T.ite ((cond (cond (!(AL v0_0)) false (!!(AL v0_1))) (cond (!(fin .f32 v0_2)) false (!!(fin .f32 v0_3))) false) != (cond (AL v0_0) (cond (AL v0_1) (cond (fin .f32 v0_2) (fin .f32 v0_3) false) false) false)) (.leaf (.one (.tt false), [])) (.leaf (.one (.tt true), [])) := by kernel_rfl
  have same : (cond (cond (!(AL v0_0)) false (!!(AL v0_1))) (cond (!(fin .f32 v0_2)) false (!!(fin .f32 v0_3))) false) = (cond (AL v0_0) (cond (AL v0_1) (cond (fin .f32 v0_2) (fin .f32 v0_3) false) false) false) := by
    generalize AL v0_0 = a
    generalize AL v0_1 = b
    generalize fin .f32 v0_2 = c
    generalize fin .f32 v0_3 = d
    cases a <;> cases b <;> cases c <;> cases d <;> rfl
  constructor
  rw [e, same]
  exact ⟨fun h => by simp at h, fun _ => .inl rfl⟩

set_option maxRecDepth 100000 in
theorem lifted (os : Os) (started : os.Started) (H : Type) (enc : TypeId × Value → H) :
    ReturnsInHanded {} Try.checked os 8 .any (Rows.fnExactValidBallSpec.pre6 enc Try.prog Try.f8 Rows.fnExactValidBallRow.domain false) (Rows.fnExactValidBallSpec.post enc Try.prog Try.f8 false true false false) := by
  refine returnsInHanded_of_change (C := Try.checked) own started (by kernel_rfl) Try.func8
    (ChangeSpec.witness6 (enc := enc) (C := Try.checked) false ⟨#[], #[.agg #[.float .f32 0, .float .f32 0, .float .f32 0, .float .f32 0]], []⟩ 8 (by kernel_rfl) (by kernel_rfl) (by kernel_rfl) (by kernel_rfl)) ?_
  intro W base args ds gs before hval0 hW _ _
  have hval : ∀ (j : Nat) t v, Try.f8.params[j]? = some t → args[j]? = some v → Value.okWide Try.prog W .any base t v := hval0
  refine post_true (P := Try.prog) (s := Rows.fnExactValidBallSpec) (fn := Try.f8) (tb := 4) rfl laidOut (by kernel_rfl) (by kernel_rfl) Try.underlying4 (fun ds hlen => ?_) hW ?_
  · have hlen : ds.length = 1 := hlen.trans (by kernel_rfl)
    match ds, hlen with
    | [d0], _ => rfl
  · obtain ⟨p, q, hA0, hV, rfl, hfz, hnd⟩ := hW
    have hA : DataW.TrodAll enc Try.prog W 0 (fun _ => true) true Try.f8.params.toList args.toList ds p := hA0
    rw [Try.params8] at hA hval
    obtain ⟨v0, vs0, d0, ds0, p0, q0, hargs0, rfl, rfl, k0, r0⟩ := trodAll_cons hA
    obtain ⟨rfl, rfl, rfl⟩ := trodAll_nil r0
    obtain rfl : args = #[v0] := by cases args; simp_all
    obtain ⟨ss0, a0, b0⟩ := open_struct (P := Try.prog) (n := 4) (ks := [.fl .f32, .fl .f32, .fl .f32, .fl .f32]) (fun _ => none) Try.underlying38 (by kernel_rfl) rfl (hval 0 38 v0 rfl rfl) k0
    obtain ⟨v0_0, _, rfl, hv0_0, v0_1, _, rfl, hv0_1, v0_2, _, rfl, hv0_2, v0_3, _, rfl, hv0_3, rfl⟩ := b0
    have hra : RelA (fun _ => none) [.agg [.fl .f32 v0_0, .fl .f32 v0_1, .fl .f32 v0_2, .fl .f32 v0_3]] (#[v0] : Array Value).toList := ⟨a0, trivial⟩
    exact calls_of_ctr (P := Try.prog) k_law (f := 8) (by kernel_rfl) Try.func8 (by kernel_rfl) (root := bodyOf Try.f8) (by kernel_rfl) (mem := []) (ρ := fun _ => none) (memOK_nil W) hra (any v0_0 hv0_0 v0_1 hv0_1 v0_2 hv0_2 v0_3 hv0_3)

theorem holds : Rows.FnExactValidBallSaid :=
  OpenClaim.holds_of_wide 8 Try.f8 rfl rfl rfl rfl rfl rfl rfl ⟨rfl, rfl, rfl, rfl, rfl⟩ rfl rfl rfl rfl rfl (by kernel_rfl) Try.func8 (by kernel_rfl)
    (of_decide_eq_true (by kernel_rfl)) (by unfold Func.isWrapper; first | (rw [if_pos (by decide +kernel)]; kernel_rfl) | (rw [if_neg (by decide +kernel)]; exact ⟨rfl, rfl⟩))
    (fun os started H enc _ => lifted os started H enc)

end Go.Proofs.Ytjgmmhknelimmaa.fnExactValidBall
