/-
  What all functions that turn a list of bodies into another have in common. No conditions.
-/
import Derived.Test.YtkjggmfblkkopaaAi
import Derived.Test.YtkjggmfblkkopaaLs
import Derived.Test.YtkjggmfblkkopaaFi
namespace Go.Proofs.Ytkjggmfblkkopaa
set_option linter.unusedVariables false
set_option linter.unusedSimpArgs false
open Go.RowKit

noncomputable def k_sOwn0 : Ctr Try.prog := (mkF0 Try.prog mix [] 105 Try.f105 (bodyOf Try.f105) Try.func105 (by kernel_rfl) (by kernel_rfl) [0, 2, 198] 6 (by kernel_rfl) (by kernel_rfl) []).mg
theorem sOwn0_ev (n m : Nat) (f0 f1 f2 f3 f4 f5 f6 : Nat → Nat) : k_sOwn0.run [.one (.su 0 7 0 n false)] [some (.cols m [.fl .f32 f0, .fl .f32 f1, .fl .f32 f2, .fl .f32 f3, .fl .f32 f4, .fl .f32 f5, .fl .f32 f6])] =
    .need true (.need (decide (0 + n ≤ m)) (.need (decide (0 + n ≤ 1073741824)) (.leaf (.one (.so 1 7 (0 + n) 2), [some (.grow (0 + n) [.fl .f32 fun j => if j < 0 then canon .f32 0 else f0 (0 + (j - 0)), .fl .f32 fun j => if j < 0 then canon .f32 0 else f1 (0 + (j - 0)), .fl .f32 fun j => if j < 0 then canon .f32 0 else f2 (0 + (j - 0)), .fl .f32 fun j => if j < 0 then canon .f32 0 else f3 (0 + (j - 0)), .fl .f32 fun j => if j < 0 then canon .f32 0 else f4 (0 + (j - 0)), .fl .f32 fun j => if j < 0 then canon .f32 0 else f5 (0 + (j - 0)), .fl .f32 fun j => if j < 0 then canon .f32 0 else f6 (0 + (j - 0))] 2 111), none])))) := by kernel_rfl
noncomputable def run_own : List AV → Mem → T Res
  | [.one (.su 0 7 0 n false)], [some (.cols m [.fl .f32 f0, .fl .f32 f1, .fl .f32 f2, .fl .f32 f3, .fl .f32 f4, .fl .f32 f5, .fl .f32 f6])] => .need (decide (n ≤ m)) (.need (decide (n ≤ 1073741824)) (.leaf (.one (.su 1 7 0 n false), [some (.cols n [.fl .f32 f0, .fl .f32 f1, .fl .f32 f2, .fl .f32 f3, .fl .f32 f4, .fl .f32 f5, .fl .f32 f6]), none])))
  | _, _ => .fail
theorem BlLe.grow_cols {n : Nat} {cs cs' : List Col} {k : Nat} {t : TypeId} (h : ∀ i, i < n → colsAt cs i = colsAt cs' i) (hl : cs'.length = cs.length) : BlLe (.grow n cs k t) (.cols n cs') :=
  fun ρ w b o hb => BlLe.cols_eq h hl ρ w b o (BlLe.grown (Nat.le_refl n) ρ w b o hb)
noncomputable def k_sOwn : Ctr Try.prog := (k_sOwn0.to run_own (by
  intro args mem _
  unfold run_own
  split
  · rename_i n m f0 f1 f2 f3 f4 f5 f6 _
    rw [sOwn0_ev]
    constructor
    intro Φ hΦ h
    have h1 := of_decide_eq_true h.1
    have h2 := of_decide_eq_true h.2.1
    refine T.h_need rfl (T.h_need (decide_eq_true (by omega)) (T.h_need (decide_eq_true (by omega)) (T.h_leaf (hΦ _ (.one (.su 1 7 0 n false), [some (.cols n [.fl .f32 f0, .fl .f32 f1, .fl .f32 f2, .fl .f32 f3, .fl .f32 f4, .fl .f32 f5, .fl .f32 f6]), none]) ⟨⟨?_, trivial⟩, ?_⟩ h.2.2))))
    · rw [Nat.zero_add]
      exact BlLe.grow_cols (fun i _ => by simp [colsAt, Col.at]) rfl
    · intro ρ v hv
      rw [Nat.zero_add] at hv
      exact AvLe.grown ρ v hv
  · exact Weak.fail _)).su.own
noncomputable def k_iAs0 : Ctr Try.prog := (mkF0 Try.prog mix [k_AreBodies] 143 Try.f143 (bodyOf Try.f143) Try.func143 (by kernel_rfl) (by kernel_rfl) [0, 2, 3, 6, 198] 8 (by kernel_rfl) (by kernel_rfl) []).mg
noncomputable def k_iAs : Ctr Try.prog := k_iAs0.su.own
theorem okFrom_congr {f0 f1 f2 f3 f4 f5 f6 g0 g1 g2 g3 g4 g5 g6 : Nat → Nat} : ∀ (n s : Nat), (∀ i, s ≤ i → i < s + n → okBody (f0 i) (f1 i) (f2 i) (f3 i) (f4 i) (f5 i) (f6 i) = okBody (g0 i) (g1 i) (g2 i) (g3 i) (g4 i) (g5 i) (g6 i)) → okFrom f0 f1 f2 f3 f4 f5 f6 n s = okFrom g0 g1 g2 g3 g4 g5 g6 n s
  | 0, _, _ => rfl
  | n + 1, s, h => by
    unfold okFrom
    rw [h s (Nat.le_refl s) (by omega), okFrom_congr n (s + 1) fun i h1 h2 => h i (by omega) (by omega)]
theorem areB_congr {n : Nat} {f0 f1 f2 f3 f4 f5 f6 g0 g1 g2 g3 g4 g5 g6 : Nat → Nat} (h : ∀ i, i < n → okBody (f0 i) (f1 i) (f2 i) (f3 i) (f4 i) (f5 i) (f6 i) = okBody (g0 i) (g1 i) (g2 i) (g3 i) (g4 i) (g5 i) (g6 i)) : areB n f0 f1 f2 f3 f4 f5 f6 = areB n g0 g1 g2 g3 g4 g5 g6 := by
  unfold areB
  rw [okFrom_congr n 0 fun i _ h2 => h i (by omega)]

end Go.Proofs.Ytkjggmfblkkopaa
