/-
  Getters of loops on bodies. No conditions.
-/
import Derived.Test.YtkjggmfblkkopaaMc
namespace Go.Proofs.Ytkjggmfblkkopaa
set_option linter.unusedVariables false
set_option linter.unusedSimpArgs false
open Go.RowKit

def getV3 : AV → Option (Nat × Nat × Nat)
  | .agg [.fl .f32 a, .fl .f32 b, .fl .f32 c] => some (a, b, c)
  | _ => none
theorem getV3_rel {a : AV} {x y z : Nat} (h : getV3 a = some (x, y, z)) (ρ : Rho) (v : Value) (hv : a.rel ρ v) : (AV.agg [.fl .f32 x, .fl .f32 y, .fl .f32 z]).rel ρ v := by
  unfold getV3 at h
  split at h
  · cases h; exact hv
  · cases h
theorem map_at {A B : Type} (g : Nat → A → A) (p : A → Nat → B) (f : B → B) (hk : ∀ j a q, q ≠ j → p (g j a) q = p a q) (hg : ∀ j a, p (g j a) j = f (p a j)) : ∀ (c s : Nat) (a : A) (q : Nat), (q < s ∨ s + c ≤ q → p (iter g c s a) q = p a q) ∧ (s ≤ q → q < s + c → p (iter g c s a) q = f (p a q))
  | 0, s, a, q => ⟨fun _ => rfl, fun h1 h2 => by omega⟩
  | c + 1, s, a, q => by
    have ih := map_at g p f hk hg c (s + 1) (g s a) q
    have e : iter g (c + 1) s a = iter g c (s + 1) (g s a) := rfl
    rw [e]
    refine ⟨fun h => ?_, fun h1 h2 => ?_⟩
    · rw [ih.1 (by omega), hk s a q (by omega)]
    · by_cases hq : q = s
      · subst hq
        rw [ih.1 (by omega), hg]
      · rw [ih.2 (by omega) (by omega), hk s a q hq]
def getFnC (f : FuncId) (l : List (Nat × Nat × Nat × Nat)) : AV → Option Unit
  | .one (.fn g c) => if g = f ∧ c = l then some () else none
  | _ => none
theorem getFnC_rel {f : FuncId} {l : List (Nat × Nat × Nat × Nat)} {a : AV} (h : getFnC f l a = some ()) (ρ : Rho) (v : Value) (hv : a.rel ρ v) : (AV.one (.fn f l)).rel ρ v := by
  unfold getFnC at h
  split at h
  · split at h
    · rename_i hk; obtain ⟨h1, h2⟩ := hk; subst h1; subst h2; exact hv
    · cases h
  · cases h

end Go.Proofs.Ytkjggmfblkkopaa
