/-
  Loops that may be left early: what they end in, as Booleans and values. No conditions.
-/
import Derived.Test.YtjcofjelfaoecaaLs
namespace Go.Proofs.Ytjcofjelfaoecaa
set_option linter.unusedVariables false
set_option linter.unusedSimpArgs false
open Go.RowKit

def isL {A O : Type} : A ⊕ O → Bool
  | .inl _ => true
  | .inr _ => false
def valL {A O : Type} (d : A) : A ⊕ O → A
  | .inl a => a
  | .inr _ => d
def valR {A O : Type} (d : O) : A ⊕ O → O
  | .inl _ => d
  | .inr o => o
def getNil : AV → Option Unit
  | .one (.val (.slice none 0 0)) => some ()
  | _ => none
theorem getNil_rel {a : AV} (h : getNil a = some ()) (ρ : Rho) (v : Value) (hv : a.rel ρ v) : (AV.one (.val (.slice none 0 0))).rel ρ v := by
  unfold getNil at h
  split at h
  · exact hv
  · cases h
def getFf : AV → Option Unit
  | .one (.tt false) => some ()
  | _ => none
theorem getFf_rel {a : AV} (h : getFf a = some ()) (ρ : Rho) (v : Value) (hv : a.rel ρ v) : (AV.one (.tt false)).rel ρ v := by
  unfold getFf at h
  split at h
  · exact hv
  · cases h

/-- A loop that is left where 'b' holds: what is in 'a' else. -/
def exitAt {A : Type} (b : Nat → Bool) (g : Nat → A → A) (j : Nat) (a : A) : A ⊕ (Nat × A) := match b j with
  | true => .inr (j, a)
  | false => .inl (g j a)
def noneIn (b : Nat → Bool) : Nat → Nat → Bool
  | 0, _ => true
  | c + 1, s => !b s && noneIn b c (s + 1)
theorem exitAt_iter {A : Type} (b : Nat → Bool) (g : Nat → A → A) (d : A) : ∀ (c s : Nat) (a : A), isL (iterX (exitAt b g) c s a) = noneIn b c s ∧ (noneIn b c s = true → valL d (iterX (exitAt b g) c s a) = iter g c s a)
  | 0, s, a => ⟨rfl, fun _ => rfl⟩
  | c + 1, s, a => by
    obtain ⟨h1, h2⟩ := exitAt_iter b g d c (s + 1) (g s a)
    cases hb : b s with
    | true =>
      have e : iterX (exitAt b g) (c + 1) s a = .inr (s, a) := by
        unfold iterX
        have : exitAt b g s a = .inr (s, a) := by unfold exitAt; rw [hb]
        rw [this]
      rw [e]
      exact ⟨by simp [noneIn, hb, isL], fun h => by simp [noneIn, hb] at h⟩
    | false =>
      have e : iterX (exitAt b g) (c + 1) s a = iterX (exitAt b g) c (s + 1) (g s a) := by
        have : exitAt b g s a = .inl (g s a) := by unfold exitAt; rw [hb]
        rw [iterX, this]
      rw [e]
      refine ⟨?_, fun h => ?_⟩
      · rw [h1]; simp [noneIn, hb]
      · rw [h2 (by simpa [noneIn, hb] using h)]
        rfl
theorem noneIn_congr {b b' : Nat → Bool} : ∀ (c s : Nat), (∀ j, s ≤ j → j < s + c → b j = b' j) → noneIn b c s = noneIn b' c s
  | 0, _, _ => rfl
  | c + 1, s, h => by
    unfold noneIn
    rw [h s (Nat.le_refl s) (by omega), noneIn_congr c (s + 1) fun j h1 h2 => h j (by omega) (by omega)]

end Go.Proofs.Ytjcofjelfaoecaa
