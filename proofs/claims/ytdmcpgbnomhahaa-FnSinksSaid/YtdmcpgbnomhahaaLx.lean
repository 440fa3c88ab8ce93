/-
  Loops that may be left early: what they end in, as Booleans and values. No conditions.
-/
import Derived.Test.YtdmcpgbnomhahaaLs
namespace Go.Proofs.Ytdmcpgbnomhahaa
set_option linter.unusedVariables false
set_option linter.unusedSimpArgs false
open Go.RowKit

def isL {A O : Type} : A ⊕ O → Bool
  | .inl _ => true
  | .inr _ => false
def valL {A O : Type} (d : A) : A ⊕ O → A
  | .inl a => a
  | .inr _ => d
def valR {A O : Type} (d : O) : A ⊕ O → O
  | .inl _ => d
  | .inr o => o
def getNil : AV → Option Unit
  | .one (.val (.slice none 0 0)) => some ()
  | _ => none
theorem getNil_rel {a : AV} (h : getNil a = some ()) (ρ : Rho) (v : Value) (hv : a.rel ρ v) : (AV.one (.val (.slice none 0 0))).rel ρ v := by
  unfold getNil at h
  split at h
  · exact hv
  · cases h
def getFf : AV → Option Unit
  | .one (.tt false) => some ()
  | _ => none
theorem getFf_rel {a : AV} (h : getFf a = some ()) (ρ : Rho) (v : Value) (hv : a.rel ρ v) : (AV.one (.tt false)).rel ρ v := by
  unfold getFf at h
  split at h
  · exact hv
  · cases h

/-- A loop that is left where 'b' holds: what is in 'a' else. -/
def exitAt {A : Type} (b : Nat → Bool) (g : Nat → A → A) (j : Nat) (a : A) : A ⊕ (Nat × A) := match b j with
  | true => .inr (j, a)
  | false => .inl (g j a)
def noneIn (b : Nat → Bool) : Nat → Nat → Bool
  | 0, _ => true
  | c + 1, s => !b s && noneIn b c (s + 1)
theorem exitAt_iter {A : Type} (b : Nat → Bool) (g : Nat → A → A) (d : A) : ∀ (c s : Nat) (a : A), isL (iterX (exitAt b g) c s a) = noneIn b c s ∧ (noneIn b c s = true → valL d (iterX (exitAt b g) c s a) = iter g c s a)
  | 0, s, a => ⟨rfl, fun _ => rfl⟩
  | c + 1, s, a => by
    obtain ⟨h1, h2⟩ := exitAt_iter b g d c (s + 1) (g s a)
    cases hb : b s with
    | true =>
      have e : iterX (exitAt b g) (c + 1) s a = .inr (s, a) := by
        unfold iterX
        have : exitAt b g s a = .inr (s, a) := by unfold exitAt; rw [hb]
        rw [this]
      rw [e]
      exact ⟨by simp [noneIn, hb, isL], fun h => by simp [noneIn, hb] at h⟩
    | false =>
      have e : iterX (exitAt b g) (c + 1) s a = iterX (exitAt b g) c (s + 1) (g s a) := by
        have : exitAt b g s a = .inl (g s a) := by unfold exitAt; rw [hb]
        rw [iterX, this]
      rw [e]
      refine ⟨?_, fun h => ?_⟩
      · rw [h1]; simp [noneIn, hb]
      · rw [h2 (by simpa [noneIn, hb] using h)]
        rfl
/-- As exitAt; where the loop is left hangs on what is in 'a' too. -/
def exitA {A : Type} (b : Nat → A → Bool) (g : Nat → A → A) (j : Nat) (a : A) : A ⊕ (Nat × A) := match b j a with
  | true => .inr (j, a)
  | false => .inl (g j a)
theorem noneIn_congr {b b' : Nat → Bool} : ∀ (c s : Nat), (∀ j, s ≤ j → j < s + c → b j = b' j) → noneIn b c s = noneIn b' c s
  | 0, _, _ => rfl
  | c + 1, s, h => by
    unfold noneIn
    rw [h s (Nat.le_refl s) (by omega), noneIn_congr c (s + 1) fun j h1 h2 => h j (by omega) (by omega)]

/-- As T_iter, of what stands in the accumulator something is known. -/
theorem T_iterI {V A : Type} (st : V → T (Nx V)) (X : Nat → A → V) (n : Nat) (g : Nat → A → A) (E : A → EX × FSt) (I : Nat → A → Prop)
    (hI : ∀ j a, j < n → I j a → I (j + 1) (g j a))
    (hgo : ∀ j a, j < n → I j a → ∀ Φ : Nx V → Prop, Φ (.go (X (j + 1) (g j a))) → (st (X j a)).holds Φ)
    (hend : ∀ a, ∀ Φ : Nx V → Prop, Φ (.out (E a).1 (E a).2) → (st (X n a)).holds Φ) (hE : ∀ a, (E a).1 ≠ .normal) :
    ∀ (c s : Nat) (a : A), s + c = n → I s a → ∀ Φ : EX × FSt → Prop, Φ (E (iter g c s a)) → (loopTree st (c + 1) (X s a)).holds Φ := by
  have fin : ∀ (k : Nat) (r : EX × FSt) (Φ : EX × FSt → Prop), r.1 ≠ .normal → Φ r → ((match (Nx.out r.1 r.2 : Nx V) with
      | .go y => loopTree st k y
      | .out .normal _ => .fail
      | .out e s => .leaf (e, s)) : T (EX × FSt)).holds Φ := by
    intro k r Φ hn h
    obtain ⟨e, f⟩ := r
    cases e with
    | normal => exact absurd rfl hn
    | ret => exact h
    | exit id => exact h
  intro c
  induction c with
  | zero =>
    intro s a hs _ Φ h1
    have hs : s = n := by omega
    subst hs
    show ((st (X s a)).bind _).holds Φ
    exact T.bind_holds (hend a _ (fin 0 (E a) Φ (hE a) h1))
  | succ c ih =>
    intro s a hs hi Φ h1
    show ((st (X s a)).bind _).holds Φ
    exact T.bind_holds (hgo s a (by omega) hi _ (ih (s + 1) (g s a) (by omega) (hI s a (by omega) hi) Φ h1))

end Go.Proofs.Ytdmcpgbnomhahaa
