/-
  Loops that may be left in two ways, with an invariant. No conditions.
-/
import Derived.Test.YtdmcpgbnomhahaaLx
namespace Go.Proofs.Ytdmcpgbnomhahaa
set_option linter.unusedVariables false
set_option linter.unusedSimpArgs false
open Go.RowKit

/-- As T_iterX; of what stands in the accumulator something is known. -/
theorem T_iterXI {V A O : Type} (st : V → T (Nx V)) (X : Nat → A → V) (n : Nat) (g : Nat → A → A ⊕ O) (E : A → EX × FSt) (F : O → EX × FSt) (I : Nat → A → Prop)
    (hI : ∀ j a b, j < n → I j a → g j a = .inl b → I (j + 1) b)
    (hgo : ∀ j a, j < n → I j a → ∀ Φ : Nx V → Prop, (∀ b, g j a = .inl b → Φ (.go (X (j + 1) b))) → (∀ o, g j a = .inr o → Φ (.out (F o).1 (F o).2)) → (st (X j a)).holds Φ)
    (hend : ∀ a, ∀ Φ : Nx V → Prop, Φ (.out (E a).1 (E a).2) → (st (X n a)).holds Φ) (hE : ∀ a, (E a).1 ≠ .normal) (hF : ∀ o, (F o).1 ≠ .normal) :
    ∀ (c s : Nat) (a : A), s + c = n → I s a → ∀ Φ : EX × FSt → Prop, (∀ b, iterX g c s a = .inl b → Φ (E b)) → (∀ o, iterX g c s a = .inr o → Φ (F o)) → (loopTree st (c + 1) (X s a)).holds Φ := by
  have fin : ∀ (k : Nat) (r : EX × FSt) (Φ : EX × FSt → Prop), r.1 ≠ .normal → Φ r → ((match (Nx.out r.1 r.2 : Nx V) with
      | .go y => loopTree st k y
      | .out .normal _ => .fail
      | .out e s => .leaf (e, s)) : T (EX × FSt)).holds Φ := by
    intro k r Φ hn h
    obtain ⟨e, f⟩ := r
    cases e with
    | normal => exact absurd rfl hn
    | ret => exact h
    | exit id => exact h
  intro c
  induction c with
  | zero =>
    intro s a hs _ Φ h1 h2
    have hs : s = n := by omega
    subst hs
    show ((st (X s a)).bind _).holds Φ
    exact T.bind_holds (hend a _ (fin 0 (E a) Φ (hE a) (h1 a rfl)))
  | succ c ih =>
    intro s a hs hi Φ h1 h2
    show ((st (X s a)).bind _).holds Φ
    refine T.bind_holds (hgo s a (by omega) hi _ (fun b hb => ?_) (fun o ho => ?_))
    · refine ih (s + 1) b (by omega) (hI s a b (by omega) hi hb) Φ (fun b' hb' => h1 b' ?_) (fun o ho => h2 o ?_)
      · show (match g s a with | .inl b => iterX g c (s + 1) b | .inr o => .inr o) = _
        rw [hb]; exact hb'
      · show (match g s a with | .inl b => iterX g c (s + 1) b | .inr o => .inr o) = _
        rw [hb]; exact ho
    · refine fin (c + 1) (F o) Φ (hF o) (h2 o ?_)
      show (match g s a with | .inl b => iterX g c (s + 1) b | .inr o => .inr o) = _
      rw [ho]

/-- How such a loop ends: by 'ret' or not, at which round, with what. -/
def endX {A : Type} (n : Nat) : A ⊕ (Bool × Nat × A) → Bool × Nat × A
  | .inl a => (false, n, a)
  | .inr o => o

end Go.Proofs.Ytdmcpgbnomhahaa
