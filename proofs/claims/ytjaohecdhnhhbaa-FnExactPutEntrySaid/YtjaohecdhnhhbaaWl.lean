/-
  Loops that run while a test holds: so many rounds suffice. No conditions.
-/
import Derived.Test.YtjaohecdhnhhbaaLy
namespace Go.Proofs.Ytjaohecdhnhhbaa
set_option linter.unusedVariables false
set_option linter.unusedSimpArgs false
open Go.RowKit

/-- While b holds, at most so many rounds. -/
def whl {V : Type} (b : V → Bool) (f : V → V) : Nat → V → V
  | 0, v => v
  | k + 1, v => match b v with
    | true => whl b f k (f v)
    | false => v

theorem whl_t {V : Type} {b : V → Bool} {f : V → V} {k : Nat} {v : V} (h : b v = true) : whl b f (k + 1) v = whl b f k (f v) := by
  show (match b v with | true => whl b f k (f v) | false => v) = _
  rw [h]
theorem whl_f {V : Type} {b : V → Bool} {f : V → V} {k : Nat} {v : V} (h : b v = false) : whl b f k v = v := by
  cases k with
  | zero => rfl
  | succ k =>
    show (match b v with | true => whl b f k (f v) | false => v) = _
    rw [h]

theorem T_while {V : Type} (st : V → T (Nx V)) (b : V → Bool) (f : V → V) (E : V → EX × FSt) (I : Nat → V → Prop)
    (hI : ∀ k v, I (k + 1) v → b v = true → I k (f v)) (h0 : ∀ v, I 0 v → b v = false)
    (hgo : ∀ v, b v = true → ∀ Φ : Nx V → Prop, Φ (.go (f v)) → (st v).holds Φ)
    (hend : ∀ v, b v = false → ∀ Φ : Nx V → Prop, Φ (.out (E v).1 (E v).2) → (st v).holds Φ) (hE : ∀ v, (E v).1 ≠ .normal) :
    ∀ (k : Nat) (v : V), I k v → ∀ Φ : EX × FSt → Prop, Φ (E (whl b f k v)) → (loopTree st (k + 1) v).holds Φ := by
  have fin : ∀ (k : Nat) (r : EX × FSt) (Φ : EX × FSt → Prop), r.1 ≠ .normal → Φ r → ((match (Nx.out r.1 r.2 : Nx V) with
      | .go y => loopTree st k y
      | .out .normal _ => .fail
      | .out e s => .leaf (e, s)) : T (EX × FSt)).holds Φ := by
    intro k r Φ hn h
    obtain ⟨e, f⟩ := r
    cases e with
    | normal => exact absurd rfl hn
    | ret => exact h
    | exit id => exact h
  intro k
  induction k with
  | zero =>
    intro v hi Φ h
    have hb := h0 v hi
    rw [whl_f hb] at h
    show ((st v).bind _).holds Φ
    exact T.bind_holds (hend v hb _ (fin 0 (E v) Φ (hE v) h))
  | succ k ih =>
    intro v hi Φ h
    show ((st v).bind _).holds Φ
    cases hb : b v with
    | false =>
      rw [whl_f hb] at h
      exact T.bind_holds (hend v hb _ (fin (k + 1) (E v) Φ (hE v) h))
    | true =>
      rw [whl_t hb] at h
      exact T.bind_holds (hgo v hb _ (ih (f v) (hI k v hi hb) Φ h))

/-- The same; a round's needs may use what is known. -/
theorem T_whileI {V : Type} (st : V → T (Nx V)) (b : V → Bool) (f : V → V) (E : V → EX × FSt) (I : Nat → V → Prop)
    (hI : ∀ k v, I (k + 1) v → b v = true → I k (f v)) (h0 : ∀ v, I 0 v → b v = false)
    (hgo : ∀ k v, I (k + 1) v → b v = true → ∀ Φ : Nx V → Prop, Φ (.go (f v)) → (st v).holds Φ)
    (hend : ∀ v, b v = false → ∀ Φ : Nx V → Prop, Φ (.out (E v).1 (E v).2) → (st v).holds Φ) (hE : ∀ v, (E v).1 ≠ .normal) :
    ∀ (k : Nat) (v : V), I k v → ∀ Φ : EX × FSt → Prop, Φ (E (whl b f k v)) → (loopTree st (k + 1) v).holds Φ := by
  have fin : ∀ (k : Nat) (r : EX × FSt) (Φ : EX × FSt → Prop), r.1 ≠ .normal → Φ r → ((match (Nx.out r.1 r.2 : Nx V) with
      | .go y => loopTree st k y
      | .out .normal _ => .fail
      | .out e s => .leaf (e, s)) : T (EX × FSt)).holds Φ := by
    intro k r Φ hn h
    obtain ⟨e, f⟩ := r
    cases e with
    | normal => exact absurd rfl hn
    | ret => exact h
    | exit id => exact h
  intro k
  induction k with
  | zero =>
    intro v hi Φ h
    have hb := h0 v hi
    rw [whl_f hb] at h
    show ((st v).bind _).holds Φ
    exact T.bind_holds (hend v hb _ (fin 0 (E v) Φ (hE v) h))
  | succ k ih =>
    intro v hi Φ h
    show ((st v).bind _).holds Φ
    cases hb : b v with
    | false =>
      rw [whl_f hb] at h
      exact T.bind_holds (hend v hb _ (fin (k + 1) (E v) Φ (hE v) h))
    | true =>
      rw [whl_t hb] at h
      exact T.bind_holds (hgo k v hi hb _ (ih (f v) (hI k v hi hb) Φ h))

/-- Two such loops side by side. -/
theorem whl_rel {V W : Type} {b : V → Bool} {f : V → V} {b' : W → Bool} {f' : W → W} (r : Nat → V → W → Prop)
    (hb : ∀ k v w, r k v w → b v = b' w) (hs : ∀ k v w, r (k + 1) v w → b v = true → r k (f v) (f' w)) :
    ∀ (k : Nat) (v : V) (w : W), r k v w → ∃ j, r j (whl b f k v) (whl b' f' k w)
  | 0, v, w, h => ⟨0, h⟩
  | k + 1, v, w, h => by
    have e := hb _ _ _ h
    cases hv : b v with
    | false => rw [whl_f hv, whl_f (e ▸ hv)]; exact ⟨k + 1, h⟩
    | true => rw [whl_t hv, whl_t (e ▸ hv)]; exact whl_rel r hb hs k _ _ (hs k v w h hv)

/-- What holds at the end of such a loop. -/
theorem whl_end {V : Type} {b : V → Bool} {f : V → V} (I : Nat → V → Prop) (hI : ∀ k v, I (k + 1) v → b v = true → I k (f v)) (h0 : ∀ v, I 0 v → b v = false) :
    ∀ (k : Nat) (v : V), I k v → b (whl b f k v) = false ∧ ∃ j, I j (whl b f k v)
  | 0, v, h => ⟨h0 v h, 0, h⟩
  | k + 1, v, h => by
    cases hv : b v with
    | false => rw [whl_f hv]; exact ⟨hv, k + 1, h⟩
    | true => rw [whl_t hv]; exact whl_end I hI h0 k _ (hI k v h hv)

end Go.Proofs.Ytjaohecdhnhhbaa
