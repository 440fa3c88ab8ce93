/-
  One row put among rows that are in order: in one walk or in two, the same. No conditions.
-/
import Derived.Test.YtjaohecdhnhhbaaLx
namespace Go.Proofs.Ytjaohecdhnhhbaa
set_option linter.unusedVariables false
set_option linter.unusedSimpArgs false
open Go.RowKit

/-! ### The order of texts -/
theorem bl_irr : ∀ x : List UInt8, Op.bytesLess x x = false
  | [] => rfl
  | a :: x => by
    have := bl_irr x
    simp [Op.bytesLess, this]
theorem bl_trans : ∀ {x y z : List UInt8}, Op.bytesLess x y = true → Op.bytesLess y z = true → Op.bytesLess x z = true
  | [], [], _, h, _ => by simp [Op.bytesLess] at h
  | [], _ :: _, [], _, h => by simp [Op.bytesLess] at h
  | [], _ :: _, _ :: _, _, _ => by simp [Op.bytesLess]
  | _ :: _, [], _, h, _ => by simp [Op.bytesLess] at h
  | _ :: _, _ :: _, [], _, h => by simp [Op.bytesLess] at h
  | a :: x, b :: y, c :: z, h, k => by
    simp only [Op.bytesLess, Bool.or_eq_true, Bool.and_eq_true, decide_eq_true_eq, beq_iff_eq] at h k ⊢
    rcases h with h | ⟨h1, h2⟩
    · rcases k with k | ⟨k1, k2⟩
      · exact .inl (UInt8.lt_trans h k)
      · subst k1; exact .inl h
    · subst h1
      rcases k with k | ⟨k1, k2⟩
      · exact .inl k
      · exact .inr ⟨k1, bl_trans h2 k2⟩
theorem bl_tot : ∀ {x y : List UInt8}, Op.bytesLess x y = false → (x == y) = false → Op.bytesLess y x = true
  | [], [], _, h => by simp at h
  | [], _ :: _, h, _ => by simp [Op.bytesLess] at h
  | _ :: _, [], _, _ => by simp [Op.bytesLess]
  | a :: x, b :: y, h, k => by
    simp only [Op.bytesLess, Bool.or_eq_false_iff, Bool.and_eq_false_iff, decide_eq_false_iff_not] at h
    simp only [Op.bytesLess, Bool.or_eq_true, Bool.and_eq_true, decide_eq_true_eq, beq_iff_eq]
    obtain ⟨h1, h2⟩ := h
    by_cases e : a = b
    · subst e
      refine .inr ⟨rfl, bl_tot ?_ ?_⟩
      · rcases h2 with h2 | h2
        · simp at h2
        · exact h2
      · simpa using k
    · refine .inl ?_
      have n1 : ¬ a.toNat < b.toNat := fun h => h1 (UInt8.lt_iff_toNat_lt.2 h)
      have n2 : a.toNat ≠ b.toNat := fun h => e (UInt8.toNat_inj.1 h)
      exact UInt8.lt_iff_toNat_lt.2 (by omega)

theorem iter_add {A : Type} (g : Nat → A → A) : ∀ (c d s : Nat) (a : A), iter g (c + d) s a = iter g d (s + c) (iter g c s a)
  | 0, d, s, a => by rw [Nat.zero_add, Nat.add_zero]; rfl
  | c + 1, d, s, a => by
    rw [show c + 1 + d = (c + d) + 1 by omega]
    show iter g (c + d) (s + 1) (g s a) = iter g d (s + (c + 1)) (iter g c (s + 1) (g s a))
    rw [iter_add g c d (s + 1), show s + 1 + c = s + (c + 1) by omega]
theorem iter_stay {A : Type} (g : Nat → A → A) : ∀ (c s : Nat) (a : A), (∀ j a, s ≤ j → j < s + c → g j a = a) → iter g c s a = a
  | 0, _, _, _ => rfl
  | c + 1, s, a, h => by
    show iter g c (s + 1) (g s a) = a
    rw [h s a (Nat.le_refl _) (by omega)]
    exact iter_stay g c (s + 1) a fun j a h1 h2 => h j a (by omega) (by omega)

section
variable {σ : Type} (PI : Nat → σ → σ) (PE : σ → σ) (L Q : Nat → Bool)
def gA (j : Nat) (a : σ) : σ := bif L j then PI j a else a
def gB (j : Nat) (a : σ) : σ := bif !(L j || Q j) then PI j a else a
def gS1 (j : Nat) (x : σ × Bool) : σ × Bool := bif (bif !x.2 then !L j else false) then (PE x.1, true) else x
def gS (j : Nat) (x : σ × Bool) : σ × Bool := bif !Q j then (PI j (gS1 PE L j x).1, (gS1 PE L j x).2) else gS1 PE L j x
def putI (n : Nat) (z : σ) : σ := iter (gB PI L Q) n 0 (PE (iter (gA PI L) n 0 z))
def putS (n : Nat) (z : σ) : σ := bif !(iter (gS PI PE L Q) n 0 (z, false)).2 then PE (iter (gS PI PE L Q) n 0 (z, false)).1 else (iter (gS PI PE L Q) n 0 (z, false)).1

/-- The place: what is less stands ahead of it. -/
theorem place (n : Nat) (hL : ∀ i j, i < j → j < n → L j = true → L i = true) : ∃ p, p ≤ n ∧ (∀ i, i < p → L i = true) ∧ (∀ i, p ≤ i → i < n → L i = false) := by
  induction n with
  | zero => exact ⟨0, Nat.le_refl 0, fun i h => absurd h (Nat.not_lt_zero i), fun i _ h => absurd h (Nat.not_lt_zero i)⟩
  | succ n ih =>
    obtain ⟨p, h1, h2, h3⟩ := ih fun i j hi hj => hL i j hi (by omega)
    cases hn : L n with
    | true => exact ⟨n + 1, Nat.le_refl _, fun i hi => by
        rcases (by omega : i < n ∨ i = n) with h | h
        · exact hL i n h (by omega) hn
        · rw [h]; exact hn, fun i h4 h5 => by omega⟩
    | false => exact ⟨p, by omega, h2, fun i h4 h5 => by
        rcases (by omega : i < n ∨ i = n) with h | h
        · exact h3 i h4 h
        · rw [h]; exact hn⟩

theorem put_same (n : Nat) (z : σ) (hL : ∀ i j, i < j → j < n → L j = true → L i = true) (hQ : ∀ i, i < n → L i = true → Q i = false) : putS PI PE L Q n z = putI PI PE L Q n z := by
  obtain ⟨p, hp, h1, h2⟩ := place L n hL
  have eA : iter (gA PI L) n 0 z = iter (gA PI L) p 0 z := by
    have := iter_add (gA PI L) p (n - p) 0 z
    rw [show p + (n - p) = n by omega, Nat.zero_add] at this
    rw [this]
    exact iter_stay _ _ _ _ fun j a h3 h4 => by unfold gA; rw [h2 j h3 (by omega), cond_false]
  have eB : ∀ y, iter (gB PI L Q) n 0 y = iter (gB PI L Q) (n - p) p y := fun y => by
    have := iter_add (gB PI L Q) p (n - p) 0 y
    rw [show p + (n - p) = n by omega, Nat.zero_add] at this
    rw [this, iter_stay _ p 0 y fun j a h3 h4 => by unfold gB; rw [h1 j (by omega)]; rfl]
  have eS : iter (gS PI PE L Q) p 0 (z, false) = (iter (gA PI L) p 0 z, false) := by
    refine (iter_rel (g := gS PI PE L Q) (h := gA PI L) (fun (x : σ × Bool) (a : σ) => x = (a, false)) p 0 (z, false) z (fun j x a h3 h4 hr => ?_) rfl)
    subst hr
    have hl := h1 j (by omega)
    have hq := hQ j (by omega) hl
    unfold gS gS1 gA
    rw [hl, hq]; rfl
  have eT : ∀ (c s : Nat) (a : σ), p ≤ s → s + c ≤ n → iter (gS PI PE L Q) c s (a, true) = (iter (gB PI L Q) c s a, true) := fun c s a h3 h4 => by
    refine (iter_rel (g := gS PI PE L Q) (h := gB PI L Q) (fun (x : σ × Bool) (a : σ) => x = (a, true)) c s (a, true) a (fun j x a h5 h6 hr => ?_) rfl)
    subst hr
    have hl := h2 j (by omega) (by omega)
    unfold gS gS1 gB
    rw [hl]
    cases Q j <;> rfl
  have eN : iter (gS PI PE L Q) n 0 (z, false) = iter (gS PI PE L Q) (n - p) p (iter (gA PI L) p 0 z, false) := by
    have := iter_add (gS PI PE L Q) p (n - p) 0 (z, false)
    rw [show p + (n - p) = n by omega, Nat.zero_add, eS] at this
    exact this
  unfold putS putI
  rw [eN, eA, eB]
  generalize iter (gA PI L) p 0 z = X
  rcases (by omega : p = n ∨ p < n) with h | h
  · subst h
    rw [Nat.sub_self]; rfl
  · have e1 : n - p = (n - p - 1) + 1 := by omega
    have hl := h2 p (Nat.le_refl p) h
    have e2 : gS PI PE L Q p (X, false) = (gB PI L Q p (PE X), true) := by
      unfold gS gS1 gB
      rw [hl]
      cases Q p <;> rfl
    rw [e1]
    show (bif !(iter (gS PI PE L Q) (n - p - 1) (p + 1) (gS PI PE L Q p (X, false))).2 then PE (iter (gS PI PE L Q) (n - p - 1) (p + 1) (gS PI PE L Q p (X, false))).1 else (iter (gS PI PE L Q) (n - p - 1) (p + 1) (gS PI PE L Q p (X, false))).1) = iter (gB PI L Q) (n - p - 1) (p + 1) (gB PI L Q p (PE X))
    rw [e2, eT _ _ _ (by omega) (by omega)]; rfl

/-! What stands in the rows. -/
variable {α : Type} (len : σ → Nat) (row : σ → Nat → α) (lst : Nat → α) (e : α) (ok : α → Prop) (lt : α → α → Prop)
structure InRow (a : σ) : Prop where
  ok : ∀ q, q < len a → ok (row a q)
  lt : ∀ q, q + 1 < len a → lt (row a q) (row a (q + 1))
theorem InRow.push {a b : σ} {x : α} (h : InRow len row ok lt a) (hl : len b = len a + 1) (hr : ∀ q, row b q = if q = len a then x else row a q) (hx : ok x) (hb : ∀ q, q < len a → lt (row a q) x) : InRow len row ok lt b := by
  refine ⟨fun q hq => ?_, fun q hq => ?_⟩
  · rw [hr q]
    by_cases he : q = len a
    · rw [if_pos he]; exact hx
    · rw [if_neg he]; exact h.ok q (by omega)
  · rw [hr q, hr (q + 1), if_neg (by omega)]
    by_cases he : q + 1 = len a
    · rw [if_pos he]; exact hb q (by omega)
    · rw [if_neg he]; exact h.lt q (by omega)

theorem putI_in (n : Nat) (z : σ) (hz : len z = 0) (lI : ∀ j a, len (PI j a) = len a + 1) (rI : ∀ j a q, row (PI j a) q = if q = len a then lst j else row a q) (lE : ∀ a, len (PE a) = len a + 1) (rE : ∀ a q, row (PE a) q = if q = len a then e else row a q)
    (htr : ∀ x y w, lt x y → lt y w → lt x w) (hok : ∀ i, i < n → ok (lst i)) (hoe : ok e) (hso : ∀ i j, i < j → j < n → lt (lst i) (lst j)) (hLe : ∀ i, i < n → L i = true → lt (lst i) e) (hGe : ∀ i, i < n → (L i || Q i) = false → lt e (lst i)) :
    InRow len row ok lt (putI PI PE L Q n z) := by
  have iA : ∀ (c s : Nat) (a : σ), s + c ≤ n → (InRow len row ok lt a ∧ (∀ q, q < len a → lt (row a q) e) ∧ ∀ q i, q < len a → s ≤ i → i < n → lt (row a q) (lst i)) →
      (InRow len row ok lt (iter (gA PI L) c s a) ∧ ∀ q, q < len (iter (gA PI L) c s a) → lt (row (iter (gA PI L) c s a) q) e) := by
    intro c
    induction c with
    | zero => intro s a _ h; exact ⟨h.1, h.2.1⟩
    | succ c ih =>
      intro s a hs h
      obtain ⟨h1, h2, h3⟩ := h
      show InRow len row ok lt (iter (gA PI L) c (s + 1) (gA PI L s a)) ∧ ∀ q, q < len (iter (gA PI L) c (s + 1) (gA PI L s a)) → lt (row (iter (gA PI L) c (s + 1) (gA PI L s a)) q) e
      refine ih (s + 1) (gA PI L s a) (by omega) ?_
      unfold gA
      cases hL : L s with
      | false => exact ⟨h1, h2, fun q i hq hi hn => h3 q i hq (by omega) hn⟩
      | true =>
        refine ⟨h1.push (x := lst s) len row ok lt (lI s a) (rI s a) (hok s (by omega)) (fun q hq => h3 q s hq (Nat.le_refl s) (by omega)), fun q hq => ?_, fun q i hq hi hn => ?_⟩
        · rw [cond_true, rI]
          by_cases he : q = len a
          · rw [if_pos he]; exact hLe s (by omega) hL
          · rw [if_neg he]; rw [cond_true, lI] at hq; exact h2 q (by omega)
        · rw [cond_true, rI]
          by_cases he : q = len a
          · rw [if_pos he]; exact hso s i (by omega) hn
          · rw [if_neg he]; rw [cond_true, lI] at hq; exact h3 q i (by omega) (by omega) hn
  have iB : ∀ (c s : Nat) (a : σ), s + c ≤ n → (InRow len row ok lt a ∧ ∀ q i, q < len a → s ≤ i → i < n → (L i || Q i) = false → lt (row a q) (lst i)) → InRow len row ok lt (iter (gB PI L Q) c s a) := by
    intro c
    induction c with
    | zero => intro s a _ h; exact h.1
    | succ c ih =>
      intro s a hs h
      obtain ⟨h1, h3⟩ := h
      show InRow len row ok lt (iter (gB PI L Q) c (s + 1) (gB PI L Q s a))
      refine ih (s + 1) (gB PI L Q s a) (by omega) ?_
      unfold gB
      cases hL : (L s || Q s) with
      | true => exact ⟨h1, fun q i hq hi hn hg => h3 q i hq (by omega) hn hg⟩
      | false =>
        refine ⟨h1.push (x := lst s) len row ok lt (lI s a) (rI s a) (hok s (by omega)) (fun q hq => h3 q s hq (Nat.le_refl s) (by omega) hL), fun q i hq hi hn hg => ?_⟩
        rw [Bool.not_false, cond_true, rI]
        by_cases he : q = len a
        · rw [if_pos he]; exact hso s i (by omega) hn
        · rw [if_neg he]; rw [Bool.not_false, cond_true, lI] at hq; exact h3 q i (by omega) (by omega) hn hg
  obtain ⟨a1, a2⟩ := iA n 0 z (by omega) ⟨⟨fun q hq => by omega, fun q hq => by omega⟩, fun q hq => by omega, fun q i hq => by omega⟩
  unfold putI
  refine iB n 0 _ (by omega) ⟨a1.push (x := e) len row ok lt (lE _) (rE _) hoe a2, fun q i hq hi hn hg => ?_⟩
  rw [rE]
  by_cases he : q = len (iter (gA PI L) n 0 z)
  · rw [if_pos he]; exact hGe i hn hg
  · rw [if_neg he]; rw [lE] at hq; exact htr _ _ _ (a2 q (by omega)) (hGe i hn hg)
end

end Go.Proofs.Ytjaohecdhnhhbaa
