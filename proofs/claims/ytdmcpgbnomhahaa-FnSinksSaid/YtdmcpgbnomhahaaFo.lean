/-
  Loops by an invariant, in the walk with few slots. No conditions.
-/
import Derived.Test.YtdmcpgbnomhahaaFw
namespace Go.Proofs.Ytdmcpgbnomhahaa
set_option linter.unusedVariables false
set_option linter.unusedSimpArgs false
open Go.RowKit

/-- From a state, a piece of code ends in states that are known. -/
def TriF (P : Program) (n : Nat) (base : Mem) (c : Code) (s : FSt) (R : EX → FSt → Prop) : Prop :=
  ∀ (B : Nat → Prop) (w0 : World) (ρ0 ρ : Rho) (a : Act) (w : World), Base B w0 ρ0 base → ConcF n B base.length w0 ρ0 ρ a w s → ∀ Q : Exit → Act → World → Prop,
    (∀ e s' ρ' a' w', R e s' → ConcF n B base.length w0 ρ0 ρ' a' w' s' → Q e.ex a' w') → c.wp P Q a w

/-- One round of a loop: few slots are kept, and no name that nothing bears. -/
def roundF (P : Program) (n : Nat) (env : List (Ctr P)) (root : Code) (ss : List (SumF P n root)) (base : Mem) (ks ks2 : List Nat) (id : Nat) (s : FSt) : T (EX × FSt) :=
  (evCodeF P n env root ss base ks (bodyB root id) (0 :: 0 :: pathB root id) s).bind fun r => .leaf (r.1, cutF base ⟨pr r.2.sl ks2, r.2.mem⟩)

theorem loopF_tri {P : Program} (hmix : P.follows .mixedOrders = true) {n : Nat} {env : List (Ctr P)} {root : Code} {ss : List (SumF P n root)} {base : Mem} {id : Nat} (hp : subR root (pathB root id) = some (.block id (.loop (bodyB root id)))) (hds : dstC n (bodyB root id) = true) {α : Type} (ks ks2 : List Nat) (S : α → FSt) (inv : α → Prop) (m : α → Nat) (R : α → EX → FSt → Prop)
    (step : ∀ x, inv x → (roundF P n env root ss base ks ks2 id (S x)).holds fun r =>
      (r.1 = .normal ∧ ∃ y, inv y ∧ m y < m x ∧ FLe base r.2 (S y) ∧ ∀ e s, R y e s → R x e s) ∨ (r.1 ≠ .normal ∧ R x (blkEx id r.1) r.2)) :
    ∀ x, inv x → TriF P n base (.block id (.loop (bodyB root id))) (S x) (R x) := by
  intro x0 hx0 B w0 ρ0 ρ a w hb hc Q hQ
  refine wp_block (wp_loop_rounds (m x0 + 1) ?_)
  have hbody : subR root (0 :: 0 :: pathB root id) = some (bodyB root id) := by simp [subR, hp, Code.child]
  have key : ∀ (k : Nat) (x : α) (ρ : Rho) (a : Act) (w : World), inv x → m x < k → (∀ e s, R x e s → R x0 e s) → ConcF n B base.length w0 ρ0 ρ a w (S x) → Code.rounds P (bodyB root id) (Exit.inBlock id Q) k a w := by
    intro k
    induction k with
    | zero => intro x ρ a w _ h; omega
    | succ k ih =>
      intro x ρ a w hi hlt hR hc
      rw [rounds_succ]
      have h := step x hi
      unfold roundF at h
      refine evCodeF_ok hmix hb (bodyB root id) (0 :: 0 :: pathB root id) hbody hds ρ a w (S x) hc _ (T.holds_mono (T.holds_bind h) fun r hr ρ' a' w' hc' => ?_)
      have hc2 : ConcF n B base.length w0 ρ0 ρ' a' w' ⟨pr r.2.sl ks2, r.2.mem⟩ := ⟨hc'.conc, hc'.nle, fun t => by
        rcases pr_get r.2.sl t ks2 with e | e
        · show AV.rel _ (findF t (pr r.2.sl ks2)) _; rw [e]; exact hc'.slots t
        · show AV.rel _ (findF t (pr r.2.sl ks2)) _; rw [e]; trivial⟩
      obtain ⟨ρ'', hc3⟩ := hc2.cut hb
      obtain ⟨e, st⟩ := r
      have hr : (e = .normal ∧ ∃ y, inv y ∧ m y < m x ∧ FLe base (cutF base ⟨pr st.sl ks2, st.mem⟩) (S y) ∧ ∀ e s, R y e s → R x e s) ∨ (e ≠ .normal ∧ R x (blkEx id e) (cutF base ⟨pr st.sl ks2, st.mem⟩)) := hr
      rcases hr with ⟨he, y, hy, hm, hle, hRy⟩ | ⟨he, hr⟩
      · subst he
        exact ih y ρ'' a' w' hy (by omega) (fun e s h => hR e s (hRy e s h)) (hc3.le hb hle)
      · have hk := hQ _ _ ρ'' a' w' (hR _ _ hr) hc3
        cases e with
        | normal => exact absurd rfl he
        | ret => exact hk
        | exit id' =>
          simp only [blkEx] at hk
          show (if id' = id then Q .normal a' w' else Q (.exit id') a' w')
          split at hk
          · rename_i h; rw [if_pos h]; exact hk
          · rename_i h; rw [if_neg h]; exact hk
  exact key (m x0 + 1) x0 ρ a w hx0 (by omega) (fun _ _ h => h) hc

theorem leads_of {α : Type} {Φ : α → Prop} : ∀ {t : T α} {a : α}, t.leads a → t.holds Φ → Φ a
  | .leaf _, _, h, k => by cases h; exact k
  | .ite c t e, a, h, k => by
    cases c with
    | true => exact leads_of (t := t) (h.1 rfl) (k.1 rfl)
    | false => exact leads_of (t := e) (h.2 rfl) (k.2 rfl)
  | .need c t, a, h, k => leads_of (t := t) h.2 k.2
  | .all _, _, h, _ => h.elim
  | .fail, _, h, _ => h.elim

/-- A summary of a loop: a state that fits goes to the ends of a tree. -/
def sumF {P : Program} {n : Nat} {root : Code} (path : List Nat) {α : Type} (dec : Mem → FSt → Option α) (S : α → FSt) (invB : α → Bool) (R : α → T (EX × FSt))
    (hdec : ∀ base f x, dec base f = some x → FLe base f (S x)) (ok : ∀ c, subR root path = some c → ∀ base x, (∃ f, dec base f = some x) → invB x = true → TriF P n base c (S x) fun e s => ∃ t, (R x).leads (e, t) ∧ FLe base s t) : SumF P n root where
  path := path
  run := fun base f => match dec base f with
    | some x => .need (invB x) (R x)
    | none => .fail
  ok := by
    intro c hc base B w0 ρ0 ρ a w f hb hconc Q h
    have h : (match dec base f with
      | some x => T.need (invB x) (R x)
      | none => T.fail).holds _ := h
    split at h
    · rename_i x hx
      refine ok c hc base x ⟨f, hx⟩ h.1 B w0 ρ0 ρ a w hb (hconc.le hb (hdec base f x hx)) Q fun e s ρ' a' w' hr hc' => ?_
      obtain ⟨t, ht, hle⟩ := hr
      exact leads_of ht h.2 ρ' a' w' (hc'.le hb hle)
    · exact h.elim

/-- All of some places from one on. -/
def allB (p : Nat → Bool) : Nat → Nat → Bool
  | 0, _ => true
  | k + 1, i => p i && allB p k (i + 1)

theorem allB_iff (p : Nat → Bool) : ∀ (k i : Nat), allB p k i = true ↔ ∀ j, j < k → p (i + j) = true
  | 0, i => ⟨fun _ j h => by omega, fun _ => rfl⟩
  | k + 1, i => by
    show (p i && allB p k (i + 1)) = true ↔ _
    rw [Bool.and_eq_true, allB_iff p k (i + 1)]
    constructor
    · rintro ⟨h1, h2⟩ j hj
      cases j with
      | zero => exact h1
      | succ j => rw [show i + (j + 1) = i + 1 + j by omega]; exact h2 j (by omega)
    · intro h
      refine ⟨by simpa using h 0 (by omega), fun j hj => ?_⟩
      rw [show i + 1 + j = i + (j + 1) by omega]; exact h (j + 1) (by omega)

theorem allB_congr {p q : Nat → Bool} (k i : Nat) (h : ∀ j, i ≤ j → j < i + k → p j = q j) : allB p k i = allB q k i := by
  induction k generalizing i with
  | zero => rfl
  | succ k ih =>
    show (p i && allB p k (i + 1)) = (q i && allB q k (i + 1))
    rw [h i (Nat.le_refl _) (by omega), ih (i + 1) fun j h1 h2 => h j (by omega) (by omega)]

end Go.Proofs.Ytdmcpgbnomhahaa
