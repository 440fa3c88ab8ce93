/-
  Loops as trees: a round is reckoned once, the loop is its iteration; summaries of loops out of that. No conditions.
-/
import Derived.Test.YtdmcpgbnomhahaaFo
namespace Go.Proofs.Ytdmcpgbnomhahaa
set_option linter.unusedVariables false
set_option linter.unusedSimpArgs false
open Go.RowKit

/-- A round's end: the next round's state, or the loop's end. -/
inductive Nx (V : Type) where
  | go (y : V)
  | out (e : EX) (s : FSt)

def nxF {V : Type} (S : V → FSt) : Nx V → EX × FSt
  | .go y => (.normal, S y)
  | .out e s => (e, s)

def isOut {V : Type} : Nx V → Bool
  | .out .normal _ => false
  | _ => true

/-- The rounds of a loop, one tree. -/
def loopTree {V : Type} (st : V → T (Nx V)) : Nat → V → T (EX × FSt)
  | 0, _ => .fail
  | k + 1, x => (st x).bind fun r => match r with
    | .go y => loopTree st k y
    | .out .normal _ => .fail
    | .out e s => .leaf (e, s)

/-- From a state, a piece of code ends as a tree says. -/
def TriR (P : Program) (n : Nat) (base : Mem) (c : Code) (s : FSt) (R : T (EX × FSt)) : Prop :=
  ∀ (B : Nat → Prop) (w0 : World) (ρ0 ρ : Rho) (a : Act) (w : World), Base B w0 ρ0 base → ConcF n B base.length w0 ρ0 ρ a w s → ∀ Q : Exit → Act → World → Prop,
    (R.holds fun r => ∀ ρ' a' w', ConcF n B base.length w0 ρ0 ρ' a' w' r.2 → Q r.1.ex a' w') → c.wp P Q a w

theorem loopTree_ok {P : Program} (hmix : P.follows .mixedOrders = true) {n : Nat} {env : List (Ctr P)} {root : Code} {ss : List (SumF P n root)} {base : Mem} {id : Nat} (hp : subR root (pathB root id) = some (.block id (.loop (bodyB root id)))) (hds : dstC n (bodyB root id) = true) {V : Type} (ks ks2 : List Nat) (S : V → FSt) (st : V → T (Nx V))
    (hr : ∀ x, roundF P n env root ss base ks ks2 id (S x) = (st x).map (nxF S)) (k : Nat) (x : V) (B : Nat → Prop) (w0 : World) (ρ0 ρ : Rho) (a : Act) (w : World) (hb : Base B w0 ρ0 base) (hc : ConcF n B base.length w0 ρ0 ρ a w (S x)) (Q : Exit → Act → World → Prop)
    (h : (loopTree st k x).holds fun r => ∀ ρ' a' w', ConcF n B base.length w0 ρ0 ρ' a' w' r.2 → Q (blkEx id r.1).ex a' w') : (Code.block id (.loop (bodyB root id))).wp P Q a w := by
  refine wp_block (wp_loop_rounds k ?_)
  have hbody : subR root (0 :: 0 :: pathB root id) = some (bodyB root id) := by simp [subR, hp, Code.child]
  induction k generalizing x ρ a w with
  | zero => exact h.elim
  | succ k ih =>
    rw [rounds_succ]
    have h := T.holds_bind h
    have hround : (roundF P n env root ss base ks ks2 id (S x)).holds fun r => (r.1 = .normal → ∃ y, r.2 = S y ∧ (loopTree st k y).holds fun r => ∀ ρ' a' w', ConcF n B base.length w0 ρ0 ρ' a' w' r.2 → Q (blkEx id r.1).ex a' w') ∧
        (r.1 ≠ .normal → ∀ ρ' a' w', ConcF n B base.length w0 ρ0 ρ' a' w' r.2 → Q (blkEx id r.1).ex a' w') := by
      rw [hr x]
      refine T.bind_holds (T.holds_mono h fun nx hnx => ?_)
      cases nx with
      | go y => exact ⟨fun _ => ⟨y, rfl, hnx⟩, fun hne => absurd rfl hne⟩
      | out e s =>
        cases e with
        | normal => exact hnx.elim
        | ret => exact ⟨fun he => (by cases he), fun _ => hnx⟩
        | exit id' => exact ⟨fun he => (by cases he), fun _ => hnx⟩
    unfold roundF at hround
    refine evCodeF_ok hmix hb (bodyB root id) (0 :: 0 :: pathB root id) hbody hds ρ a w (S x) hc _ (T.holds_mono (T.holds_bind hround) fun r hr2 ρ' a' w' hc' => ?_)
    have hc2 : ConcF n B base.length w0 ρ0 ρ' a' w' ⟨pr r.2.sl ks2, r.2.mem⟩ := ⟨hc'.conc, hc'.nle, fun t => by
      rcases pr_get r.2.sl t ks2 with e | e
      · show AV.rel _ (findF t (pr r.2.sl ks2)) _; rw [e]; exact hc'.slots t
      · show AV.rel _ (findF t (pr r.2.sl ks2)) _; rw [e]; trivial⟩
    obtain ⟨ρ'', hc3⟩ := hc2.cut hb
    obtain ⟨e, s⟩ := r
    obtain ⟨k1, k2⟩ := hr2
    cases e with
    | normal =>
      obtain ⟨y, hy, hl⟩ := k1 rfl
      have hy : cutF base ⟨pr s.sl ks2, s.mem⟩ = S y := hy
      rw [hy] at hc3
      exact ih y ρ'' a' w' hc3 hl
    | ret => exact k2 (by simp) ρ'' a' w' hc3
    | exit id' =>
      have hk := k2 (by simp) ρ'' a' w' hc3
      simp only [blkEx] at hk
      show (if id' = id then Q .normal a' w' else Q (.exit id') a' w')
      split at hk
      · rename_i h; rw [if_pos h]; exact hk
      · rename_i h; rw [if_neg h]; exact hk

/-- A loop ends as a tree says that follows from its iteration. -/
theorem triR_of {P : Program} (hmix : P.follows .mixedOrders = true) {n : Nat} {env : List (Ctr P)} {root : Code} {ss : List (SumF P n root)} {base : Mem} {id : Nat} (hp : subR root (pathB root id) = some (.block id (.loop (bodyB root id)))) (hds : dstC n (bodyB root id) = true) {V : Type} (ks ks2 : List Nat) (S : V → FSt) (st : V → T (Nx V))
    (hr : ∀ x, roundF P n env root ss base ks ks2 id (S x) = (st x).map (nxF S)) (x : V) (R : T (EX × FSt)) (k : Nat) (hR : ∀ Φ : EX × FSt → Prop, R.holds Φ → (loopTree st k x).holds fun r => Φ (blkEx id r.1, r.2)) :
    TriR P n base (.block id (.loop (bodyB root id))) (S x) R := by
  intro B w0 ρ0 ρ a w hb hc Q h
  exact loopTree_ok hmix hp hds ks ks2 S st hr k x B w0 ρ0 ρ a w hb hc Q (hR (fun r => ∀ ρ' a' w', ConcF n B base.length w0 ρ0 ρ' a' w' r.2 → Q r.1.ex a' w') h)

/-- A summary out of that: the states that fit. -/
def sumL {P : Program} {n : Nat} {root : Code} (path : List Nat) {X : Type} (dec : Mem → FSt → Option X) (base : X → Mem) (S : X → FSt) (R : X → T (EX × FSt))
    (hdec : ∀ b f x, dec b f = some x → b = base x ∧ FLe b f (S x)) (ok : ∀ c, subR root path = some c → ∀ x, TriR P n (base x) c (S x) (R x)) : SumF P n root where
  path := path
  run := fun b f => match dec b (cutF b f) with
    | some x => R x
    | none => .fail
  ok := by
    intro c hc b B w0 ρ0 ρ a w f hb hconc Q h
    have h : (match dec b (cutF b f) with
      | some x => R x
      | none => T.fail).holds _ := h
    obtain ⟨ρ, hconc⟩ := hconc.cut hb
    split at h
    · rename_i x hx
      obtain ⟨e, hle⟩ := hdec b (cutF b f) x hx
      subst e
      exact ok c hc x B w0 ρ0 ρ a w hb (hconc.le hb hle) Q h
    · exact h.elim

/-! ### Iterations in closed form -/

/-- c rounds from place s on. -/
def iter {A : Type} (g : Nat → A → A) : Nat → Nat → A → A
  | 0, _, a => a
  | c + 1, s, a => iter g c (s + 1) (g s a)

theorem fill_keep {A : Type} (g : Nat → A → A) (p : A → Nat → Nat) (hg : ∀ j a q, q ≠ j → p (g j a) q = p a q) : ∀ (c s : Nat) (a : A) (q : Nat), q < s ∨ s + c ≤ q → p (iter g c s a) q = p a q
  | 0, _, _, _, _ => rfl
  | c + 1, s, a, q, h => by
    show p (iter g c (s + 1) (g s a)) q = p a q
    rw [fill_keep g p hg c (s + 1) (g s a) q (by omega), hg s a q (by omega)]
/-- A column that is filled. -/
theorem fill_at {A : Type} (g : Nat → A → A) (p : A → Nat → Nat) (h : Nat → Nat) (hk : ∀ j a q, q ≠ j → p (g j a) q = p a q) (hg : ∀ j a, p (g j a) j = h j) : ∀ (c s : Nat) (a : A) (q : Nat), s ≤ q → q < s + c → p (iter g c s a) q = h q
  | 0, _, _, _, h1, h2 => by omega
  | c + 1, s, a, q, h1, h2 => by
    show p (iter g c (s + 1) (g s a)) q = h q
    by_cases e : q = s
    · subst e
      rw [fill_keep g p hk c (q + 1) (g q a) q (by omega), hg]
    · exact fill_at g p h hk hg c (s + 1) (g s a) q (by omega) (by omega)
/-- A column each of whose places is turned once. -/
theorem turn_at {A : Type} (g : Nat → A → A) (p : A → Nat → Nat) (f : Nat → Nat) (hk : ∀ j a q, q ≠ j → p (g j a) q = p a q) (hg : ∀ j a, p (g j a) j = f (p a j)) : ∀ (c s : Nat) (a : A) (q : Nat), s ≤ q → q < s + c → p (iter g c s a) q = f (p a q)
  | 0, _, _, _, h1, h2 => by omega
  | c + 1, s, a, q, h1, h2 => by
    show p (iter g c (s + 1) (g s a)) q = f (p a q)
    by_cases e : q = s
    · subst e
      rw [fill_keep g p hk c (q + 1) (g q a) q (by omega), hg]
    · rw [turn_at g p f hk hg c (s + 1) (g s a) q (by omega) (by omega), hk s a q e]

theorem iter_congr {A : Type} {g h : Nat → A → A} : ∀ (c s : Nat) (a : A), (∀ j a, s ≤ j → j < s + c → g j a = h j a) → iter g c s a = iter h c s a
  | 0, _, _, _ => rfl
  | c + 1, s, a, hg => by
    show iter g c (s + 1) (g s a) = iter h c (s + 1) (h s a)
    rw [hg s a (Nat.le_refl _) (by omega)]
    exact iter_congr c (s + 1) _ fun j a h1 h2 => hg j a (by omega) (by omega)

/-- Two iterations that keep a relation. -/
theorem iter_rel {A B : Type} {g : Nat → A → A} {h : Nat → B → B} (r : A → B → Prop) : ∀ (c s : Nat) (a : A) (b : B), (∀ j a b, s ≤ j → j < s + c → r a b → r (g j a) (h j b)) → r a b → r (iter g c s a) (iter h c s b)
  | 0, _, _, _, _, hr => hr
  | c + 1, s, a, b, hg, hr => iter_rel r c (s + 1) _ _ (fun j a b h1 h2 hr => hg j a b (by omega) (by omega) hr) (hg s a b (Nat.le_refl _) (by omega) hr)

theorem T_iter {V A : Type} (st : V → T (Nx V)) (X : Nat → A → V) (n : Nat) (g : Nat → A → A) (E : A → EX × FSt)
    (hgo : ∀ j a, j < n → ∀ Φ : Nx V → Prop, Φ (.go (X (j + 1) (g j a))) → (st (X j a)).holds Φ)
    (hend : ∀ a, ∀ Φ : Nx V → Prop, ((E a).1 ≠ .normal ∧ Φ (.out (E a).1 (E a).2)) → (st (X n a)).holds Φ) (hE : ∀ a, (E a).1 ≠ .normal) :
    ∀ (c s : Nat) (a : A), s + c = n → ∀ Φ : EX × FSt → Prop, Φ (E (iter g c s a)) → (loopTree st (c + 1) (X s a)).holds Φ := by
  intro c
  induction c with
  | zero =>
    intro s a hs Φ h
    have hs : s = n := by omega
    subst hs
    show ((st (X s a)).bind _).holds Φ
    refine T.bind_holds (hend a _ ⟨hE a, ?_⟩)
    have h : Φ (E a) := h
    have hn := hE a
    generalize E a = r at *
    obtain ⟨e, f⟩ := r
    cases e with
    | normal => exact absurd rfl hn
    | ret => exact h
    | exit id => exact h
  | succ c ih =>
    intro s a hs Φ h
    show ((st (X s a)).bind _).holds Φ
    exact T.bind_holds (hgo s a (by omega) _ (ih (s + 1) (g s a) (by omega) Φ h))

/-- Rounds that may end the loop ahead of its end. -/
def iterX {A O : Type} (g : Nat → A → A ⊕ O) : Nat → Nat → A → A ⊕ O
  | 0, _, a => .inl a
  | c + 1, s, a => match g s a with
    | .inl b => iterX g c (s + 1) b
    | .inr o => .inr o

theorem T_iterX {V A O : Type} (st : V → T (Nx V)) (X : Nat → A → V) (n : Nat) (g : Nat → A → A ⊕ O) (E : A → EX × FSt) (F : O → EX × FSt)
    (hgo : ∀ j a, j < n → ∀ Φ : Nx V → Prop, (∀ b, g j a = .inl b → Φ (.go (X (j + 1) b))) → (∀ o, g j a = .inr o → Φ (.out (F o).1 (F o).2)) → (st (X j a)).holds Φ)
    (hend : ∀ a, ∀ Φ : Nx V → Prop, Φ (.out (E a).1 (E a).2) → (st (X n a)).holds Φ) (hE : ∀ a, (E a).1 ≠ .normal) (hF : ∀ o, (F o).1 ≠ .normal) :
    ∀ (c s : Nat) (a : A), s + c = n → ∀ Φ : EX × FSt → Prop, (∀ b, iterX g c s a = .inl b → Φ (E b)) → (∀ o, iterX g c s a = .inr o → Φ (F o)) → (loopTree st (c + 1) (X s a)).holds Φ := by
  have fin : ∀ (k : Nat) (r : EX × FSt) (Φ : EX × FSt → Prop), r.1 ≠ .normal → Φ r → ((match (Nx.out r.1 r.2 : Nx V) with
      | .go y => loopTree st k y
      | .out .normal _ => .fail
      | .out e s => .leaf (e, s)) : T (EX × FSt)).holds Φ := by
    intro k r Φ hn h
    obtain ⟨e, f⟩ := r
    cases e with
    | normal => exact absurd rfl hn
    | ret => exact h
    | exit id => exact h
  intro c
  induction c with
  | zero =>
    intro s a hs Φ h1 h2
    have hs : s = n := by omega
    subst hs
    show ((st (X s a)).bind _).holds Φ
    exact T.bind_holds (hend a _ (fin 0 (E a) Φ (hE a) (h1 a rfl)))
  | succ c ih =>
    intro s a hs Φ h1 h2
    show ((st (X s a)).bind _).holds Φ
    refine T.bind_holds (hgo s a (by omega) _ (fun b hb => ?_) (fun o ho => ?_))
    · refine ih (s + 1) b (by omega) Φ (fun b' hb' => h1 b' ?_) (fun o ho => h2 o ?_)
      · show (match g s a with | .inl b => iterX g c (s + 1) b | .inr o => .inr o) = _
        rw [hb]; exact hb'
      · show (match g s a with | .inl b => iterX g c (s + 1) b | .inr o => .inr o) = _
        rw [hb]; exact ho
    · refine fin (c + 1) (F o) Φ (hF o) (h2 o ?_)
      show (match g s a with | .inl b => iterX g c (s + 1) b | .inr o => .inr o) = _
      rw [ho]

theorem wrap_next {i : Nat} (h : i < 1152921504606846976) : IntKind.i64.wrap ((i : Int) + 1) = ((i + 1 : Nat) : Int) := by
  rw [IntWalk.i64_in _ (by omega)]; simp

/-! ### States that fit -/

def getI : AV → Option Int
  | .one (.int .i64 q) => some q
  | .one (.num .i64 q) => some q
  | _ => none
def getF (k : FloatKind) : AV → Option Nat
  | .one (.fl k' x) => if k' = k then some x else none
  | _ => none
def getB : AV → Option Bool
  | .one (.tt b) => some b
  | .one (.bo b) => some b
  | _ => none
def getSu (id sz : Nat) : AV → Option (Nat × Nat)
  | .one (.su id' sz' i n _) => if id' = id ∧ sz' = sz then some (i, n) else none
  | _ => none
def getFn (f : FuncId) : AV → Option Unit
  | .one (.fn g []) => if g = f then some () else none
  | _ => none

theorem getI_rel {a : AV} {q : Int} (h : getI a = some q) (ρ : Rho) (v : Value) (hv : a.rel ρ v) : (AV.one (.num .i64 q)).rel ρ v := by
  unfold getI at h
  split at h <;> cases h <;> exact hv
theorem getF_rel {k : FloatKind} {a : AV} {x : Nat} (h : getF k a = some x) (ρ : Rho) (v : Value) (hv : a.rel ρ v) : (AV.one (.fl k x)).rel ρ v := by
  unfold getF at h
  split at h
  · split at h
    · rename_i hk; subst hk; cases h; exact hv
    · cases h
  · cases h
theorem getB_rel {a : AV} {b : Bool} (h : getB a = some b) (ρ : Rho) (v : Value) (hv : a.rel ρ v) : (AV.one (.bo b)).rel ρ v := by
  unfold getB at h
  split at h <;> cases h <;> exact hv
theorem getSu_rel {id sz : Nat} {a : AV} {i n : Nat} (h : getSu id sz a = some (i, n)) (ρ : Rho) (v : Value) (hv : a.rel ρ v) : (AV.one (.su id sz i n false)).rel ρ v := by
  unfold getSu at h
  split at h
  · split at h
    · rename_i hk; obtain ⟨h1, h2⟩ := hk; subst h1; subst h2; cases h; exact hv
    · cases h
  · cases h
theorem ite_some {α : Type} {p : Prop} [Decidable p] {a x : α} (h : (if p then some a else none) = some x) : p ∧ a = x := by
  by_cases hp : p
  · rw [if_pos hp] at h; exact ⟨hp, Option.some.inj h⟩
  · rw [if_neg hp] at h; cases h
def getSo (id sz k : Nat) : AV → Option Nat
  | .one (.so id' sz' n k') => if id' = id ∧ sz' = sz ∧ k' = k then some n else none
  | _ => none
theorem getSo_rel {id sz k : Nat} {a : AV} {n : Nat} (h : getSo id sz k a = some n) (ρ : Rho) (v : Value) (hv : a.rel ρ v) : (AV.one (.so id sz n k)).rel ρ v := by
  unfold getSo at h
  split at h
  · split at h
    · rename_i hk; obtain ⟨h1, h2, h3⟩ := hk; subst h1; subst h2; subst h3; cases h; exact hv
    · cases h
  · cases h
theorem getFn_rel {f : FuncId} {a : AV} (h : getFn f a = some ()) (ρ : Rho) (v : Value) (hv : a.rel ρ v) : (AV.one (.fn f [])).rel ρ v := by
  unfold getFn at h
  split at h
  · split at h
    · rename_i hk; subst hk; exact hv
    · cases h
  · cases h

theorem fle_of {base um' : Mem} {f : FSt} {sl : List (Nat × AV)} (hs : ∀ p ∈ sl, ∀ ρ v, (findF p.1 f.sl).rel ρ v → p.2.rel ρ v) (hu : MemLe (f.mem.drop base.length) um') : FLe base f ⟨sl, base ++ um'⟩ := by
  refine ⟨fun u ρ v hv => ?_, um', rfl, hu⟩
  have key : ∀ (l : List (Nat × AV)), (∀ p ∈ l, ∀ ρ v, (findF p.1 f.sl).rel ρ v → p.2.rel ρ v) → (findF u l).rel ρ v := by
    intro l
    induction l with
    | nil => intro _; trivial
    | cons p l ih =>
      intro h
      obtain ⟨k, a⟩ := p
      cases hb : Nat.beq k u with
      | true =>
        have := Nat.eq_of_beq_eq_true hb
        subst this
        simp only [findF, hb]
        exact h (k, a) (List.Mem.head _) ρ v hv
      | false =>
        simp only [findF, hb]
        exact ih fun q hq => h q (List.Mem.tail _ hq)
  exact key sl hs

theorem needE {c b : Bool} (h : c = true → b = true) : (bif c then b else true) = true := by
  cases c with
  | true => exact h rfl
  | false => rfl
theorem needT {c b : Bool} (h : c = false → b = true) : (bif c then true else b) = true := by
  cases c with
  | true => rfl
  | false => exact h rfl

theorem iter_shift {A : Type} (g : Nat → A → A) (s : Nat) : ∀ (c t : Nat) (a : A), iter (fun q => g (q + s)) c t a = iter g c (t + s) a
  | 0, _, _ => rfl
  | c + 1, t, a => by
    show iter (fun q => g (q + s)) c (t + 1) (g (t + s) a) = iter g c (t + s + 1) (g (t + s) a)
    rw [iter_shift g s c (t + 1), show t + 1 + s = t + s + 1 by omega]

def getPtr (id sz : Nat) : AV → Option Unit
  | .one (.ptr id' sz' 0 0) => if id' = id ∧ sz' = sz then some () else none
  | _ => none
theorem getPtr_rel {id sz : Nat} {a : AV} (h : getPtr id sz a = some ()) (ρ : Rho) (v : Value) (hv : a.rel ρ v) : (AV.one (.ptr id sz 0 0)).rel ρ v := by
  unfold getPtr at h
  split at h
  · split at h
    · rename_i hk; obtain ⟨h1, h2⟩ := hk; subst h1; subst h2; exact hv
    · cases h
  · cases h

theorem bdOf_s (d : Nat) (n : Int) (b : Bool) : bdOf d (some (n, b)) = n := rfl
theorem bdOf_n (d : Nat) : bdOf d none = (d : Int) := rfl

theorem memLe_refl : ∀ (m : Mem), MemLe m m := fun m => MemLe.refl m

theorem not_bne (b : Bool) : (!(b != b)) = true := by cases b <;> rfl

end Go.Proofs.Ytdmcpgbnomhahaa
