/-
  Loops by an invariant: states that are weaker, triples, the rule of the loop; a summary of a loop. No conditions.
-/
import Derived.Test.YtdmcpgbnomhahaaMg
namespace Go.Proofs.Ytdmcpgbnomhahaa
set_option linter.unusedVariables false
set_option linter.unusedSimpArgs false
open Go.RowKit

/-! ### Weaker states -/

def AvLe (a b : AV) : Prop := ∀ ρ v, a.rel ρ v → b.rel ρ v

theorem AvLe.refl (a : AV) : AvLe a a := fun _ _ h => h
theorem AvLe.any (a : AV) : AvLe a .any := fun _ _ _ => trivial

/-- Slot for slot. -/
def SlLe : List AV → List AV → Prop
  | [], [] => True
  | a :: l, b :: m => AvLe a b ∧ SlLe l m
  | _, _ => False

theorem SlLe.refl : ∀ (l : List AV), SlLe l l
  | [] => trivial
  | a :: l => ⟨AvLe.refl a, SlLe.refl l⟩

theorem SlLe.length : ∀ {l m : List AV}, SlLe l m → l.length = m.length
  | [], [], _ => rfl
  | _ :: _, _ :: _, h => congrArg (· + 1) (SlLe.length h.2)

theorem SlLe.trans' : ∀ {l m r : List AV}, SlLe l m → SlLe m r → SlLe l r
  | [], [], [], _, _ => trivial
  | _ :: _, _ :: _, _ :: _, h, k => ⟨fun ρ v hv => k.1 ρ v (h.1 ρ v hv), SlLe.trans' h.2 k.2⟩

theorem SlLe.get : ∀ {l m : List AV}, SlLe l m → ∀ t, AvLe (l.getD t .und) (m.getD t .und)
  | [], [], _, t => AvLe.refl _
  | a :: l, b :: m, h, 0 => h.1
  | a :: l, b :: m, h, t + 1 => by simpa using SlLe.get h.2 t

/-- A state that says less. -/
structure StLe (s t : St) : Prop where
  sl : SlLe s.sl t.sl
  mem : MemLe s.mem t.mem

theorem StLe.trans {s t u : St} (h : StLe s t) (k : StLe t u) : StLe s u := ⟨h.sl.trans' k.sl, h.mem.trans k.mem⟩
theorem StLe.refl (s : St) : StLe s s := ⟨SlLe.refl _, MemLe.refl _⟩
theorem StLe.of_eq {s t : St} (h : s = t) : StLe s t := h ▸ StLe.refl s

theorem Conc.le {B : Nat → Prop} {m0 : Nat} {w0 : World} {ρ0 ρ : Rho} {a : Act} {w : World} {s t : St} (h : Conc B m0 w0 ρ0 ρ a w s) (hl : StLe s t) : Conc B m0 w0 ρ0 ρ a w t := by
  have hlen := hl.mem.length
  refine ⟨h.defers, ⟨by rw [← hl.sl.length]; exact h.slots.1, fun u => hl.sl.get u _ _ (h.slots.2 u)⟩, ⟨fun id hid => h.mem.dom id (by omega), fun id C hC => ?_⟩, ⟨fun id C hid hC => ?_, fun i j bi oi bj oj hi hij hCi hCj => ?_⟩, h.below, h.size, h.keep, by have := h.len; omega⟩
  · obtain ⟨D, hD, hle⟩ := hl.mem.get id C hC
    obtain ⟨b, o, h1, h2⟩ := h.mem.blk id D hD
    exact ⟨b, o, h1, hle _ _ _ _ h2⟩
  · obtain ⟨D, hD, hle⟩ := hl.mem.get id C hC
    exact h.own.low id D hid hD
  · obtain ⟨Ci, hCi⟩ := hCi
    obtain ⟨Cj, hCj⟩ := hCj
    obtain ⟨Di, hDi, _⟩ := hl.mem.get i Ci hCi
    obtain ⟨Dj, hDj, _⟩ := hl.mem.get j Cj hCj
    exact h.own.inj i j bi oi bj oj hi hij ⟨Di, hDi⟩ ⟨Dj, hDj⟩

/-! ### Triples -/

/-- From a state, a piece of code ends in states that are known. -/
def Tri (P : Program) (m0 : Nat) (c : Code) (s : St) (R : EX → St → Prop) : Prop :=
  ∀ (B : Nat → Prop) (w0 : World) (ρ0 ρ : Rho) (a : Act) (w : World), Conc B m0 w0 ρ0 ρ a w s → ∀ Q : Exit → Act → World → Prop,
    (∀ e st' ρ' a' w', R e st' → Conc B m0 w0 ρ0 ρ' a' w' st' → Q e.ex a' w') → c.wp P Q a w

/-- How a block ends. -/
def blkEx (id : Nat) : EX → EX
  | .exit id' => if id' = id then .normal else .exit id'
  | e => e

theorem loop_tri {P : Program} {env : List (Ctr P)} {root : Code} {ss : List (Sum P root)} {m0 : Nat} {draw : Array Oper → St → T St} (hd : DrawOK P m0 draw) {body : Code} {id : Nat} {p : List Nat}
    (hp : subR root p = some (.block id (.loop body))) {α : Type} (S : α → St) (inv : α → Prop) (m : α → Nat) (R : α → EX → St → Prop)
    (step : ∀ x, inv x → (evCode P env root ss m0 draw body (0 :: 0 :: p) (S x)).holds fun r =>
      (r.1 = .normal ∧ ∃ y, inv y ∧ m y < m x ∧ StLe r.2 (S y) ∧ ∀ e s, R y e s → R x e s) ∨ (r.1 ≠ .normal ∧ R x (blkEx id r.1) r.2)) :
    ∀ x, inv x → Tri P m0 (.block id (.loop body)) (S x) (R x) := by
  intro x0 hx0 B w0 ρ0 ρ a w hc Q hQ
  refine wp_block (wp_loop_rounds (m x0 + 1) ?_)
  have hbody : subR root (0 :: 0 :: p) = some body := by simp [subR, hp, Code.child]
  have key : ∀ (n : Nat) (x : α) (ρ : Rho) (a : Act) (w : World), inv x → m x < n → (∀ e s, R x e s → R x0 e s) → Conc B m0 w0 ρ0 ρ a w (S x) → Code.rounds P body (Exit.inBlock id Q) n a w := by
    intro n
    induction n with
    | zero => intro x ρ a w _ h; omega
    | succ n ih =>
      intro x ρ a w hi hlt hR hc
      rw [rounds_succ]
      refine evCode_ok hd body (0 :: 0 :: p) hbody B w0 ρ0 ρ a w (S x) hc _ (T.holds_mono (step x hi) fun r hr ρ' a' w' hc' => ?_)
      obtain ⟨e, st⟩ := r
      rcases hr with ⟨he, y, hy, hm, hle, hRy⟩ | ⟨he, hr⟩
      · have he : e = .normal := he
        subst he
        exact ih y ρ' a' w' hy (by omega) (fun e s h => hR e s (hRy e s h)) (hc'.le hle)
      · have hk := hQ _ _ ρ' a' w' (hR _ _ hr) hc'
        cases e with
        | normal => exact absurd rfl he
        | ret => exact hk
        | exit id' =>
          simp only [blkEx] at hk
          show (if id' = id then Q .normal a' w' else Q (.exit id') a' w')
          split at hk
          · rename_i h; rw [if_pos h]; exact hk
          · rename_i h; rw [if_neg h]; exact hk
  exact key (m x0 + 1) x0 ρ a w hx0 (by omega) (fun _ _ h => h) hc

theorem T.h_ite {α : Type} {Φ : α → Prop} {c : Bool} {t e : T α} (h : c = true → t.holds Φ) (k : c = false → e.holds Φ) : (T.ite c t e).holds Φ := ⟨h, k⟩
theorem T.h_need {α : Type} {Φ : α → Prop} {c : Bool} {t : T α} (h : c = true) (k : t.holds Φ) : (T.need c t).holds Φ := ⟨h, k⟩
theorem T.h_leaf {α : Type} {Φ : α → Prop} {a : α} (h : Φ a) : (T.leaf a).holds Φ := h

/-! ### Slots that are forgotten -/

def inL : Nat → List Nat → Bool
  | _, [] => false
  | t, u :: l => if t = u then true else inL t l

def keepS (ks : List Nat) : Nat → List AV → List AV
  | _, [] => []
  | t, a :: l => (match inL t ks with | true => a | false => .any) :: keepS ks (t + 1) l

theorem keepS_le (ks : List Nat) : ∀ (t : Nat) (l : List AV), SlLe l (keepS ks t l)
  | _, [] => trivial
  | t, a :: l => ⟨by
      show AvLe a (match inL t ks with | true => a | false => .any)
      split
      · exact AvLe.refl a
      · exact AvLe.any a, keepS_le ks (t + 1) l⟩

/-- A state whose other slots are forgotten. -/
def norm (ks : List Nat) (s : St) : St := ⟨keepS ks 0 s.sl, s.mem⟩

theorem SlLe.trans : ∀ {l m r : List AV}, SlLe l m → SlLe m r → SlLe l r
  | [], [], [], _, _ => trivial
  | _ :: _, _ :: _, _ :: _, h, k => ⟨fun ρ v hv => k.1 ρ v (h.1 ρ v hv), SlLe.trans h.2 k.2⟩

def findA : Nat → List (Nat × AV) → AV
  | _, [] => .any
  | t, (u, a) :: l => if t = u then a else findA t l

/-- Slots of which few are known. -/
def mkSl : Nat → Nat → List (Nat × AV) → List AV
  | 0, _, _ => []
  | n + 1, t, l => findA t l :: mkSl n (t + 1) l

/-- The path of the block with a number that holds a loop. -/
def findB (id : Nat) : Code → List Nat → Option (List Nat)
  | .seq a b, p => match findB id a (0 :: p) with
    | some q => some q
    | none => findB id b (1 :: p)
  | .cond _ a b, p => match findB id a (0 :: p) with
    | some q => some q
    | none => findB id b (1 :: p)
  | .block i b, p => if i = id then (match b with | .loop _ => some p | _ => findB id b (0 :: p)) else findB id b (0 :: p)
  | .loop b, p => findB id b (0 :: p)
  | .scope b, p => findB id b (0 :: p)
  | _, _ => none
def pathB (root : Code) (id : Nat) : List Nat := (findB id root []).getD []
def bodyB (root : Code) (id : Nat) : Code := match subR root (pathB root id) with
  | some (.block _ (.loop b)) => b
  | _ => .skip

/-- One round of a loop, the other slots forgotten. -/
def roundB (P : Program) (env : List (Ctr P)) (root : Code) (m0 : Nat) (id : Nat) (ks : List Nat) (s : St) : T (EX × St) :=
  (evCode P env root [] m0 (evDraw P env m0) (bodyB root id) (0 :: 0 :: pathB root id) s).map fun r => (r.1, norm ks r.2)

theorem loopB_tri {P : Program} (hmix : P.follows .mixedOrders = true) {env : List (Ctr P)} {root : Code} {m0 : Nat} {id : Nat} (hp : subR root (pathB root id) = some (.block id (.loop (bodyB root id)))) {α : Type} (ks : List Nat) (S : α → St) (inv : α → Prop) (m : α → Nat) (R : α → EX → St → Prop)
    (step : ∀ x, inv x → (roundB P env root m0 id ks (S x)).holds fun r =>
      (r.1 = .normal ∧ ∃ y, inv y ∧ m y < m x ∧ StLe r.2 (S y) ∧ ∀ e s, R y e s → R x e s) ∨ (r.1 ≠ .normal ∧ ∀ s, StLe s r.2 → R x (blkEx id r.1) s)) :
    ∀ x, inv x → Tri P m0 (.block id (.loop (bodyB root id))) (S x) (R x) := by
  refine loop_tri (env := env) (ss := []) (evDraw_ok hmix env m0) hp S inv m R fun x hx => ?_
  have h := step x hx
  unfold roundB at h
  refine T.holds_mono (T.holds_map h) fun r hr => ?_
  have hle : StLe r.2 (norm ks r.2) := ⟨keepS_le ks 0 _, MemLe.refl _⟩
  rcases hr with ⟨h1, y, h2, h3, h4, h5⟩ | ⟨h1, h2⟩
  · exact .inl ⟨h1, y, h2, h3, ⟨hle.sl.trans h4.sl, h4.mem⟩, h5⟩
  · exact .inr ⟨h1, h2 _ hle⟩

theorem findA_cases : ∀ (t : Nat) (ks : List (Nat × AV)), findA t ks = .any ∨ (t, findA t ks) ∈ ks
  | t, [] => .inl rfl
  | t, (u, a) :: l => by
    unfold findA
    split
    · rename_i h; subst h; exact .inr (List.Mem.head _)
    · rcases findA_cases t l with h | h
      · exact .inl h
      · exact .inr (List.Mem.tail _ h)

theorem SlLe.mk' {ks : List (Nat × AV)} : ∀ (l : List AV) (t : Nat), (∀ p ∈ ks, t ≤ p.1 → AvLe (l.getD (p.1 - t) .und) p.2) → SlLe l (mkSl l.length t ks)
  | [], _, _ => trivial
  | a :: l, t, h => by
    refine ⟨?_, SlLe.mk' l (t + 1) fun p hp hle => ?_⟩
    · rcases findA_cases t ks with e | e
      · rw [e]; exact AvLe.any a
      · have := h _ e (Nat.le_refl _)
        simpa using this
    · have := h p hp (by omega)
      rw [show p.1 - t = (p.1 - (t + 1)) + 1 by omega] at this
      simpa using this

theorem SlLe.mk {ks : List (Nat × AV)} {l : List AV} {n : Nat} (hn : l.length = n) (h : ∀ p ∈ ks, AvLe (l.getD p.1 .und) p.2) : SlLe l (mkSl n 0 ks) := by
  subst hn
  exact SlLe.mk' l 0 fun p hp _ => h p hp

/-- A summary of a loop: a state that fits goes to the one end. -/
def sumOf {P : Program} {root : Code} (path : List Nat) (M : Nat) {α : Type} (dec : St → Option α) (S : α → St) (invB : α → Bool) (R : α → EX × St)
    (hdec : ∀ st x, dec st = some x → StLe st (S x)) (ok : ∀ c, subR root path = some c → ∀ x, invB x = true → Tri P M c (S x) fun e s => e = (R x).1 ∧ StLe s (R x).2) : Sum P root where
  path := path
  run := fun m0 st => if m0 = M then match dec st with
    | some x => .need (invB x) (.leaf (R x))
    | none => .fail
    else .fail
  ok := by
    intro c hc B m0 w0 ρ0 ρ a w st hconc Q h
    simp only [] at h
    split at h
    · rename_i hM
      subst hM
      split at h
      · rename_i x hx
        exact ok c hc x h.1 B w0 ρ0 ρ a w (hconc.le (hdec st x hx)) Q fun e st' ρ' a' w' hr hc' => by
          obtain ⟨he, hle⟩ := hr
          subst he
          exact h.2 ρ' a' w' (hc'.le hle)
      · exact h.elim
    · exact h.elim

theorem BlLe.cols_eq {n : Nat} {cs cs' : List Col} (h : ∀ i, i < n → colsAt cs i = colsAt cs' i) (hl : cs'.length = cs.length) : BlLe (.cols n cs) (.cols n cs') :=
  BlLe.mk (Nat.le_refl _) hl fun i hi j hj => by
    have hj' : j < (colsAt cs' i).length := by rw [colsAt_length]; exact hj
    refine ⟨(colsAt cs' i)[j], (colsAt cs' i)[j], ?_, ?_, fun _ _ hv => hv⟩
    · show (colsAt cs i)[j]? = _
      rw [h i hi]; exact List.getElem?_eq_getElem hj'
    · exact List.getElem?_eq_getElem hj'

theorem le2_row {v v' : AV} {B B' : Blk} (hv : ∀ ρ x, v.rel ρ x → v'.rel ρ x) (hb : BlLe B B') : le2 (v, [some B]) (v', [some B']) := ⟨⟨hb, trivial⟩, hv⟩

theorem MemOK.le {ρ : Rho} {w : World} {m m' : Mem} (h : MemOK ρ w m) (hl : MemLe m m') : MemOK ρ w m' := by
  have hlen := hl.length
  refine ⟨fun id hid => h.dom id (by omega), fun id B hB => ?_⟩
  obtain ⟨C, hC, hle⟩ := hl.get id B hB
  obtain ⟨b, o, h1, h2⟩ := h.blk id C hC
  exact ⟨b, o, h1, hle _ _ _ _ h2⟩

theorem BlLe.cols_le {n m : Nat} {cs : List Col} (h : n ≤ m) : BlLe (.cols m cs) (.cols n cs) := by
  intro ρ w b o hb
  obtain ⟨c, e, fz, k1, k2, _⟩ := hb
  exact ⟨c, e, fz, k1, fun i hi j hj => k2 i (Nat.lt_of_lt_of_le hi h) j hj, trivial⟩

/-- A row that has grown. -/
theorem BlLe.grown {n m : Nat} {cs : List Col} {k : Nat} {t : TypeId} (h : n ≤ m) : BlLe (.grow m cs k t) (.cols n cs) := by
  intro ρ w b o hb
  obtain ⟨c, e, fz, k1, k2, _⟩ := hb
  exact ⟨c, e, fz, k1, fun i hi j hj => k2 i (Nat.lt_of_lt_of_le hi h) j hj, trivial⟩
theorem AvLe.grown {id sz len k : Nat} (ρ : Rho) (v : Value) (h : (AV.one (.so id sz len k)).rel ρ v) : (AV.one (.su id sz 0 len false)).rel ρ v := by
  obtain ⟨b, cap, h1, _, h3, rfl⟩ := h
  exact ⟨_, cap, rfl, h3, fun _ => ⟨b, 0, h1, by simp⟩⟩

/-- The same contract in other words, for arguments and memory that are known otherwise. -/
def Ctr.re {P : Program} (C : Ctr P) (run : List AV → Mem → T Res)
    (h : ∀ args mem, Fine args → ∀ Φ : Res → Prop, (∀ r s, le2 r s → Φ s → Φ r) → (run args mem).holds Φ → ∃ args' mem', (∀ ρ vals, RelA ρ args vals → RelA ρ args' vals) ∧ MemLe mem mem' ∧ (C.run args' mem').holds Φ) : Ctr P where
  f := C.f
  run := run
  ok := fun args mem ρ w vals hm ha o a K Q hh => by
    obtain ⟨args', mem', h1, h2, h3⟩ := h args mem ⟨ρ, _, ha⟩ (fun r => ∀ ρ' w' v, New ρ ρ' w w' mem.length r.2 → r.1.rel ρ' v → K (a.put o.dst v) w') (fun r s hrs hs ρ' w' v hn hv => hs ρ' w' v (hn.le2 hrs.1) (hrs.2 ρ' v hv)) hh
    rw [h2.length] at h3
    exact C.ok args' mem' ρ w vals (hm.le h2) (h1 _ _ ha) o a K Q h3

/-- The length of the first argument is known. -/
theorem known_first {id sz i n cap : Nat} {kn : Bool} {r : List AV} (ρ : Rho) (vals : List Value) (h : RelA ρ (.one (.sl id sz i n cap kn) :: r) vals) : RelA ρ (.one (.sl id sz i n cap true) :: r) vals := by
  cases vals with
  | nil => exact h.elim
  | cons v vs => exact ⟨h.1, h.2⟩

/-- Of two contracts the one that fits. -/
def Ctr.pick {P : Program} (C D : Ctr P) (hf : D.f = C.f) (p : List AV → Bool) : Ctr P where
  f := C.f
  run := fun args mem => match p args with
    | true => D.run args mem
    | false => C.run args mem
  ok := by
    intro args mem ρ w vals hm ha o a K Q h
    cases hp : p args with
    | true =>
      simp only [hp] at h
      rw [← hf]
      exact D.ok args mem ρ w vals hm ha o a K Q h
    | false =>
      simp only [hp] at h
      exact C.ok args mem ρ w vals hm ha o a K Q h

/-- The first argument is a slice without cells. -/
def nilArg : List AV → Bool
  | .one (.val _) :: _ => true
  | _ => false

/-- A contract out of a function's body, by the names of the memory that it is given. -/
def mkC0 (P : Program) (hmix : P.follows .mixedOrders = true) (env : List (Ctr P)) (f : FuncId) (fn : Func) (root : Code) (hf : P.funcs[f]? = some fn) (hname : (fn.name == "runtime.NumGoroutine") = false)
    (hb : fn.body = some root) (ss : List (Sum P root)) : Ctr P :=
  mkCtr P env (fun m0 => evDraw P env m0) (fun m0 => evDraw_ok hmix env m0) f fn root hf hname hb ss

/-- The length of the first argument is known. -/
theorem known_su {id sz i n : Nat} {kn : Bool} {r : List AV} (ρ : Rho) (vals : List Value) (h : RelA ρ (.one (.su id sz i n kn) :: r) vals) : RelA ρ (.one (.su id sz i n true) :: r) vals := by
  cases vals with
  | nil => exact h.elim
  | cons v vs => exact ⟨h.1, h.2⟩

theorem unknown_su {id sz i n : Nat} {kn : Bool} {r : List AV} (ρ : Rho) (vals : List Value) (h : RelA ρ (.one (.su id sz i n kn) :: r) vals) : RelA ρ (.one (.su id sz i n false) :: r) vals := by
  cases vals with
  | nil => exact h.elim
  | cons v vs => exact ⟨h.1, h.2⟩

/-- Slices that are read, whatever their capacity. -/
def suA : AV → AV
  | .one (.sl id sz i len _ kn) => .one (.su id sz i len kn)
  | .one (.so id sz len _) => .one (.su id sz 0 len false)
  | a => a
/-- A row that has grown is read. -/
def suM : Mem → Mem
  | [] => []
  | none :: m => none :: suM m
  | some (.grow n cs _ _) :: m => some (.cols n cs) :: suM m
  | some B :: m => some B :: suM m
theorem suM_le : ∀ (m : Mem), MemLe m (suM m)
  | [] => trivial
  | none :: m => suM_le m
  | some (.grow n cs k e) :: m => ⟨BlLe.grown (Nat.le_refl n), suM_le m⟩
  | some (.box l) :: m => ⟨BlLe.refl _, suM_le m⟩
  | some (.row n sz g) :: m => ⟨BlLe.refl _, suM_le m⟩
  | some (.cols n cs) :: m => ⟨BlLe.refl _, suM_le m⟩
def suN {α : Type} (a : AV) (t : T α) : T α := match a with
  | .one (.sl _ _ _ len cap _) => .need (decide (len ≤ cap)) t
  | _ => t
def suAs : List AV → List AV
  | [] => []
  | a :: l => suA a :: suAs l
def suNs {α : Type} : List AV → T α → T α
  | [], t => t
  | a :: l, t => suN a (suNs l t)

theorem suN_ok {α : Type} {Φ : α → Prop} {a : AV} {t : T α} (h : (suN a t).holds Φ) : t.holds Φ ∧ ∀ ρ v, a.rel ρ v → (suA a).rel ρ v := by
  unfold suN at h
  split at h
  · rename_i id sz i len cap kn
    refine ⟨h.2, fun ρ v hv => ?_⟩
    obtain ⟨b, o, h1, rfl⟩ := hv
    exact ⟨_, _, rfl, of_decide_eq_true h.1, fun _ => ⟨b, o, h1, rfl⟩⟩
  · rename_i hne
    refine ⟨h, fun ρ v hv => ?_⟩
    unfold suA
    split
    · exact absurd rfl (hne _ _ _ _ _ _)
    · exact AvLe.grown ρ v hv
    · exact hv

theorem suNs_ok {α : Type} {Φ : α → Prop} : ∀ {l : List AV} {t : T α}, (suNs l t).holds Φ → t.holds Φ ∧ ∀ ρ vals, RelA ρ l vals → RelA ρ (suAs l) vals
  | [], _, h => ⟨h, fun _ _ hv => hv⟩
  | a :: l, t, h => by
    obtain ⟨h1, h2⟩ := suN_ok (show (suN a (suNs l t)).holds Φ from h)
    obtain ⟨h3, h4⟩ := suNs_ok h1
    refine ⟨h3, fun ρ vals hv => ?_⟩
    cases vals with
    | nil => exact hv.elim
    | cons v vs => exact ⟨h2 ρ v hv.1, h4 ρ vs hv.2⟩

/-- The contract for slices of whatever capacity. -/
def Ctr.su {P : Program} (C : Ctr P) : Ctr P where
  f := C.f
  run := fun args mem => suNs args (C.run (suAs args) (suM mem))
  ok := fun args mem ρ w vals hm ha o a K Q hh => by
    obtain ⟨h1, h2⟩ := suNs_ok hh
    have hle := suM_le mem
    rw [hle.length] at h1
    exact C.ok (suAs args) (suM mem) ρ w vals (hm.le hle) (h2 _ _ ha) o a K Q h1

def PsLe : List Pt → List Pt → Prop
  | [], [] => True
  | p :: l, q :: m => (∀ ρ v, p.rel ρ v → q.rel ρ v) ∧ PsLe l m
  | _, _ => False
theorem PsLe.rel {ρ : Rho} : ∀ {l m : List Pt} {vs : List Value}, PsLe l m → RelP ρ l vs → RelP ρ m vs
  | [], [], [], _, h => h
  | _ :: _, _ :: _, _ :: _, ⟨h1, h2⟩, ⟨k1, k2⟩ => ⟨h1 _ _ k1, PsLe.rel h2 k2⟩
theorem tup_le {l m : List Pt} (h : PsLe l m) (ρ : Rho) (v : Value) (hv : (AV.tup l).rel ρ v) : (AV.tup m).rel ρ v := by
  obtain ⟨vs, h1, h2⟩ := hv
  exact ⟨vs, h1, h.rel h2⟩

/-- The same contract in other words: out of one of two. -/
def Ctr.two {P : Program} (C D : Ctr P) (hf : D.f = C.f) (run : List AV → Mem → T Res)
    (h : ∀ args mem, Fine args → ∀ Φ : Res → Prop, (∀ r s, le2 r s → Φ s → Φ r) → (run args mem).holds Φ → ∃ args' mem', (∀ ρ vals, RelA ρ args vals → RelA ρ args' vals) ∧ MemLe mem mem' ∧ ((C.run args' mem').holds Φ ∨ (D.run args' mem').holds Φ)) : Ctr P where
  f := C.f
  run := run
  ok := fun args mem ρ w vals hm ha o a K Q hh => by
    obtain ⟨args', mem', h1, h2, h3⟩ := h args mem ⟨ρ, _, ha⟩ (fun r => ∀ ρ' w' v, New ρ ρ' w w' mem.length r.2 → r.1.rel ρ' v → K (a.put o.dst v) w') (fun r s hrs hs ρ' w' v hn hv => hs ρ' w' v (hn.le2 hrs.1) (hrs.2 ρ' v hv)) hh
    rw [h2.length] at h3
    rcases h3 with h3 | h3
    · exact C.ok args' mem' ρ w vals (hm.le h2) (h1 _ _ ha) o a K Q h3
    · rw [← hf]
      exact D.ok args' mem' ρ w vals (hm.le h2) (h1 _ _ ha) o a K Q h3

end Go.Proofs.Ytdmcpgbnomhahaa
