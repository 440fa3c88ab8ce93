/-
  The walk that makes the states behind a test one. No conditions.
-/
import Derived.Test.YtdkhpadbpeapjaaLp
namespace Go.Proofs.Ytdkhpadbpeapjaa
set_option linter.unusedVariables false
set_option linter.unusedSimpArgs false
open Go.RowKit

/-! ### Two values, with addresses -/

/-- Values of which none is lost; where an end has nothing there, nothing is known. -/
def mgV (bx : Nat → Bool) (c : Bool) (a b : AV) : Option AV :=
  match a, b with
  | .any, _ => some .any
  | _, .any => some .any
  | .und, .und => some .und
  | .und, _ => some .any
  | _, .und => some .any
  | .one (.ptr id sz i j), .one (.ptr id' sz' i' j') => if bx id = true then (if id = id' then (if sz = sz' then (if i = i' then (if j = j' then some (.one (.ptr id sz i j)) else none) else none) else none) else none) else some .any
  | .one (.sl id sz i len cap kn), .one (.sl id' sz' i' len' cap' kn') =>
    if id = id' then (if sz = sz' then (if i = i' then (if len = len' then (if cap = cap' then some (.one (.sl id sz i len cap (kn && kn'))) else none) else none) else none) else none) else none
  | .one (.fn f []), .one (.fn g []) => if f = g then some (.one (.fn f [])) else none
  | .one (.val _), .one (.val _) => none
  | a, b => mgA c a b

theorem mgV_ok {bx : Nat → Bool} {c : Bool} {a b u : AV} (h : mgV bx c a b = some u) (ρ : Rho) (v : Value) : (c = true → a.rel ρ v → u.rel ρ v) ∧ (c = false → b.rel ρ v → u.rel ρ v) := by
  unfold mgV at h
  split at h
  · cases h; exact ⟨fun _ _ => trivial, fun _ _ => trivial⟩
  · cases h; exact ⟨fun _ _ => trivial, fun _ _ => trivial⟩
  · cases h; exact ⟨fun _ h => h, fun _ h => h⟩
  · cases h; exact ⟨fun _ _ => trivial, fun _ _ => trivial⟩
  · cases h; exact ⟨fun _ _ => trivial, fun _ _ => trivial⟩
  · split at h
    · split at h <;> try (cases h; done)
      split at h <;> try (cases h; done)
      split at h <;> try (cases h; done)
      split at h <;> try (cases h; done)
      rename_i h1 h2 h3 h4
      subst h1; subst h2; subst h3; subst h4
      cases h; exact ⟨fun _ h => h, fun _ h => h⟩
    · cases h; exact ⟨fun _ _ => trivial, fun _ _ => trivial⟩
  · split at h <;> try (cases h; done)
    split at h <;> try (cases h; done)
    split at h <;> try (cases h; done)
    split at h <;> try (cases h; done)
    split at h <;> try (cases h; done)
    rename_i h1 h2 h3 h4 h5
    subst h1; subst h2; subst h3; subst h4; subst h5
    cases h; exact ⟨fun _ h => h, fun _ h => h⟩
  · split at h <;> try (cases h; done)
    rename_i h1
    subst h1
    cases h; exact ⟨fun _ h => h, fun _ h => h⟩
  · cases h
  · exact mgA_ok h ρ v

def mgVs (bx : Nat → Bool) (c : Bool) : List AV → List AV → Option (List AV)
  | [], [] => some []
  | a :: l, b :: m => match mgV bx c a b with
    | some x => match mgVs bx c l m with
      | some r => some (x :: r)
      | none => none
    | none => none
  | _, _ => none

theorem mgVs_ok {bx : Nat → Bool} {c : Bool} : ∀ {l m r : List AV}, mgVs bx c l m = some r → (c = true → SlLe l r) ∧ (c = false → SlLe m r)
  | [], [], r, h => by cases h; exact ⟨fun _ => trivial, fun _ => trivial⟩
  | a :: l, b :: m, r, h => by
    unfold mgVs at h
    split at h
    · rename_i x hx
      split at h
      · rename_i r' hr
        cases h
        exact ⟨fun e => ⟨fun ρ v => (mgV_ok hx ρ v).1 e, (mgVs_ok hr).1 e⟩, fun e => ⟨fun ρ v => (mgV_ok hx ρ v).2 e, (mgVs_ok hr).2 e⟩⟩
      · cases h
    · cases h

/-! ### Two blocks -/

/-- Two cells, with addresses. -/
def mgC (bx : Nat → Bool) (c : Bool) (a b : SV) : Option SV :=
  match mgV bx c (.one a) (.one b) with
  | some (.one s) => some s
  | _ => none

theorem mgC_ok {bx : Nat → Bool} {c : Bool} {a b u : SV} (h : mgC bx c a b = some u) (ρ : Rho) (v : Value) : (c = true → a.rel ρ v → u.rel ρ v) ∧ (c = false → b.rel ρ v → u.rel ρ v) := by
  unfold mgC at h
  split at h
  · rename_i s hs; cases h; exact mgV_ok hs ρ v
  · cases h

def mgCs (bx : Nat → Bool) (c : Bool) : List SV → List SV → Option (List SV)
  | [], [] => some []
  | a :: l, b :: m => match mgC bx c a b with
    | some x => match mgCs bx c l m with
      | some r => some (x :: r)
      | none => none
    | none => none
  | _, _ => none

theorem mgCs_ok {bx : Nat → Bool} {c : Bool} : ∀ {l m r : List SV}, mgCs bx c l m = some r → l.length = r.length ∧ m.length = r.length ∧ ∀ (j : Nat) (u : SV), r[j]? = some u →
    (c = true → ∃ s, l[j]? = some s ∧ ∀ ρ v, s.rel ρ v → u.rel ρ v) ∧ (c = false → ∃ s, m[j]? = some s ∧ ∀ ρ v, s.rel ρ v → u.rel ρ v)
  | [], [], r, h => by cases h; exact ⟨rfl, rfl, fun j u hu => by simp at hu⟩
  | a :: l, b :: m, r, h => by
    unfold mgCs at h
    split at h
    · rename_i x hx
      split at h
      · rename_i r' hr
        cases h
        obtain ⟨k1, k2, k3⟩ := mgCs_ok hr
        refine ⟨by simp [k1], by simp [k2], fun j u hu => ?_⟩
        cases j with
        | zero =>
          simp at hu; subst hu
          exact ⟨fun e => ⟨a, rfl, fun ρ v => (mgC_ok hx ρ v).1 e⟩, fun e => ⟨b, rfl, fun ρ v => (mgC_ok hx ρ v).2 e⟩⟩
        | succ j => simpa using k3 j u (by simpa using hu)
      · cases h
    · cases h

def mgBl (bx : Nat → Bool) (c : Bool) : Blk → Blk → Option Blk
  | .box l, .box m => match mgCs bx c l m with
    | some r => some (.box r)
    | none => none
  | _, _ => none

theorem mgBl_ok {bx : Nat → Bool} {c : Bool} {B C D : Blk} (h : mgBl bx c B C = some D) : (c = true → BlLe B D) ∧ (c = false → BlLe C D) := by
  unfold mgBl at h
  split at h
  · rename_i l m
    split at h
    · rename_i r hr
      cases h
      obtain ⟨k1, k2, k3⟩ := mgCs_ok hr
      refine ⟨fun e => BlLe.mk (Nat.le_refl _) k1.symm fun i _ j hj => ?_, fun e => BlLe.mk (Nat.le_refl _) k2.symm fun i _ j hj => ?_⟩
      · have hj : j < r.length := hj
        obtain ⟨s, h1, h2⟩ := (k3 j r[j] (by simp)).1 e
        exact ⟨s, r[j], h1, by simp [Blk.get], h2⟩
      · have hj : j < r.length := hj
        obtain ⟨s, h1, h2⟩ := (k3 j r[j] (by simp)).2 e
        exact ⟨s, r[j], h1, by simp [Blk.get], h2⟩
    · cases h
  · cases h

/-! ### Two states -/

/-- The blocks, the longest part that both have. -/
def mgMem (bx : Nat → Bool) (c : Bool) : Mem → Mem → Option Mem
  | [], [] => some []
  | none :: l, none :: m => match mgMem bx c l m with
    | some r => some (none :: r)
    | none => none
  | some B :: l, some C :: m => match mgBl bx c B C with
    | some D => match mgMem bx c l m with
      | some r => some (some D :: r)
      | none => none
    | none => none
  | _, _ => none

theorem mgMem_ok {bx : Nat → Bool} {c : Bool} : ∀ {l m r : Mem}, mgMem bx c l m = some r → (c = true → MemLe l r) ∧ (c = false → MemLe m r)
  | [], [], r, h => by cases h; exact ⟨fun _ => trivial, fun _ => trivial⟩
  | none :: l, none :: m, r, h => by
    unfold mgMem at h
    split at h
    · rename_i r' hr
      cases h
      have k := mgMem_ok (l := l) (m := m) hr
      exact ⟨fun e => k.1 e, fun e => k.2 e⟩
    · cases h
  | some B :: l, some C :: m, r, h => by
    unfold mgMem at h
    split at h
    · rename_i D hD
      split at h
      · rename_i r' hr
        cases h
        exact ⟨fun e => ⟨(mgBl_ok hD).1 e, (mgMem_ok hr).1 e⟩, fun e => ⟨(mgBl_ok hD).2 e, (mgMem_ok hr).2 e⟩⟩
      · cases h
    · cases h
  | none :: _, some _ :: _, r, h => by cases h
  | some _ :: _, none :: _, r, h => by cases h
  | [], _ :: _, r, h => by cases h
  | _ :: _, [], r, h => by
    rename_i x l
    cases x <;> cases h

def isBx (m : Mem) (id : Nat) : Bool := match m[id]? with
  | some (some (.box _)) => true
  | _ => false

def mgSt (c : Bool) (s t : St) : Option St :=
  match mgVs (isBx s.mem) c s.sl t.sl with
  | some sl => match mgMem (isBx s.mem) c s.mem t.mem with
    | some m => some ⟨sl, m⟩
    | none => none
  | none => none

theorem mgSt_ok {c : Bool} {s t u : St} (h : mgSt c s t = some u) : (c = true → StLe s u) ∧ (c = false → StLe t u) := by
  unfold mgSt at h
  split at h
  · rename_i sl hs
    split at h
    · rename_i m hm
      cases h
      exact ⟨fun e => ⟨(mgVs_ok hs).1 e, (mgMem_ok hm).1 e⟩, fun e => ⟨(mgVs_ok hs).2 e, (mgMem_ok hm).2 e⟩⟩
    · cases h
  · cases h

/-! ### Trees of states -/

structure WkS (t' t : T (EX × St)) : Prop where
  out : ∀ Φ : EX × St → Prop, (∀ e s u, StLe s u → Φ (e, u) → Φ (e, s)) → t'.holds Φ → t.holds Φ

def mgE (c : Bool) (t e : T (EX × St)) : T (EX × St) :=
  match t, e with
  | .leaf (.normal, s), .leaf (.normal, u) => match mgSt c s u with
    | some x => .leaf (.normal, x)
    | none => .ite c t e
  | _, _ => .ite c t e

theorem mgE_ok (c : Bool) (t e : T (EX × St)) : WkS (mgE c t e) (.ite c t e) := by
  unfold mgE
  split
  · rename_i s u
    split
    · rename_i x hx
      constructor
      intro Φ hΦ h
      exact ⟨fun hc => hΦ .normal s x ((mgSt_ok hx).1 hc) h, fun hc => hΦ .normal u x ((mgSt_ok hx).2 hc) h⟩
    · exact ⟨fun _ _ h => h⟩
  · exact ⟨fun _ _ h => h⟩

def mrg : T (EX × St) → T (EX × St)
  | .leaf a => .leaf a
  | .ite c t e =>
    let t' := mrg t
    let e' := mrg e
    T.needs (mapB c true t'.pre) (T.needs (mapE c true e'.pre) (mgE c t'.body e'.body))
  | .need c t => .need c (mrg t)
  | .fail => .fail

theorem mrg_ok : ∀ (t : T (EX × St)), WkS (mrg t) t
  | .leaf _ => ⟨fun _ _ h => h⟩
  | .fail => ⟨fun _ _ h => h⟩
  | .need c t => ⟨fun Φ hΦ h => ⟨h.1, (mrg_ok t).out Φ hΦ h.2⟩⟩
  | .ite c t e => by
    constructor
    intro Φ hΦ h
    have h : (T.needs (mapB c true (mrg t).pre) (T.needs (mapE c true (mrg e).pre) (mgE c (mrg t).body (mrg e).body))).holds Φ := h
    obtain ⟨h1, h2⟩ := T.needs_holds h
    obtain ⟨h3, h4⟩ := T.needs_holds h2
    have h5 := (mgE_ok _ _ _).out Φ hΦ h4
    exact ⟨fun hc => (mrg_ok t).out Φ hΦ (T.pre_body (mapB_all hc h1) (h5.1 hc)), fun hc => (mrg_ok e).out Φ hΦ (T.pre_body (mapE_all hc h3) (h5.2 hc))⟩

/-! ### The walk -/

def evCodeM (P : Program) (env : List (Ctr P)) (root : Code) (ss : List (Sum P root)) (m0 : Nat) (draw : Array Oper → St → T St) : Code → List Nat → St → T (EX × St)
  | .skip, _, st => .leaf (.normal, st)
  | .region _ ops d, _, st => mrg (tidy ((if d then draw ops st else evOps P env m0 ops ops.toList st).bind fun st' => .leaf (.normal, st')))
  | .seq a b, p, st => (evCodeM P env root ss m0 draw a (0 :: p) st).bind fun r =>
    match r.1 with
    | .normal => evCodeM P env root ss m0 draw b (1 :: p) r.2
    | e => .leaf (e, r.2)
  | .cond c t e, p, st =>
    match evOpd st.sl c with
    | .one (.tt true) => evCodeM P env root ss m0 draw t (0 :: p) st
    | .one (.tt false) => evCodeM P env root ss m0 draw e (1 :: p) st
    | .one (.bo c) => mrg (.ite c (evCodeM P env root ss m0 draw t (0 :: p) st) (evCodeM P env root ss m0 draw e (1 :: p) st))
    | _ => .fail
  | .block id body, p, st =>
    match lookS ss p with
    | some s => s.run m0 st
    | none => mrg ((evCodeM P env root ss m0 draw body (0 :: p) st).bind fun r =>
      match r.1 with
      | .exit id' => if id' = id then .leaf (.normal, r.2) else .leaf (.exit id', r.2)
      | e => .leaf (e, r.2))
  | .loop body, p, st => evLoop (evCodeM P env root ss m0 draw body (0 :: p)) 80 st
  | .ret, _, st => .leaf (.ret, st)
  | .exit id, _, st => .leaf (.exit id, st)
  | _, _, _ => .fail

theorem evCodeM_ok {P : Program} {env : List (Ctr P)} {root : Code} {ss : List (Sum P root)} {m0 : Nat} {draw : Array Oper → St → T St} (hd : DrawOK P m0 draw) : ∀ (c : Code) (p : List Nat), subR root p = some c →
    ∀ (B : Nat) (w0 : World) (ρ0 ρ : Rho) (a : Act) (w : World) (st : St), Conc B m0 w0 ρ0 ρ a w st → ∀ Q : Exit → Act → World → Prop,
    ((evCodeM P env root ss m0 draw c p st).holds fun r => ∀ ρ' a' w', Conc B m0 w0 ρ0 ρ' a' w' r.2 → Q r.1.ex a' w') → c.wp P Q a w := by
  intro c
  have weak : ∀ {B : Nat} {w0 : World} {ρ0 : Rho} {Q : Exit → Act → World → Prop} {t : T (EX × St)}, ((mrg t).holds fun r => ∀ ρ' a' w', Conc B m0 w0 ρ0 ρ' a' w' r.2 → Q r.1.ex a' w') → t.holds fun r => ∀ ρ' a' w', Conc B m0 w0 ρ0 ρ' a' w' r.2 → Q r.1.ex a' w' :=
    fun {B w0 ρ0 Q t} h => (mrg_ok t).out _ (fun e s u hle hu ρ' a' w' hc => hu ρ' a' w' (hc.le hle)) h
  induction c with
  | skip => intro p _ B w0 ρ0 ρ a w st hc Q h; exact wp_skip (h ρ a w hc)
  | region id ops d =>
    intro p _ B w0 ρ0 ρ a w st hc Q h
    unfold evCodeM at h
    have h := T.holds_bind (tidy_holds (weak h))
    cases d with
    | true => exact hd B w0 ρ0 ρ a w st hc id ops Q h
    | false => exact wp_region_list (evOps_ok ops.toList hc h)
  | seq x y ihx ihy =>
    intro p hp B w0 ρ0 ρ a w st hc Q h
    unfold evCodeM at h
    refine wp_seq (ihx (0 :: p) (by simp [subR, hp, Code.child]) B w0 ρ0 ρ a w st hc _ (T.holds_mono (T.holds_bind h) fun r hh ρ' a' w' hc' => ?_))
    obtain ⟨e, st'⟩ := r
    cases e with
    | normal => exact ihy (1 :: p) (by simp [subR, hp, Code.child]) B w0 ρ0 ρ' a' w' st' hc' Q hh
    | ret => exact hh ρ' a' w' hc'
    | exit id => exact hh ρ' a' w' hc'
  | cond x t e iht ihe =>
    intro p hp B w0 ρ0 ρ a w st hc Q h
    unfold evCodeM at h
    have hx := evOpd_ok hc.slots x
    split at h
    · rename_i hb; rw [hb] at hx
      exact wp_cond_true hx (iht (0 :: p) (by simp [subR, hp, Code.child]) B w0 ρ0 ρ a w st hc Q h)
    · rename_i hb; rw [hb] at hx
      exact wp_cond_false hx (ihe (1 :: p) (by simp [subR, hp, Code.child]) B w0 ρ0 ρ a w st hc Q h)
    · rename_i q hb; rw [hb] at hx
      have h := weak h
      refine wp_cond_split (t := q) hx (fun hq => ?_) (fun hq => ?_)
      · exact iht (0 :: p) (by simp [subR, hp, Code.child]) B w0 ρ0 ρ a w st hc Q (h.1 hq)
      · exact ihe (1 :: p) (by simp [subR, hp, Code.child]) B w0 ρ0 ρ a w st hc Q (h.2 hq)
    · exact h.elim
  | block id body ih =>
    intro p hp B w0 ρ0 ρ a w st hc Q h
    unfold evCodeM at h
    split at h
    · rename_i s hs
      have hpath := lookS_path hs
      exact s.ok _ (by rw [hpath]; exact hp) B m0 w0 ρ0 ρ a w st hc Q h
    · refine wp_block (ih (0 :: p) (by simp [subR, hp, Code.child]) B w0 ρ0 ρ a w st hc _ (T.holds_mono (T.holds_bind (weak h)) fun r hh ρ' a' w' hc' => ?_))
      obtain ⟨e, st'⟩ := r
      cases e with
      | normal => exact hh ρ' a' w' hc'
      | ret => exact hh ρ' a' w' hc'
      | exit id' =>
        show (if id' = id then Q .normal a' w' else Q (.exit id') a' w')
        simp only [] at hh
        split at hh
        · rename_i he; rw [if_pos he]; exact hh ρ' a' w' hc'
        · rename_i he; rw [if_neg he]; exact hh ρ' a' w' hc'
  | loop body ih =>
    intro p hp B w0 ρ0 ρ a w st hc Q h
    unfold evCodeM at h
    exact wp_loop_rounds 80 (evLoop_ok (fun ρ a w st hc Q h => ih (0 :: p) (by simp [subR, hp, Code.child]) B w0 ρ0 ρ a w st hc Q h) 80 ρ a w st hc h)
  | ret => intro p _ B w0 ρ0 ρ a w st hc Q h; exact wp_ret (h ρ a w hc)
  | exit id => intro p _ B w0 ρ0 ρ a w st hc Q h; exact wp_exit (h ρ a w hc)
  | _ => intros; rename_i h; exact h.elim

/-- A contract out of a function's body, walked with states made one. -/
def mkM (P : Program) (hmix : P.follows .mixedOrders = true) (env : List (Ctr P)) (f : FuncId) (fn : Func) (root : Code) (hf : P.funcs[f]? = some fn) (hname : (fn.name == "runtime.NumGoroutine") = false)
    (hb : fn.body = some root) (ss : List (Sum P root)) : Ctr P :=
  (mkCtrW P (fun m0 st => evCodeM P env root ss m0 (evDraw P env) root [] st) f fn root hf hname hb fun B m0 w0 ρ0 ρ a w st hc Q h => evCodeM_ok (evDraw_ok hmix env m0) root [] rfl B w0 ρ0 ρ a w st hc Q h).mg.own

end Go.Proofs.Ytdkhpadbpeapjaa
