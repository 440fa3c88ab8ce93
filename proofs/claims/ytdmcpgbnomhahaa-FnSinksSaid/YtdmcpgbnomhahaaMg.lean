/-
  Two ends of a test are made one: values by 'cond'. No conditions.
-/
import Derived.Test.YtdmcpgbnomhahaaCt
namespace Go.Proofs.Ytdmcpgbnomhahaa
set_option linter.unusedVariables false
set_option linter.unusedSimpArgs false
open Go.RowKit

def mgB (c : Bool) : Bool → Bool → SV
  | true, true => .tt true
  | false, false => .tt false
  | true, false => .bo c
  | false, true => .bo (!c)

def mgS (c : Bool) : SV → SV → Option SV
  | .fl k x, .fl k' y => if k = k' then some (.fl k (cond c x y)) else none
  | .int k m, .int k' n => if k = k' then (if m = n then some (.int k m) else some (.num k (cond c m n))) else none
  | .num k m, .num k' n => if k = k' then some (.num k (cond c m n)) else none
  | .int k m, .num k' n => if k = k' then some (.num k (cond c m n)) else none
  | .num k m, .int k' n => if k = k' then some (.num k (cond c m n)) else none
  | .tt a, .tt b => some (mgB c a b)
  | .tt a, .bo b => some (.bo (cond c a b))
  | .bo a, .tt b => some (.bo (cond c a b))
  | .bo a, .bo b => some (.bo (cond c a b))
  | .bt k x, .bt k' y => if k = k' then some (.bt k (cond c x y)) else none
  | .str s, .str t => some (.str (cond c s t))
  | _, _ => none

theorem mgS_ok {c : Bool} {s t u : SV} (h : mgS c s t = some u) (ρ : Rho) (v : Value) : (c = true → s.rel ρ v → u.rel ρ v) ∧ (c = false → t.rel ρ v → u.rel ρ v) := by
  unfold mgS at h
  split at h <;> try (first | (cases h; done) | (split at h <;> first | (cases h; done) | skip))
  all_goals (first
    | (rename_i hk; subst hk; cases h; exact ⟨fun e hv => by subst e; exact hv, fun e hv => by subst e; exact hv⟩)
    | (cases h; exact ⟨fun e hv => by subst e; exact hv, fun e hv => by subst e; exact hv⟩)
    | skip)
  · rename_i hk
    subst hk
    split at h
    · rename_i hm; subst hm; cases h; exact ⟨fun _ hv => hv, fun _ hv => hv⟩
    · cases h; exact ⟨fun e hv => by subst e; exact hv, fun e hv => by subst e; exact hv⟩
  · rename_i a b
    cases h
    cases a <;> cases b <;> exact ⟨fun e hv => by subst e; exact hv, fun e hv => by subst e; exact hv⟩

def mgL (c : Bool) : List SV → List SV → Option (List SV)
  | [], [] => some []
  | s :: l, t :: m => match mgS c s t, mgL c l m with
    | some u, some r => some (u :: r)
    | _, _ => none
  | _, _ => none

theorem mgL_ok {c : Bool} (ρ : Rho) : ∀ {l m r : List SV}, mgL c l m = some r → ∀ vs : List Value, (c = true → RelL ρ l vs → RelL ρ r vs) ∧ (c = false → RelL ρ m vs → RelL ρ r vs)
  | [], [], r, h, vs => by cases h; exact ⟨fun _ h => h, fun _ h => h⟩
  | s :: l, t :: m, r, h, vs => by
    unfold mgL at h
    split at h
    · rename_i u r' h1 h2
      cases h
      cases vs with
      | nil => exact ⟨fun _ h => h.elim, fun _ h => h.elim⟩
      | cons v vs => exact ⟨fun e ⟨a, b⟩ => ⟨(mgS_ok h1 ρ v).1 e a, (mgL_ok ρ h2 vs).1 e b⟩, fun e ⟨a, b⟩ => ⟨(mgS_ok h1 ρ v).2 e a, (mgL_ok ρ h2 vs).2 e b⟩⟩
    · cases h

def mgP (c : Bool) : Pt → Pt → Option Pt
  | .one s, .one t => (mgS c s t).map .one
  | .agg l, .agg m => (mgL c l m).map .agg
  | _, _ => none

theorem mgP_ok {c : Bool} {s t u : Pt} (h : mgP c s t = some u) (ρ : Rho) (v : Value) : (c = true → s.rel ρ v → u.rel ρ v) ∧ (c = false → t.rel ρ v → u.rel ρ v) := by
  unfold mgP at h
  split at h
  · cases hm : mgS c _ _ with
    | none => rw [hm] at h; cases h
    | some x => rw [hm] at h; cases h; exact mgS_ok hm ρ v
  · cases hm : mgL c _ _ with
    | none => rw [hm] at h; cases h
    | some x =>
      rw [hm] at h; cases h
      exact ⟨fun e ⟨cs, a, b⟩ => ⟨cs, a, (mgL_ok ρ hm cs.toList).1 e b⟩, fun e ⟨cs, a, b⟩ => ⟨cs, a, (mgL_ok ρ hm cs.toList).2 e b⟩⟩
  · cases h

def mgPs (c : Bool) : List Pt → List Pt → Option (List Pt)
  | [], [] => some []
  | s :: l, t :: m => match mgP c s t, mgPs c l m with
    | some u, some r => some (u :: r)
    | _, _ => none
  | _, _ => none

theorem mgPs_ok {c : Bool} (ρ : Rho) : ∀ {l m r : List Pt}, mgPs c l m = some r → ∀ vs : List Value, (c = true → RelP ρ l vs → RelP ρ r vs) ∧ (c = false → RelP ρ m vs → RelP ρ r vs)
  | [], [], r, h, vs => by cases h; exact ⟨fun _ h => h, fun _ h => h⟩
  | s :: l, t :: m, r, h, vs => by
    unfold mgPs at h
    split at h
    · rename_i u r' h1 h2
      cases h
      cases vs with
      | nil => exact ⟨fun _ h => h.elim, fun _ h => h.elim⟩
      | cons v vs => exact ⟨fun e ⟨a, b⟩ => ⟨(mgP_ok h1 ρ v).1 e a, (mgPs_ok ρ h2 vs).1 e b⟩, fun e ⟨a, b⟩ => ⟨(mgP_ok h1 ρ v).2 e a, (mgPs_ok ρ h2 vs).2 e b⟩⟩
    · cases h

def mgA (c : Bool) : AV → AV → Option AV
  | .one s, .one t => (mgS c s t).map .one
  | .agg l, .agg m => (mgL c l m).map .agg
  | .tup l, .tup m => (mgPs c l m).map .tup
  | _, _ => none

theorem mgA_ok {c : Bool} {s t u : AV} (h : mgA c s t = some u) (ρ : Rho) (v : Value) : (c = true → s.rel ρ v → u.rel ρ v) ∧ (c = false → t.rel ρ v → u.rel ρ v) := by
  unfold mgA at h
  split at h
  · cases hm : mgS c _ _ with
    | none => rw [hm] at h; cases h
    | some x => rw [hm] at h; cases h; exact mgS_ok hm ρ v
  · cases hm : mgL c _ _ with
    | none => rw [hm] at h; cases h
    | some x =>
      rw [hm] at h; cases h
      exact ⟨fun e ⟨cs, a, b⟩ => ⟨cs, a, (mgL_ok ρ hm cs.toList).1 e b⟩, fun e ⟨cs, a, b⟩ => ⟨cs, a, (mgL_ok ρ hm cs.toList).2 e b⟩⟩
  · cases hm : mgPs c _ _ with
    | none => rw [hm] at h; cases h
    | some x =>
      rw [hm] at h; cases h
      exact ⟨fun e ⟨cs, a, b⟩ => ⟨cs, a, (mgPs_ok ρ hm cs.toList).1 e b⟩, fun e ⟨cs, a, b⟩ => ⟨cs, a, (mgPs_ok ρ hm cs.toList).2 e b⟩⟩
  · cases h

/-! ### Trees -/

def T.pre {α : Type} : T α → List Bool
  | .need c t => c :: t.pre
  | _ => []
def T.body {α : Type} : T α → T α
  | .need _ t => t.body
  | t => t
def T.needs {α : Type} : List Bool → T α → T α
  | [], t => t
  | c :: l, t => .need c (T.needs l t)

theorem T.pre_body {α : Type} {Φ : α → Prop} : ∀ {t : T α}, (∀ b ∈ t.pre, b = true) → t.body.holds Φ → t.holds Φ
  | .leaf _, _, h => h
  | .ite _ _ _, _, h => h
  | .fail, _, h => h
  | .all _, _, h => h
  | .need c t, hp, h => ⟨hp c (List.Mem.head _), T.pre_body (fun b hb => hp b (List.Mem.tail _ hb)) h⟩

theorem T.needs_holds {α : Type} {Φ : α → Prop} : ∀ {l : List Bool} {t : T α}, (T.needs l t).holds Φ → (∀ b ∈ l, b = true) ∧ t.holds Φ
  | [], _, h => ⟨fun _ hb => (nomatch hb), h⟩
  | c :: l, t, ⟨h1, h2⟩ => by
    obtain ⟨a, b⟩ := T.needs_holds h2
    exact ⟨fun x hx => (List.mem_cons.1 hx).elim (fun e => e ▸ h1) (a x), b⟩

def mgT (c : Bool) (t e : T Res) : T Res :=
  match t, e with
  | .leaf (v, []), .leaf (u, []) => match mgA c v u with
    | some x => .leaf (x, [])
    | none => .ite c t e
  | _, _ => .ite c t e

theorem mgT_weak (c : Bool) (t e : T Res) : Weak (mgT c t e) (.ite c t e) := by
  unfold mgT
  split
  · rename_i v u
    split
    · rename_i x hx
      constructor
      intro Φ hΦ h
      exact ⟨fun hc => hΦ (v, []) (x, []) ⟨MemLe.refl _, fun ρ w hw => (mgA_ok hx ρ w).1 hc hw⟩ h, fun hc => hΦ (u, []) (x, []) ⟨MemLe.refl _, fun ρ w hw => (mgA_ok hx ρ w).2 hc hw⟩ h⟩
    · exact Weak.refl _
  · exact Weak.refl _

def mapB (c : Bool) (d : Bool) : List Bool → List Bool
  | [] => []
  | a :: l => cond c a d :: mapB c d l
def mapE (c : Bool) (d : Bool) : List Bool → List Bool
  | [] => []
  | a :: l => cond c d a :: mapE c d l

theorem mapB_all {c : Bool} (hc : c = true) : ∀ {l : List Bool}, (∀ b ∈ mapB c true l, b = true) → ∀ b ∈ l, b = true
  | [], _, b, hb => by cases hb
  | a :: l, h, b, hb => by
    subst hc
    cases hb with
    | head => exact h _ (List.Mem.head _)
    | tail _ hb => exact mapB_all rfl (fun x hx => h x (List.Mem.tail _ hx)) b hb
theorem mapE_all {c : Bool} (hc : c = false) : ∀ {l : List Bool}, (∀ b ∈ mapE c true l, b = true) → ∀ b ∈ l, b = true
  | [], _, b, hb => by cases hb
  | a :: l, h, b, hb => by
    subst hc
    cases hb with
    | head => exact h _ (List.Mem.head _)
    | tail _ hb => exact mapE_all rfl (fun x hx => h x (List.Mem.tail _ hx)) b hb

def merge : T Res → T Res
  | .leaf a => .leaf a
  | .ite c t e =>
    let t' := merge t
    let e' := merge e
    T.needs (mapB c true t'.pre) (T.needs (mapE c true e'.pre) (mgT c t'.body e'.body))
  | .need c t => .need c (merge t)
  | .fail => .fail
  | .all f => .all fun x => merge (f x)

theorem merge_weak : ∀ (t : T Res), Weak (merge t) t
  | .leaf _ => Weak.refl _
  | .fail => Weak.refl _
  | .need c t => ⟨fun Φ hΦ h => ⟨h.1, (merge_weak t).out Φ hΦ h.2⟩⟩
  | .all f => ⟨fun Φ hΦ h x => (merge_weak (f x)).out Φ hΦ (h x)⟩
  | .ite c t e => by
    constructor
    intro Φ hΦ h
    have h : (T.needs (mapB c true (merge t).pre) (T.needs (mapE c true (merge e).pre) (mgT c (merge t).body (merge e).body))).holds Φ := h
    obtain ⟨h1, h2⟩ := T.needs_holds h
    obtain ⟨h3, h4⟩ := T.needs_holds h2
    have h5 := (mgT_weak _ _ _).out Φ hΦ h4
    exact ⟨fun hc => (merge_weak t).out Φ hΦ (T.pre_body (mapB_all hc h1) (h5.1 hc)), fun hc => (merge_weak e).out Φ hΦ (T.pre_body (mapE_all hc h3) (h5.2 hc))⟩

/-- The contract whose ends are made one. -/
def Ctr.mg {P : Program} (C : Ctr P) : Ctr P := C.of (fun args mem => merge (C.run args mem)) fun args mem => merge_weak _

/-- The one end of a tree. -/
def leafOf : T Res → AV
  | .leaf (v, _) => v
  | _ => .und

/-- Conditions that are closed are reckoned. -/
def tidy {α : Type} : T α → T α
  | .leaf a => .leaf a
  | .ite c t e => .ite c (tidy t) (tidy e)
  | .need c t => cond c (tidy t) .fail
  | .fail => .fail
  | .all f => .all fun x => tidy (f x)

theorem tidy_holds {α : Type} {Φ : α → Prop} : ∀ {t : T α}, (tidy t).holds Φ → t.holds Φ
  | .leaf _, h => h
  | .ite _ _ _, h => ⟨fun e => tidy_holds (h.1 e), fun e => tidy_holds (h.2 e)⟩
  | .need c t, h => by
    have h : (cond c (tidy t) .fail).holds Φ := h
    cases c with
    | true => exact ⟨rfl, tidy_holds h⟩
    | false => exact h.elim
  | .fail, h => h
  | .all _, h => fun x => tidy_holds (h x)

/-- The contract all of whose conditions are closed. -/
def Ctr.cl {P : Program} (C : Ctr P) : Ctr P := C.of (fun args mem => tidy (C.run args mem)) fun args mem => ⟨fun Φ _ h => tidy_holds h⟩

def boolIn : T Res → Bool
  | .leaf (.one (.bo b), _) => b
  | .leaf (.one (.tt b), _) => b
  | _ => false

/-! ### Known numbers as unknown ones -/

def SV.nrm : SV → SV
  | .int k n => .num k n
  | .tt b => .bo b
  | s => s
def Pt.nrm : Pt → Pt
  | .one s => .one s.nrm
  | .agg l => .agg l
def nrmP : List Pt → List Pt
  | [] => []
  | p :: l => p.nrm :: nrmP l
def AV.nrm : AV → AV
  | .one s => .one s.nrm
  | .tup l => .tup (nrmP l)
  | a => a

theorem SV.nrm_rel {ρ : Rho} {s : SV} {v : Value} (h : s.rel ρ v) : s.nrm.rel ρ v := by cases s <;> exact h
theorem Pt.nrm_rel {ρ : Rho} {p : Pt} {v : Value} (h : p.rel ρ v) : p.nrm.rel ρ v := by
  cases p with
  | one s => exact SV.nrm_rel h
  | agg l => exact h
theorem nrmP_rel {ρ : Rho} : ∀ {l : List Pt} {vs : List Value}, RelP ρ l vs → RelP ρ (nrmP l) vs
  | [], [], h => h
  | _ :: _, _ :: _, ⟨h1, h2⟩ => ⟨Pt.nrm_rel h1, nrmP_rel h2⟩
theorem AV.nrm_rel {ρ : Rho} {a : AV} {v : Value} (h : a.rel ρ v) : a.nrm.rel ρ v := by
  cases a with
  | one s => exact SV.nrm_rel h
  | tup l => obtain ⟨vs, h1, h2⟩ := h; exact ⟨vs, h1, nrmP_rel h2⟩
  | _ => exact h

def nrmT : T Res → T Res
  | .leaf (v, m) => .leaf (v.nrm, m)
  | .ite c t e => .ite c (nrmT t) (nrmT e)
  | .need c t => .need c (nrmT t)
  | .fail => .fail
  | .all f => .all fun x => nrmT (f x)

theorem nrmT_weak : ∀ (t : T Res), Weak (nrmT t) t
  | .leaf (v, m) => ⟨fun Φ hΦ h => hΦ (v, m) (v.nrm, m) ⟨MemLe.refl _, fun _ _ hv => AV.nrm_rel hv⟩ h⟩
  | .ite c t e => ⟨fun Φ hΦ h => ⟨fun hc => (nrmT_weak t).out Φ hΦ (h.1 hc), fun hc => (nrmT_weak e).out Φ hΦ (h.2 hc)⟩⟩
  | .need c t => ⟨fun Φ hΦ h => ⟨h.1, (nrmT_weak t).out Φ hΦ h.2⟩⟩
  | .all f => ⟨fun Φ hΦ h x => (nrmT_weak (f x)).out Φ hΦ (h x)⟩
  | .fail => Weak.refl _

def Ctr.nrm {P : Program} (C : Ctr P) : Ctr P := C.of (fun args mem => nrmT (C.run args mem)) fun args mem => nrmT_weak _

end Go.Proofs.Ytdmcpgbnomhahaa
