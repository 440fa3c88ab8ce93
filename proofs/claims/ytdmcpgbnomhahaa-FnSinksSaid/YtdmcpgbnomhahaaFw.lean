/-
  The walk with few slots: what a piece of code leaves to the next one is a short list. No conditions.
-/
import Derived.Test.YtdmcpgbnomhahaaAp
import Derived.OrdersHeld
namespace Go.Proofs.Ytdmcpgbnomhahaa
set_option linter.unusedVariables false
set_option linter.unusedSimpArgs false
open Go.RowKit

/-! ### States -/

def findF : Nat → List (Nat × AV) → AV
  | _, [] => .any
  | t, (u, a) :: l => match Nat.beq u t with
    | true => a
    | false => findF t l

structure FSt where
  sl : List (Nat × AV)
  mem : Mem

theorem anySlots (ρ : Rho) (tmps : Array Value) : SlotsOK ρ (List.replicate tmps.size .any) tmps := by
  refine ⟨by simp, fun t => ?_⟩
  by_cases ht : t < tmps.size
  · have : (List.replicate tmps.size AV.any).getD t .und = .any := by simp [List.getD, ht]
    rw [this]; trivial
  · have e1 : (List.replicate tmps.size AV.any).getD t .und = .und := by simp [List.getD, ht]
    have e2 : tmps.getD t undef = undef := by
      rw [Array.getD_eq_getD_getElem?, Array.getElem?_eq_none (Nat.le_of_not_lt ht)]; rfl
    rw [e1, e2]; rfl

structure ConcF (n : Nat) (B : Nat → Prop) (m0 : Nat) (w0 : World) (ρ0 ρ : Rho) (a : Act) (w : World) (f : FSt) : Prop where
  conc : Conc B m0 w0 ρ0 ρ a w ⟨List.replicate a.tmps.size .any, f.mem⟩
  nle : n ≤ a.tmps.size
  slots : ∀ t, (findF t f.sl).rel ρ (a.tmps.getD t undef)

def lkF (f : FSt) : Operand → AV
  | .tmp t => findF t f.sl
  | x => evOpd [] x

theorem evOpd_const {ρ : Rho} {a : Act} {x : Operand} (h : ∀ t, x ≠ .tmp t) : (evOpd [] x).rel ρ (a.eval x) := by
  cases x with
  | tmp t => exact absurd rfl (h t)
  | const v => exact ofVal_ok ρ v
  | global g => trivial
  | func f => exact ⟨#[], rfl, trivial⟩

theorem lkF_ok {n : Nat} {B : Nat → Prop} {m0 : Nat} {w0 : World} {ρ0 ρ : Rho} {a : Act} {w : World} {f : FSt} (h : ConcF n B m0 w0 ρ0 ρ a w f) (x : Operand) : (lkF f x).rel ρ (a.eval x) := by
  cases x with
  | tmp t => exact h.slots t
  | const v => exact ofVal_ok ρ v
  | global g => trivial
  | func g => exact ⟨#[], rfl, trivial⟩

def putF (sl : List (Nat × AV)) (dst : Option Tmp) (r : AV) : List (Nat × AV) := match dst with
  | some d => (d, r) :: sl
  | none => sl

theorem Conc.any {B : Nat → Prop} {m0 : Nat} {w0 : World} {ρ0 ρ : Rho} {a : Act} {w : World} {st : St} (h : Conc B m0 w0 ρ0 ρ a w st) : Conc B m0 w0 ρ0 ρ a w ⟨List.replicate a.tmps.size .any, st.mem⟩ :=
  ⟨h.defers, anySlots ρ _, h.mem, h.own, h.below, h.size, h.keep, h.len⟩

theorem findF_put (sl : List (Nat × AV)) (dst : Option Tmp) (r : AV) (t : Nat) : (dst = some t ∧ findF t (putF sl dst r) = r) ∨ (dst ≠ some t ∧ findF t (putF sl dst r) = findF t sl) := by
  cases dst with
  | none => exact .inr ⟨by simp, rfl⟩
  | some d =>
    cases hb : Nat.beq d t with
    | true =>
      have := Nat.eq_of_beq_eq_true hb
      subst this
      exact .inl ⟨rfl, by simp only [putF, findF, hb]⟩
    | false => exact .inr ⟨by intro e; cases e; simp at hb, by simp only [putF, findF, hb]⟩

theorem ConcF.put {n : Nat} {B : Nat → Prop} {m0 : Nat} {w0 : World} {ρ0 ρ : Rho} {a : Act} {w : World} {f : FSt} (h : ConcF n B m0 w0 ρ0 ρ a w f) (dst : Option Tmp) (hd : ∀ d, dst = some d → d < n) {r : AV} {v : Value} (hr : r.rel ρ v) :
    ConcF n B m0 w0 ρ0 ρ (a.put dst v) w { f with sl := putF f.sl dst r } := by
  refine ⟨(h.conc.put dst (r := .any) (v := v) trivial).any, ?_, fun t => ?_⟩
  · have := h.nle
    cases dst <;> simpa [Act.put] using this
  · rcases findF_put f.sl dst r t with ⟨h1, h2⟩ | ⟨h1, h2⟩
    · show AV.rel ρ (findF t (putF f.sl dst r)) _
      rw [h2]
      have hlt : t < a.tmps.size := Nat.lt_of_lt_of_le (hd t h1) h.nle
      subst h1
      have : (a.put (some t) v).tmps.getD t undef = v := by
        simp only [Act.put, Array.getD_eq_getD_getElem?, Array.getElem?_setIfInBounds, if_pos hlt, if_true]; rfl
      rw [this]; exact hr
    · show AV.rel ρ (findF t (putF f.sl dst r)) _
      rw [h2]
      have : (a.put dst v).tmps.getD t undef = a.tmps.getD t undef := by
        cases dst with
        | none => rfl
        | some d =>
          simp only [Act.put, Array.getD_eq_getD_getElem?, Array.getElem?_setIfInBounds]
          rw [if_neg (fun e => h1 (by rw [e]))]
      rw [this]; exact h.slots t

theorem ConcF.new {n : Nat} {B : Nat → Prop} {m0 : Nat} {w0 : World} {ρ0 ρ ρ' : Rho} {a : Act} {w w' : World} {f : FSt} {new : Mem} (h : ConcF n B m0 w0 ρ0 ρ a w f) (hn : New ρ ρ' w w' f.mem.length new) : ConcF n B m0 w0 ρ0 ρ' a w' { f with mem := f.mem ++ new } :=
  ⟨h.conc.new hn, h.nle, fun t => AV.rel_mono (hn.le h.conc.mem) (h.slots t)⟩

/-! ### Operations -/

def appOf : Op → Option (TypeId × Operand × Operand)
  | .call c => match c.callee with
    | .builtin .append => match c.args.toList, c.argTypes.toList with
      | [s, x], [t, t'] => if t = t' then some (t, s, x) else none
      | _, _ => none
    | _ => none
  | _ => none

theorem appOf_exec {o : Oper} {a : Act} {t : TypeId} {s x : Operand} (h : appOf o.op = some (t, s, x)) : execOp a.eval o = (do let u ← Builtin.append_ #[t, t] o.type #[a.eval s, a.eval x]; pure (.value u)) := by
  unfold appOf at h
  split at h
  · rename_i c ho
    split at h
    · rename_i hcal
      split at h
      · rename_i s' x' t1 t2 hx ht
        split at h
        · rename_i he
          cases h
          subst he
          have hargs : c.args = #[s, x] := by
            have : c.args.toList = [s, x] := hx
            exact Array.ext' (by simpa using this)
          have htys : c.argTypes = #[t, t] := by
            have : c.argTypes.toList = [t, t] := ht
            exact Array.ext' (by simpa using this)
          unfold execOp; rw [ho]
          simp only [resolve, hcal, hargs, htys]
          show Sem.bind _ _ = _
          simp [Sem.bind, invoke, builtin, pure]
        · cases h
      · cases h
    · cases h
  · cases h

def emptyOf : Op → Option TypeId
  | .buildSlice t 0 ps => match ps.toList with
    | [] => some t
    | _ => none
  | _ => none

theorem emptyOf_exec {o : Oper} {a : Act} {t : TypeId} (h : emptyOf o.op = some t) : execOp a.eval o = (do let u ← Instr.buildSlice t 0 #[]; pure (.value u)) := by
  unfold emptyOf at h
  split at h
  · rename_i t' ps ho
    split at h
    · rename_i hp
      cases h
      have : ps = #[] := Array.ext' (by simpa using hp)
      subst this
      have e : execOp a.eval o = (do let u ← Instr.buildSlice t 0 ((#[] : Array (Nat × Operand)).map fun (i, x) => (i, a.eval x)); pure (.value u)) := by unfold execOp; rw [ho] <;> rfl
      rw [e, Array.map_empty]
    · cases h
  · cases h

/-- 'append' of two types: a row and a string. -/
def appSOf : Op → Option (TypeId × TypeId × Operand × Operand)
  | .call c => match c.callee with
    | .builtin .append => match c.args.toList, c.argTypes.toList with
      | [s, x], [t, t'] => some (t, t', s, x)
      | _, _ => none
    | _ => none
  | _ => none

theorem appSOf_exec {o : Oper} {a : Act} {t u : TypeId} {s x : Operand} (h : appSOf o.op = some (t, u, s, x)) : execOp a.eval o = (do let v ← Builtin.append_ #[t, u] o.type #[a.eval s, a.eval x]; pure (.value v)) := by
  unfold appSOf at h
  split at h
  · rename_i c ho
    split at h
    · rename_i hcal
      split at h
      · rename_i s' x' t1 t2 hx ht
        cases h
        have hargs : c.args = #[s, x] := by
          have : c.args.toList = [s, x] := hx
          exact Array.ext' (by simpa using this)
        have htys : c.argTypes = #[t, u] := by
          have : c.argTypes.toList = [t, u] := ht
          exact Array.ext' (by simpa using this)
        unfold execOp; rw [ho]
        simp only [resolve, hcal, hargs, htys]
        show Sem.bind _ _ = _
        simp [Sem.bind, invoke, builtin, pure]
      · cases h
    · cases h
  · cases h

def isStrA : AV → Bool
  | .one (.str _) => true
  | _ => false

/-- A conversion that only marks a row of bytes. -/
def markOf : Op → Option (TypeId × Operand)
  | .convert src dst x => if src = dst then some (src, x) else none
  | _ => none

theorem markOf_exec {o : Oper} {a : Act} {t : TypeId} {x : Operand} (h : markOf o.op = some (t, x)) : execOp a.eval o = (do let v ← convert t t (a.eval x); pure (.value v)) := by
  unfold markOf at h
  split at h
  · rename_i src dst x' ho
    split at h
    · rename_i he
      cases h
      subst he
      unfold execOp; rw [ho] <;> rfl
    · cases h
  · cases h

def isByteRow (P : Program) (t : TypeId) : Bool := match P.underlying t with
  | some (.slice e) => match P.underlying e with
    | some (.int .u8) => true
    | _ => false
  | _ => false

theorem isByteRow_ok {P : Program} {t : TypeId} (h : isByteRow P t = true) : ∃ e, P.underlying t = some (.slice e) ∧ P.underlying e = some (.int .u8) := by
  unfold isByteRow at h
  split at h
  · rename_i e he
    split at h
    · rename_i h2; exact ⟨e, he, h2⟩
    · cases h
  · cases h

def evMark (P : Program) (m0 : Nat) (mem : Mem) (t : TypeId) (x : AV) : Bool :=
  match x with
  | .one (.sl id _ _ _ _ _) => match mem[id]? with
    | some (some (.row _ _ _)) => Nat.ble m0 id && isByteRow P t
    | _ => false
  | _ => false

theorem freeze_at (w : World) (b : Nat) (c : Array Value) (e : TypeId) (fz : Nat × Nat) (h : w.heap[b]? = some (.cells c e fz)) (hz : fz = (0, 0) ∨ c.size ≤ fz.1) :
    ∃ fz', (w.freeze ⟨b, c.size, none⟩ 1).heap[b]? = some (.cells c e fz') ∧ c.size ≤ fz'.1 := by
  obtain ⟨lo, hi⟩ := fz
  refine ⟨if lo == hi then (c.size, c.size + 1) else (min lo c.size, max hi (c.size + 1)), ?_, ?_⟩
  · simp [World.freeze, Array.getElem?_modify, h]
  · split
    · exact Nat.le_refl _
    · rename_i hne
      rcases hz with hz | hz
      · cases hz; simp at hne
      · show c.size ≤ min lo c.size
        have hz : c.size ≤ lo := hz
        omega

theorem freeze_other (w : World) (b n k : Nat) (hk : k ≠ b) : (w.freeze ⟨b, n, none⟩ 1).heap[k]? = w.heap[k]? := by
  simp [World.freeze, Array.getElem?_modify, Ne.symm hk]

theorem evMark_ok {P : Program} {n : Nat} {B : Nat → Prop} {m0 : Nat} {w0 : World} {ρ0 : Rho} {ρ : Rho} {a : Act} {w : World} {f : FSt} (hc : ConcF n B m0 w0 ρ0 ρ a w f) {t : TypeId} {x : AV} {u : Value} (hx : x.rel ρ u) (hT : evMark P m0 f.mem t x = true) :
    ∃ w', (convert t t u).run P w = .ok u w' ∧ ConcF n B m0 w0 ρ0 ρ a w' f := by
  unfold evMark at hT
  split at hT <;> try (cases hT; done)
  rename_i id sz i len cap kn
  split at hT <;> try (cases hT; done)
  rename_i nr szr g hid
  have hT : Nat.ble m0 id = true ∧ isByteRow P t = true := (Bool.and_eq_true _ _).mp hT
  have hm0 := Nat.le_of_ble_eq_true hT.1
  obtain ⟨e, hs, he⟩ := isByteRow_ok hT.2
  obtain ⟨b, o, hρ, rfl⟩ := hx
  obtain ⟨b1, hρ1, hB, c, e1, fz, hheap, hz⟩ := hc.conc.own.low id _ hm0 hid
  rw [hρ] at hρ1; cases hρ1
  obtain ⟨fz', hw', hz'⟩ := freeze_at w b c e1 fz hheap hz
  have hsh : w.shape? b = some (e1, c.size) := by
    simp [World.shape?, hheap]
  have hsz : (w.freeze ⟨b, c.size, none⟩ 1).heap.size = w.heap.size := by simp [World.freeze]
  have hmod : ∀ k, k ≠ b → (w.freeze ⟨b, c.size, none⟩ 1).heap[k]? = w.heap[k]? := fun k hk => freeze_other w b c.size k hk
  refine ⟨w.freeze ⟨b, c.size, none⟩ 1, ?_, ⟨⟨hc.conc.defers, hc.conc.slots, ⟨hc.conc.mem.dom, fun id' C hC => ?_⟩, ⟨fun id' C hid' hC => ?_, hc.conc.own.inj⟩,
    hc.conc.below.trans ⟨by simp [World.freeze], by simp [World.freeze], by simp [World.freeze], by rw [hsz]; exact Nat.le_refl _, fun k hk => hmod k (fun e => hB (e ▸ hk))⟩, fun k hk => by rw [hsz]; exact hc.conc.size k hk, hc.conc.keep, hc.conc.len⟩, hc.nle, hc.slots⟩⟩
  · simp [convert, run_underlying hs, run_underlying he, markStringish, hsh]
  · obtain ⟨b2, o2, k1, k2⟩ := hc.conc.mem.blk id' C hC
    by_cases hi : id' = id
    · subst hi
      have hC' : C = .row nr szr g := Option.some.inj (Option.some.inj (hC.symm.trans hid))
      subst hC'
      rw [hρ] at k1; cases k1
      obtain ⟨c3, e3, fz3, h1, h2, _⟩ := k2
      rw [hheap] at h1; cases h1
      exact ⟨b, 0, hρ, c, e1, fz', hw', h2, trivial⟩
    · exact ⟨b2, o2, k1, k2.mono (Rho.le_refl ρ) (hmod b2 (fun e => hc.conc.own.inj id id' b 0 b2 o2 hm0 (fun e => hi e.symm) ⟨_, hid⟩ ⟨C, hC⟩ hρ k1 e.symm))⟩
  · obtain ⟨b2, k1, k2, k3⟩ := hc.conc.own.low id' C hid' hC
    refine ⟨b2, k1, k2, ?_⟩
    by_cases hb : b2 = b
    · subst hb; exact ⟨c, e1, fz', hw', .inr hz'⟩
    · exact k3.of (hmod b2 hb)

/-- Slots that name one of two names are forgotten. -/
def dropS (id k : Nat) : List (Nat × AV) → List (Nat × AV)
  | [] => []
  | (t, a) :: l => (t, match inNs id (avNames a) with
    | true => .any
    | false => match inNs k (avNames a) with
      | true => .any
      | false => a) :: dropS id k l

theorem dropS_ok {id k : Nat} {ρ ρ' : Rho} (hag : ∀ z, z ≠ id → z ≠ k → ρ' z = ρ z) (t : Nat) (v : Value) : ∀ (l : List (Nat × AV)), (findF t l).rel ρ v → (findF t (dropS id k l)).rel ρ' v
  | [], _ => trivial
  | (u, a) :: l, h => by
    unfold dropS
    cases hb : Nat.beq u t with
    | false =>
      simp only [findF, hb] at h ⊢
      exact dropS_ok hag t v l h
    | true =>
      simp only [findF, hb] at h ⊢
      split
      · trivial
      · rename_i h1
        split
        · trivial
        · rename_i h2
          refine av_agree (fun x hx => hag x (fun e => ?_) (fun e => ?_)) h
          · subst e; rw [inNs_of hx] at h1; cases h1
          · subst e; rw [inNs_of hx] at h2; cases h2

/-- Operations on rows that grow. -/
def evSp (P : Program) (m0 : Nat) (op : Op) (dst : Option Tmp) (f : FSt) : Option (T FSt) :=
  match appOf op with
  | some (t, s, x) => match evAppG P f.mem t (lkF f s) (lkF f x) with
    | some T => some (T.bind fun r => .leaf { sl := putF f.sl dst r.1, mem := f.mem ++ r.2 })
    | none => some ((evApp P m0 f.mem t (lkF f s) (lkF f x)).bind fun r => .leaf { sl := putF (dropS r.1 r.2.1 f.sl) dst r.2.2.1, mem := r.2.2.2 })
  | none => match emptyOf op with
    | some t => match evEmpty P f.mem.length t with
      | some r => some (.leaf { sl := putF f.sl dst r.1, mem := f.mem ++ r.2 })
      | none => none
    | none => match appSOf op with
      | some (t, u, s, x) => match isStrA (lkF f x) with
        | true => some ((evAppS P m0 f.mem t u (lkF f s) (lkF f x)).bind fun r => .leaf { sl := putF (dropS r.1 r.2.1 f.sl) dst r.2.2.1, mem := r.2.2.2 })
        | false => none
      | none => match markOf op with
        | some (t, x) => match evMark P m0 f.mem t (lkF f x) with
          | true => some (.leaf { sl := putF f.sl dst (lkF f x), mem := f.mem ++ [] })
          | false => none
        | none => none

/-- A row of one's own that the first argument names; the argument, with the name 1. -/
def nameW : AV → Option (Nat × AV)
  | .one (.sl id sz i len cap kn) => some (id, .one (.sl 1 sz i len cap kn))
  | .one (.su id sz i len kn) => some (id, .one (.su 1 sz i len kn))
  | _ => none

def plainA : AV → Bool
  | .one s => !svPtr s
  | .agg l => !svsPtr l
  | .tup l => !ptsPtr l
  | .und => true
  | .any => true
  | .tie _ _ => false

theorem plainA_rel {ρ ρ' : Rho} {a : AV} {v : Value} (hp : plainA a = true) (h : a.rel ρ v) : a.rel ρ' v := by
  cases a with
  | one s => exact svPtr_rel (by simpa [plainA] using hp) h
  | agg l => obtain ⟨cs, h1, h2⟩ := h; exact ⟨cs, h1, svsPtr_rel (by simpa [plainA] using hp) h2⟩
  | tup l => obtain ⟨cs, h1, h2⟩ := h; exact ⟨cs, h1, ptsPtr_rel (by simpa [plainA] using hp) h2⟩
  | und => exact h
  | any => trivial
  | tie i j => simp [plainA] at hp

def plainAs : List AV → Bool
  | [] => true
  | a :: l => plainA a && plainAs l

theorem plainAs_rel {ρ ρ' : Rho} : ∀ {l : List AV} {vs : List Value}, plainAs l = true → RelA ρ l vs → RelA ρ' l vs
  | [], [], _, _ => trivial
  | a :: l, v :: vs, hp, ⟨h1, h2⟩ => by
    have hp : plainA a = true ∧ plainAs l = true := by simpa [plainAs] using hp
    exact ⟨plainA_rel hp.1 h1, plainAs_rel hp.2 h2⟩

def colsB : Blk → Option (Nat × List Col)
  | .cols n cs => some (n, cs)
  | _ => none

theorem colsB_at {ρ ρ' : Rho} {w : World} {b o : Nat} {n : Nat} {cs : List Col} (h : BlkAt ρ w b o (.cols n cs)) : BlkAt ρ' w b o (.cols n cs) := by
  obtain ⟨c, e, fz, h1, h2, _⟩ := h
  refine ⟨c, e, fz, h1, fun i hi j hj => ?_, trivial⟩
  obtain ⟨v, s, a1, a2, a3⟩ := h2 i hi j hj
  refine ⟨v, s, a1, a2, ?_⟩
  have hz : ∀ (cs : List Col) (j : Nat) (s : SV), (colsAt cs i)[j]? = some s → svNames s = [] := by
    intro cs
    induction cs with
    | nil => intro j s h; simp [colsAt] at h
    | cons x cs ih =>
      intro j s h
      cases j with
      | zero => simp [colsAt] at h; subst h; cases x <;> rfl
      | succ j => exact ih j s (by simpa [colsAt] using h)
  exact sv_agree (by rw [hz cs j s a2]; intro x hx; cases hx) a3

def calleeOf (lk : Operand → AV) : Op → Option (FuncId × List Operand)
  | .call c => match c.callee with
    | .value x => match lk x with
      | .one (.fn g []) => some (g, c.args.toList)
      | _ => none
    | _ => none
  | _ => none

/-! ### A box of one's own, given to a function that writes into it -/

def suName : List SV → Option Nat
  | [] => none
  | .su id _ _ _ _ :: _ => some id
  | _ :: l => suName l

def plainS : SV → Bool
  | .fl _ _ => true
  | .int _ _ => true
  | .num _ _ => true
  | .tt _ => true
  | .bo _ => true
  | .str _ => true
  | .bt _ _ => true
  | .val _ => true
  | _ => false

theorem plainS_rel {ρ ρ' : Rho} {s : SV} {v : Value} (h : plainS s = true) (hr : s.rel ρ v) : s.rel ρ' v := by
  cases s <;> first | exact hr | (cases h; done)

/-- The cell by the callee's names: the row is 1. -/
def inS (c : Option Nat) : SV → Option SV
  | .su id sz i n kn => match c with
    | some c => match Nat.beq id c with
      | true => some (.su 1 sz i n kn)
      | false => none
    | none => none
  | s => match plainS s with
    | true => some s
    | false => none
def outS (c : Option Nat) : SV → Option SV
  | .su id sz i n kn => match c with
    | some c => match Nat.beq id 1 with
      | true => some (.su c sz i n kn)
      | false => none
    | none => none
  | s => match plainS s with
    | true => some s
    | false => none

theorem inS_rel {ρ ρ' : Rho} {c : Option Nat} {s t : SV} {v : Value} (h : inS c s = some t) (hc : ∀ k, c = some k → ρ' 1 = ρ k) (hr : s.rel ρ v) : t.rel ρ' v := by
  unfold inS at h
  split at h
  · split at h
    · rename_i id sz i n kn k
      split at h
      · rename_i hb
        cases h
        have := Nat.eq_of_beq_eq_true hb
        subst this
        obtain ⟨a, cap, h1, h2, h3⟩ := hr
        exact ⟨a, cap, h1, h2, fun hl => by obtain ⟨b, o, q1, q2⟩ := h3 hl; exact ⟨b, o, (hc _ rfl).trans q1, q2⟩⟩
      · cases h
    · cases h
  · split at h
    · rename_i hp; cases h; exact plainS_rel hp hr
    · cases h
theorem outS_rel {ρ ρ' : Rho} {c : Option Nat} {s t : SV} {v : Value} (h : outS c s = some t) (hc : ∀ k, c = some k → ρ' k = ρ 1) (hr : s.rel ρ v) : t.rel ρ' v := by
  unfold outS at h
  split at h
  · split at h
    · rename_i id sz i n kn k
      split at h
      · rename_i hb
        cases h
        have := Nat.eq_of_beq_eq_true hb
        subst this
        obtain ⟨a, cap, h1, h2, h3⟩ := hr
        exact ⟨a, cap, h1, h2, fun hl => by obtain ⟨b, o, q1, q2⟩ := h3 hl; exact ⟨b, o, (hc _ rfl).trans q1, q2⟩⟩
      · cases h
    · cases h
  · split at h
    · rename_i hp; cases h; exact plainS_rel hp hr
    · cases h

def mapO (g : SV → Option SV) : List SV → Option (List SV)
  | [] => some []
  | s :: l => match g s, mapO g l with
    | some t, some r => some (t :: r)
    | _, _ => none
theorem mapO_get {g : SV → Option SV} : ∀ {l r : List SV}, mapO g l = some r → r.length = l.length ∧ ∀ (j : Nat) (s : SV), l[j]? = some s → ∃ t, r[j]? = some t ∧ g s = some t
  | [], r, h => by cases h; exact ⟨rfl, fun j s h => by simp at h⟩
  | x :: l, r, h => by
    unfold mapO at h
    split at h
    · rename_i t r' h1 h2
      cases h
      obtain ⟨k1, k2⟩ := mapO_get h2
      refine ⟨by simp [k1], fun j s hj => ?_⟩
      cases j with
      | zero => simp at hj; subst hj; exact ⟨t, rfl, h1⟩
      | succ j => exact k2 j s (by simpa using hj)
    · cases h

theorem box_map {g : SV → Option SV} {ρ ρ' : Rho} {w : World} {b : Nat} {l r : List SV} (h : mapO g l = some r) (hg : ∀ s t v, g s = some t → s.rel ρ v → t.rel ρ' v) (hb : BlkAt ρ w b 0 (.box l)) : BlkAt ρ' w b 0 (.box r) := by
  obtain ⟨c, e, fz, h1, h2, _⟩ := hb
  obtain ⟨k1, k2⟩ := mapO_get h
  refine ⟨c, e, fz, h1, fun i hi j hj => ?_, trivial⟩
  have hj : j < r.length := hj
  obtain ⟨v, s, a1, a2, a3⟩ := h2 i hi j (by show j < l.length; omega)
  obtain ⟨t, q1, q2⟩ := k2 j s a2
  have e1 : Blk.sz (.box r) = Blk.sz (.box l) := k1
  exact ⟨v, t, by rw [e1]; exact a1, q1, hg _ _ _ q2 a3⟩

def extB (id : Nat) (c : Option Nat) (mem : Mem) : Option (Option (Nat × List Col)) :=
  match c with
  | none => some none
  | some c => match Nat.beq c id with
    | true => none
    | false => match mem[c]? with
      | some (some (.cols n cs)) => some (some (n, cs))
      | _ => none

theorem extB_ok {id : Nat} {c : Option Nat} {mem : Mem} {E : Option (Nat × List Col)} (h : extB id c mem = some E) (q : Nat × List Col) (hq : E = some q) : ∃ k, c = some k ∧ k ≠ id ∧ mem[k]? = some (some (.cols q.1 q.2)) := by
  subst hq
  cases c with
  | none => cases h
  | some k =>
    simp only [extB] at h
    cases hb : Nat.beq k id with
    | true => rw [hb] at h; cases h
    | false =>
      rw [hb] at h
      refine ⟨k, rfl, fun e => by subst e; simp at hb, ?_⟩
      cases hk : mem[k]? with
      | none => rw [hk] at h; cases h
      | some x =>
        rw [hk] at h
        cases x with
        | none => cases h
        | some B => cases B <;> first | (cases h; rfl) | (cases h; done)

def outB (c : Option Nat) : Blk → Option (List SV)
  | .box d => mapO (outS c) d
  | _ => none

def evWq {P : Program} {g : FuncId} (m0 : Nat) (W : Wq P g) (as : List AV) (dst : Option Tmp) (f : FSt) : Option (T FSt) :=
  match as with
  | .one (.ptr id sz i j) :: rest => match Nat.ble m0 id && plainAs rest with
    | false => none
    | true => match f.mem[id]? with
      | some (some (.box l)) => match mapO (inS (suName l)) l, extB id (suName l) f.mem with
        | some l', some E => some ((W.run (.one (.ptr 2 sz i j) :: rest) E (.box l')).bind fun r => match plainA r.1, outB (suName l) r.2 with
          | true, some d => .leaf { sl := putF f.sl dst r.1, mem := f.mem.set id (some (.box d)) }
          | _, _ => .fail)
        | _, _ => none
      | _ => none
  | _ => none

/-- A call of a function that writes into a row or a box of the call's own. -/
def evWr (P : Program) (env : List (Ctr P)) (m0 : Nat) (op : Op) (dst : Option Tmp) (f : FSt) : Option (T FSt) :=
  match calleeOf (lkF f) op with
  | none => none
  | some (g, xs) => match look env g with
    | none => none
    | some ct => match ct.wr with
      | none => match ct.wq with
        | none => none
        | some W => evWq m0 W (xs.map (lkF f)) dst f
      | some W => match xs.map (lkF f) with
        | [] => none
        | a :: rest => match nameW a with
          | none => none
          | some (id, a') => match Nat.ble m0 id && plainAs rest with
            | false => none
            | true => match f.mem[id]? with
              | some (some (.cols n cs)) => some ((W.run (a' :: rest) (.cols n cs)).bind fun r => match plainA r.1, colsB r.2 with
                | true, some (n', cs') => .leaf { sl := putF f.sl dst r.1, mem := f.mem.set id (some (.cols n' cs')) }
                | _, _ => .fail)
              | _ => none

def evOpF (P : Program) (env : List (Ctr P)) (m0 : Nat) (o : Oper) (f : FSt) : T FSt :=
  match o.op with
  | .store t x v =>
    match lkF f x, (lkF f v).cells with
    | .one p, some cells => (evStore P m0 f.mem t p cells).bind fun mem' => .leaf { sl := putF f.sl o.dst .und, mem := mem' }
    | _, _ => .fail
  | op => match evSp P m0 op o.dst f with
    | some r => r
    | none => match evWr P env m0 op o.dst f with
      | some r => r
      | none => (evQ P env (lkF f) f.mem op).bind fun r => .leaf { sl := putF f.sl o.dst r.1, mem := f.mem ++ r.2 }

theorem evSp_ok {P : Program} {n : Nat} {B : Nat → Prop} {m0 : Nat} {w0 : World} {ρ0 : Rho} {ρ : Rho} {a : Act} {w : World} {f : FSt} {o : Oper} {K : Act → World → Prop} {Q : Exit → Act → World → Prop} (hc : ConcF n B m0 w0 ρ0 ρ a w f) (hd : ∀ d, o.dst = some d → d < n) {T : T FSt} (hT : evSp P m0 o.op o.dst f = some T)
    (h : T.holds fun f' => ∀ ρ' a' w', ConcF n B m0 w0 ρ0 ρ' a' w' f' → K a' w') : o.wp P a w K Q := by
  have grown : ∀ {r : Nat × Nat × AV × Mem} {ρ' : Rho} {w' : World} {y : Value}, (∀ z, z ≠ r.1 → z ≠ r.2.1 → ρ' z = ρ z) → m0 ≤ r.1 → m0 ≤ r.2.1 → MemOK ρ' w' r.2.2.2 → Own B m0 ρ' w' r.2.2.2 → Bel B w w' → r.2.2.2.length = f.mem.length → r.2.2.1.rel ρ' y →
      ConcF n B m0 w0 ρ0 ρ' (a.put o.dst y) w' { sl := putF (dropS r.1 r.2.1 f.sl) o.dst r.2.2.1, mem := r.2.2.2 } := fun {r ρ' w' y} hag h1 h2 h3 h4 h5 h6 h7 =>
    ConcF.put (f := { sl := dropS r.1 r.2.1 f.sl, mem := r.2.2.2 }) ⟨⟨hc.conc.defers, anySlots _ _, h3, h4, hc.conc.below.trans h5, fun k hk => Nat.lt_of_lt_of_le (hc.conc.size k hk) h5.size, fun id hid => (hag id (by omega) (by omega)).trans (hc.conc.keep id hid), by have h8 : m0 ≤ f.mem.length := hc.conc.len; have h9 : r.2.2.2.length = f.mem.length := h6; show m0 ≤ r.2.2.2.length; omega⟩, hc.nle, fun t => dropS_ok hag t _ f.sl (hc.slots t)⟩ o.dst hd h7
  unfold evSp at hT
  split at hT
  · rename_i t s x happ
    split at hT
    · rename_i T0 hG
      cases hT
      obtain ⟨v, w', h1, h2⟩ := evAppG_ok hc.conc.mem t o.type (lkF_ok hc s) (lkF_ok hc x) hG (fun v w' => K (a.put o.dst v) w')
        (T.holds_mono (T.holds_bind h) fun r hh ρ' w' v hn hv => hh ρ' _ w' ((hc.new hn).put o.dst hd hv))
      exact wp_val (appOf_exec happ) h1 h2
    · cases hT
      obtain ⟨y, w', hr, hk⟩ := evApp_ok hc.conc.mem hc.conc.own hc.conc.size t o.type (lkF_ok hc s) (lkF_ok hc x) (fun y w' => K (a.put o.dst y) w')
        (T.holds_mono (T.holds_bind h) fun r hh ρ' w' y hag h1 h2 h3 h4 h5 h6 h7 => hh ρ' _ w' (grown hag h1 h2 h3 h4 h5 h6 h7))
      exact wp_val (appOf_exec happ) hr hk
  · split at hT
    · rename_i t hem
      split at hT
      · rename_i r hr
        cases hT
        obtain ⟨ρ', w', v, h1, h2, h3⟩ := evEmpty_ok hc.conc.mem t hr
        exact wp_val (emptyOf_exec hem) h1 (h ρ' _ w' ((hc.new h2).put o.dst hd h3))
      · cases hT
    · split at hT
      · rename_i t u s x happ
        split at hT
        · cases hT
          obtain ⟨y, w', hr, hk⟩ := evAppS_ok hc.conc.mem hc.conc.own hc.conc.size t u o.type (lkF_ok hc s) (lkF_ok hc x) (fun y w' => K (a.put o.dst y) w')
            (T.holds_mono (T.holds_bind h) fun r hh ρ' w' y hag h1 h2 h3 h4 h5 h6 h7 => hh ρ' _ w' (grown hag h1 h2 h3 h4 h5 h6 h7))
          exact wp_val (appSOf_exec happ) hr hk
        · cases hT
      · split at hT
        · rename_i t x hmk
          split at hT
          · rename_i hev
            cases hT
            obtain ⟨w', h1, h2⟩ := evMark_ok hc (lkF_ok hc x) hev
            refine wp_val (markOf_exec hmk) h1 (h ρ _ w' ?_)
            rw [List.append_nil]
            exact h2.put o.dst hd (lkF_ok hc x)
          · cases hT
        · cases hT

theorem evWq_ok {P : Program} {env : List (Ctr P)} {n : Nat} {B : Nat → Prop} {m0 : Nat} {w0 : World} {ρ0 : Rho} {ρ : Rho} {a : Act} {w : World} {f : FSt} {o : Oper} {K : Act → World → Prop} {Q : Exit → Act → World → Prop} (hc : ConcF n B m0 w0 ρ0 ρ a w f) (hd : ∀ d, o.dst = some d → d < n)
    {g : FuncId} {xs : List Operand} (callee : ∃ c x, o.op = .call c ∧ c.callee = .value x ∧ lkF f x = .one (.fn g []) ∧ xs = c.args.toList) {ct : Ctr P} (hct : look env g = some ct) (W : Wq P ct.f) {T : T FSt} (hT : evWq m0 W (xs.map (lkF f)) o.dst f = some T)
    (h : T.holds fun f' => ∀ ρ' a' w', ConcF n B m0 w0 ρ0 ρ' a' w' f' → K a' w') : o.wp P a w K Q := by
  obtain ⟨c, x, ho, hcv, hlx, hxs⟩ := callee
  unfold evWq at hT
  split at hT <;> try (cases hT; done)
  rename_i id sz i j rest hargs
  split at hT <;> try (cases hT; done)
  rename_i hok
  split at hT <;> try (cases hT; done)
  rename_i l hid
  split at hT <;> try (cases hT; done)
  rename_i l' E hin hext
  cases hT
  rw [Bool.and_eq_true] at hok
  have hm0 : m0 ≤ id := Nat.le_of_ble_eq_true hok.1
  have hfx := lkF_ok hc x
  rw [hlx] at hfx
  obtain ⟨vs, hv, hcaps⟩ := hfx
  have hvs : vs = #[] := by
    have : vs.toList = [] := by
      cases hl : vs.toList with
      | nil => rfl
      | cons y l => rw [hl] at hcaps; exact hcaps.elim
    exact Array.ext' (by simpa using this)
  subst hvs
  have hrel : RelA ρ (.one (.ptr id sz i j) :: rest) (c.args.map a.eval).toList := by
    rw [Array.toList_map, ← hargs, hxs]
    exact opdsK_ok (lkF_ok hc) c.args.toList
  -- the box
  obtain ⟨b, hρ, hBb, hown⟩ := hc.conc.own.low id _ hm0 hid
  obtain ⟨b', o', hρ', hblk⟩ := hc.conc.mem.blk id _ hid
  rw [hρ] at hρ'; cases hρ'
  generalize hcn : suName l = cn at *
  let ρ2 : Rho := fun z => if z = 0 then some (b, 0) else if z = 1 then cn.bind ρ else if z = 2 then some (b, 0) else none
  have r0 : ρ2 0 = some (b, 0) := rfl
  have r2 : ρ2 2 = some (b, 0) := rfl
  have h12 : ∀ k, cn = some k → ρ2 1 = ρ k := fun k e => by subst e; rfl
  have hE := extB_ok hext
  have hm2 : MemOK ρ2 w [none, E.map fun p => .cols p.1 p.2, some (.box l')] := by
    refine ⟨fun z hz => ?_, fun z C hC => ?_⟩
    · have hz : 3 ≤ z := hz
      show (if _ then _ else _) = _
      rw [if_neg (by omega), if_neg (by omega), if_neg (by omega)]
    · match z, hC with
      | 0, hC => simp at hC
      | 1, hC =>
        cases hEq : E with
        | none => rw [hEq] at hC; simp at hC
        | some q =>
          rw [hEq] at hC
          simp at hC
          subst hC
          obtain ⟨k, k1, k2, k3⟩ := hE q hEq
          obtain ⟨b3, o3, q1, q2⟩ := hc.conc.mem.blk k _ k3
          exact ⟨b3, o3, (h12 k k1).trans q1, colsB_at q2⟩
      | 2, hC =>
        simp at hC
        subst hC
        exact ⟨b, 0, r2, box_map hin (fun s t v hg hr => inS_rel hg h12 hr) hblk⟩
      | z + 3, hC => simp at hC
  have hne : ∀ b' o', E ≠ none → ρ2 1 = some (b', o') → b' ≠ b := by
    intro b3 o3 hEn h1
    obtain ⟨q, hq⟩ : ∃ q, E = some q := by
      cases E with
      | none => exact absurd rfl hEn
      | some q => exact ⟨q, rfl⟩
    obtain ⟨k, k1, k2, k3⟩ := hE q hq
    rw [h12 k k1] at h1
    exact fun e => hc.conc.own.inj id k b 0 b3 o3 hm0 (fun e => k2 e.symm) ⟨_, hid⟩ ⟨_, k3⟩ hρ h1 e.symm
  have hrel2 : RelA ρ2 (.one (.ptr 2 sz i j) :: rest) (c.args.map a.eval).toList := by
    cases hl : (c.args.map a.eval).toList with
    | nil => rw [hl] at hrel; exact hrel.elim
    | cons v l =>
      rw [hl] at hrel
      refine ⟨?_, plainAs_rel hok.2 hrel.2⟩
      obtain ⟨b1, o1, k1, k2⟩ := hrel.1
      rw [hρ] at k1; cases k1
      exact ⟨b, 0, r2, k2⟩
  have hf := look_f hct
  subst hf
  have hk := W.ok (.one (.ptr 2 sz i j) :: rest) E (.box l') ρ2 w _ b hm2 r0 r2 hne hown hrel2 o a K Q (T.holds_mono (T.holds_bind h) fun r hh ρ' w' v h1' hb' hown' hbel hv' => by
    split at hh <;> try exact hh.elim
    rename_i d hp hob
    obtain ⟨d0, hr2, hd0⟩ : ∃ d0, r.2 = .box d0 ∧ mapO (outS cn) d0 = some d := by
      unfold outB at hob
      split at hob
      · rename_i d0 heq; exact ⟨d0, heq, hob⟩
      · cases hob
    rw [hr2] at hb'
    have hbd : BlkAt ρ w' b 0 (.box d) := box_map hd0 (fun s t v hg hr => outS_rel hg (fun k e => ((h12 k e).symm.trans h1'.symm)) hr) hb'
    have hoth : ∀ j C bj oj, j ≠ id → f.mem[j]? = some (some C) → ρ j = some (bj, oj) → w'.heap[bj]? = w.heap[bj]? := by
      intro j C bj oj hj hC hρj
      obtain ⟨b3, o3, h1, h2⟩ := hc.conc.mem.blk j C hC
      rw [hρj] at h1; cases h1
      have hne := hc.conc.own.inj id j b 0 bj oj hm0 (fun e => hj e.symm) ⟨_, hid⟩ ⟨C, hC⟩ hρ hρj
      exact hbel.block bj ⟨h2.lt, fun e => hne e.symm⟩
    have hilt : id < f.mem.length := (List.getElem?_eq_some_iff.1 hid).1
    have hsame : ∀ (j : Nat) (C : Blk), (f.mem.set id (some (.box d)))[j]? = some (some C) → ∃ C' : Blk, f.mem[j]? = some (some C') := by
      intro j C hC
      by_cases hj : j = id
      · subst hj; exact ⟨_, hid⟩
      · rw [List.getElem?_set_ne (fun e => hj e.symm)] at hC; exact ⟨C, hC⟩
    refine hh ρ _ w' (ConcF.put (f := { sl := f.sl, mem := f.mem.set id (some (.box d)) }) ⟨⟨hc.conc.defers, anySlots _ _, ⟨fun z hz => hc.conc.mem.dom z (by simpa using hz), fun j C hC => ?_⟩, ⟨fun j C hj hC => ?_, fun i j bi oi bj oj hi hij hCi hCj h1 h2 => ?_⟩,
      hc.conc.below.trans ⟨hbel.os, hbel.tape, hbel.output, hbel.size, fun k hk => hbel.block k ⟨hc.conc.size k hk, fun e => hBb (e ▸ hk)⟩⟩, fun k hk => Nat.lt_of_lt_of_le (hc.conc.size k hk) hbel.size, hc.conc.keep, ?_⟩, hc.nle, hc.slots⟩ o.dst hd (plainA_rel hp hv'))
    · by_cases hj : j = id
      · subst hj
        have hC' : (f.mem.set j (some (.box d)))[j]? = some (some C) := hC
        rw [List.getElem?_set_self hilt] at hC'
        cases hC'
        exact ⟨b, 0, hρ, hbd⟩
      · have hC' : (f.mem.set id (some (.box d)))[j]? = some (some C) := hC
        rw [List.getElem?_set_ne (fun e => hj e.symm)] at hC'
        obtain ⟨b3, o3, h1, h2⟩ := hc.conc.mem.blk j C hC'
        exact ⟨b3, o3, h1, h2.mono (Rho.le_refl ρ) (hoth j C b3 o3 hj hC' h1)⟩
    · by_cases hji : j = id
      · subst hji; exact ⟨b, hρ, hBb, hown'⟩
      · have hC' : (f.mem.set id (some (.box d)))[j]? = some (some C) := hC
        rw [List.getElem?_set_ne (fun e => hji e.symm)] at hC'
        obtain ⟨b3, h1, h2, h3⟩ := hc.conc.own.low j C hj hC'
        exact ⟨b3, h1, h2, h3.of (hoth j C b3 0 hji hC' h1)⟩
    · obtain ⟨Ci, hCi⟩ := hCi
      obtain ⟨Cj, hCj⟩ := hCj
      exact hc.conc.own.inj i j bi oi bj oj hi hij (hsame i Ci hCi) (hsame j Cj hCj) h1 h2
    · have h8 : m0 ≤ f.mem.length := hc.conc.len
      show m0 ≤ (f.mem.set id (some (.box d))).length
      rw [List.length_set]; exact h8)
  have he : execOp a.eval o = callFunc ct.f (c.args.map a.eval) := by
    unfold execOp; rw [ho]
    simp only [resolve, hcv, hv, Deferred.ofValue]
    show Sem.bind _ _ = _
    simp [Sem.bind, invoke, pure]
  unfold Oper.wp
  rw [he]; exact hk

theorem evWr_ok {P : Program} {env : List (Ctr P)} {n : Nat} {B : Nat → Prop} {m0 : Nat} {w0 : World} {ρ0 : Rho} {ρ : Rho} {a : Act} {w : World} {f : FSt} {o : Oper} {K : Act → World → Prop} {Q : Exit → Act → World → Prop} (hc : ConcF n B m0 w0 ρ0 ρ a w f) (hd : ∀ d, o.dst = some d → d < n) {T : T FSt} (hT : evWr P env m0 o.op o.dst f = some T)
    (h : T.holds fun f' => ∀ ρ' a' w', ConcF n B m0 w0 ρ0 ρ' a' w' f' → K a' w') : o.wp P a w K Q := by
  unfold evWr at hT
  split at hT <;> try (cases hT; done)
  rename_i g xs hcal
  split at hT <;> try (cases hT; done)
  rename_i ct hct
  have callee : ∃ c x, o.op = .call c ∧ c.callee = .value x ∧ lkF f x = .one (.fn g []) ∧ xs = c.args.toList := by
    unfold calleeOf at hcal
    split at hcal <;> try (cases hcal; done)
    rename_i c ho
    split at hcal <;> try (cases hcal; done)
    rename_i x hx
    split at hcal <;> try (cases hcal; done)
    rename_i g' hl
    cases hcal
    exact ⟨c, x, ho, hx, hl, rfl⟩
  split at hT
  · split at hT
    · cases hT
    · rename_i W hW
      exact evWq_ok hc hd callee hct W hT h
  rename_i W hW
  split at hT <;> try (cases hT; done)
  rename_i av rest hargs
  split at hT <;> try (cases hT; done)
  rename_i id a' hname
  split at hT <;> try (cases hT; done)
  rename_i hok
  split at hT <;> try (cases hT; done)
  rename_i nr cs hid
  cases hT
  rw [Bool.and_eq_true] at hok
  have hm0 : m0 ≤ id := Nat.le_of_ble_eq_true hok.1
  -- what is called
  obtain ⟨c, x, ho, hcv, hlx, hxs⟩ : ∃ c x, o.op = .call c ∧ c.callee = .value x ∧ lkF f x = .one (.fn g []) ∧ xs = c.args.toList := by
    unfold calleeOf at hcal
    split at hcal <;> try (cases hcal; done)
    rename_i c ho
    split at hcal <;> try (cases hcal; done)
    rename_i x hx
    split at hcal <;> try (cases hcal; done)
    rename_i g' hl
    cases hcal
    exact ⟨c, x, ho, hx, hl, rfl⟩
  have hfx := lkF_ok hc x
  rw [hlx] at hfx
  obtain ⟨vs, hv, hcaps⟩ := hfx
  have hvs : vs = #[] := by
    have : vs.toList = [] := by
      cases hl : vs.toList with
      | nil => rfl
      | cons y l => rw [hl] at hcaps; exact hcaps.elim
    exact Array.ext' (by simpa using this)
  subst hvs
  have hrel : RelA ρ (av :: rest) (c.args.map a.eval).toList := by
    rw [Array.toList_map, ← hargs, hxs]
    exact opdsK_ok (lkF_ok hc) c.args.toList
  -- the row
  obtain ⟨b, hρ, hBb, hown⟩ := hc.conc.own.low id _ hm0 hid
  obtain ⟨b', o', hρ', hblk⟩ := hc.conc.mem.blk id _ hid
  rw [hρ] at hρ'; cases hρ'
  have hblt := hblk.lt
  let ρ2 : Rho := fun z => if z < 2 then some (b, 0) else none
  have r0 : ρ2 0 = some (b, 0) := rfl
  have r1 : ρ2 1 = some (b, 0) := rfl
  have hm2 : MemOK ρ2 w [none, some (.cols nr cs)] := by
    refine ⟨fun z hz => ?_, fun z C hC => ?_⟩
    · have hz : 2 ≤ z := hz
      exact if_neg (by omega)
    · match z, hC with
      | 0, hC => simp at hC
      | 1, hC => simp at hC; subst hC; exact ⟨b, 0, r1, colsB_at hblk⟩
      | z + 2, hC => simp at hC
  have hrel2 : RelA ρ2 (a' :: rest) (c.args.map a.eval).toList := by
    cases hl : (c.args.map a.eval).toList with
    | nil => rw [hl] at hrel; exact hrel.elim
    | cons v l =>
      rw [hl] at hrel
      refine ⟨?_, plainAs_rel hok.2 hrel.2⟩
      have h1 := hrel.1
      unfold nameW at hname
      split at hname
      · cases hname
        obtain ⟨b1, o1, k1, k2⟩ := h1
        rw [hρ] at k1; cases k1
        exact ⟨b, 0, r1, k2⟩
      · cases hname
        obtain ⟨a1, cap, k1, k2, k3⟩ := h1
        refine ⟨a1, cap, k1, k2, fun hl => ?_⟩
        obtain ⟨b1, o1, k4, k5⟩ := k3 hl
        rw [hρ] at k4; cases k4
        exact ⟨b, 0, r1, k5⟩
      · cases hname
  have hf := look_f hct
  subst hf
  have hk := W.ok (a' :: rest) (.cols nr cs) ρ2 w _ b hm2 r0 r1 hown hrel2 o a K Q (T.holds_mono (T.holds_bind h) fun r hh ρ' w' v hb' hown' hbel hv' => by
    split at hh <;> try exact hh.elim
    rename_i n' cs' hp hcb
    have hr2 : r.2 = .cols n' cs' := by
      unfold colsB at hcb
      split at hcb
      · rename_i heq; cases hcb; exact heq
      · cases hcb
    rw [hr2] at hb'
    have hoth : ∀ j C bj oj, j ≠ id → f.mem[j]? = some (some C) → ρ j = some (bj, oj) → w'.heap[bj]? = w.heap[bj]? := by
      intro j C bj oj hj hC hρj
      obtain ⟨b3, o3, h1, h2⟩ := hc.conc.mem.blk j C hC
      rw [hρj] at h1; cases h1
      have hne := hc.conc.own.inj id j b 0 bj oj hm0 (fun e => hj e.symm) ⟨_, hid⟩ ⟨C, hC⟩ hρ hρj
      exact hbel.block bj ⟨h2.lt, fun e => hne e.symm⟩
    have hilt : id < f.mem.length := (List.getElem?_eq_some_iff.1 hid).1
    have hsame : ∀ (j : Nat) (C : Blk), (f.mem.set id (some (.cols n' cs')))[j]? = some (some C) → ∃ C' : Blk, f.mem[j]? = some (some C') := by
      intro j C hC
      by_cases hj : j = id
      · subst hj; exact ⟨_, hid⟩
      · rw [List.getElem?_set_ne (fun e => hj e.symm)] at hC; exact ⟨C, hC⟩
    refine hh ρ _ w' (ConcF.put (f := { sl := f.sl, mem := f.mem.set id (some (.cols n' cs')) }) ⟨⟨hc.conc.defers, anySlots _ _, ⟨fun z hz => hc.conc.mem.dom z (by simpa using hz), fun j C hC => ?_⟩, ⟨fun j C hj hC => ?_, fun i j bi oi bj oj hi hij hCi hCj h1 h2 => ?_⟩,
      hc.conc.below.trans ⟨hbel.os, hbel.tape, hbel.output, hbel.size, fun k hk => hbel.block k ⟨hc.conc.size k hk, fun e => hBb (e ▸ hk)⟩⟩, fun k hk => Nat.lt_of_lt_of_le (hc.conc.size k hk) hbel.size, hc.conc.keep, ?_⟩, hc.nle, hc.slots⟩ o.dst hd (plainA_rel hp hv'))
    · by_cases hj : j = id
      · subst hj
        have hC' : (f.mem.set j (some (.cols n' cs')))[j]? = some (some C) := hC
        rw [List.getElem?_set_self hilt] at hC'
        cases hC'
        exact ⟨b, 0, hρ, colsB_at hb'⟩
      · have hC' : (f.mem.set id (some (.cols n' cs')))[j]? = some (some C) := hC
        rw [List.getElem?_set_ne (fun e => hj e.symm)] at hC'
        obtain ⟨b3, o3, h1, h2⟩ := hc.conc.mem.blk j C hC'
        exact ⟨b3, o3, h1, h2.mono (Rho.le_refl ρ) (hoth j C b3 o3 hj hC' h1)⟩
    · by_cases hji : j = id
      · subst hji; exact ⟨b, hρ, hBb, hown'⟩
      · have hC' : (f.mem.set id (some (.cols n' cs')))[j]? = some (some C) := hC
        rw [List.getElem?_set_ne (fun e => hji e.symm)] at hC'
        obtain ⟨b3, h1, h2, h3⟩ := hc.conc.own.low j C hj hC'
        exact ⟨b3, h1, h2, h3.of (hoth j C b3 0 hji hC' h1)⟩
    · obtain ⟨Ci, hCi⟩ := hCi
      obtain ⟨Cj, hCj⟩ := hCj
      exact hc.conc.own.inj i j bi oi bj oj hi hij (hsame i Ci hCi) (hsame j Cj hCj) h1 h2
    · have h8 : m0 ≤ f.mem.length := hc.conc.len
      show m0 ≤ (f.mem.set id (some (.cols n' cs'))).length
      rw [List.length_set]; exact h8)
  have he : execOp a.eval o = callFunc ct.f (c.args.map a.eval) := by
    unfold execOp; rw [ho]
    simp only [resolve, hcv, hv, Deferred.ofValue]
    show Sem.bind _ _ = _
    simp [Sem.bind, invoke, pure]
  unfold Oper.wp
  rw [he]; exact hk

def dstB (n : Nat) (o : Oper) : Bool := match o.dst with
  | some d => Nat.blt d n
  | none => true

theorem dstB_ok {n : Nat} {o : Oper} (h : dstB n o = true) : ∀ d, o.dst = some d → d < n := by
  intro d hd
  unfold dstB at h
  rw [hd] at h
  exact Nat.blt_eq.mp h

def dstsB (n : Nat) : List Oper → Bool
  | [] => true
  | o :: l => dstB n o && dstsB n l

theorem dstsB_mem {n : Nat} (l : List Oper) (h : dstsB n l = true) (o : Oper) (ho : o ∈ l) : dstB n o = true := by
  induction l with
  | nil => exact absurd ho (by simp)
  | cons p l ih =>
    have h' : dstB n p = true ∧ dstsB n l = true := (Bool.and_eq_true _ _).mp h
    rcases List.mem_cons.1 ho with e | e
    · rw [e]; exact h'.1
    · exact ih h'.2 e

theorem evOpF_ok {P : Program} {env : List (Ctr P)} {n : Nat} {B : Nat → Prop} {m0 : Nat} {w0 : World} {ρ0 : Rho} {ρ : Rho} {a : Act} {w : World} {f : FSt} {o : Oper} {K : Act → World → Prop} {Q : Exit → Act → World → Prop} (hc : ConcF n B m0 w0 ρ0 ρ a w f) (hd : ∀ d, o.dst = some d → d < n)
    (h : (evOpF P env m0 o f).holds fun f' => ∀ ρ' a' w', ConcF n B m0 w0 ρ0 ρ' a' w' f' → K a' w') : o.wp P a w K Q := by
  unfold evOpF at h
  split at h
  · rename_i t x v ho
    split at h <;> try exact h.elim
    rename_i p cells hp hcells
    have hx := lkF_ok hc x
    rw [hp] at hx
    obtain ⟨w', hr, hk⟩ := evStore_ok hc.conc.mem hc.conc.own t hx (AV.cells_ok hcells (lkF_ok hc v)) (fun w' => K (a.put o.dst undef) w')
      (T.holds_mono (T.holds_bind h) fun mem' hh w' h1 h2 h3 h4 h5 => by
        refine hh ρ _ w' ?_
        refine ConcF.put (f := { f with mem := mem' }) ⟨⟨hc.conc.defers, hc.conc.slots, h1, h2, hc.conc.below.trans h3, fun k hk => by rw [h4]; exact hc.conc.size k hk, hc.conc.keep, by have e : mem'.length = f.mem.length := h5; have h6 : m0 ≤ f.mem.length := hc.conc.len; show m0 ≤ mem'.length; omega⟩, hc.nle, hc.slots⟩ o.dst hd (r := .und) rfl)
    unfold Oper.wp
    have he : execOp a.eval o = (do Instr.storeAt t (a.eval x) (a.eval v); pure .skip) := by unfold execOp; rw [ho] <;> rfl
    rw [he, Sem.run_bind, hr]
    exact hk
  · split at h
    · rename_i r hr
      exact evSp_ok hc hd hr h
    split at h
    · rename_i r hr
      exact evWr_ok hc hd hr h
    · exact evQ_ok hc.conc.mem (lkF_ok hc) (T.holds_mono (T.holds_bind h) fun r hh ρ' w' v hn hv => hh ρ' _ w' ((hc.new hn).put o.dst hd hv))

def evOpsF (P : Program) (env : List (Ctr P)) (m0 : Nat) (ops : Array Oper) : List Oper → FSt → T FSt
  | [], f => .leaf f
  | o :: rest, f =>
    match o.guard with
    | none => (evOpF P env m0 o f).bind (evOpsF P env m0 ops rest)
    | some (g, want) =>
      match guardSlot ops g with
      | none => evOpsF P env m0 ops rest { f with sl := putF f.sl o.dst .und }
      | some t =>
        match findF t f.sl with
        | .one (.tt b) => match b == want with
          | true => (evOpF P env m0 o f).bind (evOpsF P env m0 ops rest)
          | false => evOpsF P env m0 ops rest { f with sl := putF f.sl o.dst .und }
        | .one (.bo c) => .ite c
            (match true == want with
              | true => (evOpF P env m0 o { f with sl := (t, .one (.tt true)) :: f.sl }).bind (evOpsF P env m0 ops rest)
              | false => evOpsF P env m0 ops rest { f with sl := putF ((t, .one (.tt true)) :: f.sl) o.dst .und })
            (match false == want with
              | true => (evOpF P env m0 o { f with sl := (t, .one (.tt false)) :: f.sl }).bind (evOpsF P env m0 ops rest)
              | false => evOpsF P env m0 ops rest { f with sl := putF ((t, .one (.tt false)) :: f.sl) o.dst .und })
        | .und => evOpsF P env m0 ops rest { f with sl := putF f.sl o.dst .und }
        | _ => .fail

theorem ConcF.known {n : Nat} {B : Nat → Prop} {m0 : Nat} {w0 : World} {ρ0 ρ : Rho} {a : Act} {w : World} {f : FSt} (h : ConcF n B m0 w0 ρ0 ρ a w f) {t : Nat} {c b : Bool} (hb : findF t f.sl = .one (.bo c)) (hc : c = b) : ConcF n B m0 w0 ρ0 ρ a w { f with sl := (t, .one (.tt b)) :: f.sl } := by
  refine ⟨h.conc, h.nle, fun u => ?_⟩
  show AV.rel ρ (findF u ((t, .one (.tt b)) :: f.sl)) _
  cases hu : Nat.beq t u with
  | true =>
    have := Nat.eq_of_beq_eq_true hu
    subst this
    simp only [findF, hu]
    have := h.slots t
    rw [hb] at this
    subst hc; exact this
  | false => simp only [findF, hu]; exact h.slots u

theorem evOpsF_ok {P : Program} {env : List (Ctr P)} {n : Nat} {B : Nat → Prop} {m0 : Nat} {w0 : World} {ρ0 : Rho} {ops : Array Oper} {Q : Exit → Act → World → Prop} : ∀ (l : List Oper) {ρ : Rho} {a : Act} {w : World} {f : FSt}, dstsB n l = true → ConcF n B m0 w0 ρ0 ρ a w f →
    ((evOpsF P env m0 ops l f).holds fun f' => ∀ ρ' a' w', ConcF n B m0 w0 ρ0 ρ' a' w' f' → Q .normal a' w') → wpList P ops Q l a w
  | [], ρ, a, w, f, _, hc, h => h ρ a w hc
  | o :: rest, ρ, a, w, f, hds, hc, h => by
    have hds : dstB n o = true ∧ dstsB n rest = true := (Bool.and_eq_true _ _).mp hds
    have hd := dstB_ok hds.1
    have run : ∀ {f : FSt}, ConcF n B m0 w0 ρ0 ρ a w f → Region.wanted o (yielded ops a.tmps) = true → (((evOpF P env m0 o f).bind (evOpsF P env m0 ops rest)).holds fun f' => ∀ ρ' a' w', ConcF n B m0 w0 ρ0 ρ' a' w' f' → Q .normal a' w') → wpList P ops Q (o :: rest) a w := by
      intro f hc hw h
      unfold wpList
      rw [if_pos hw]
      exact .inl (evOpF_ok hc hd (T.holds_mono (T.holds_bind h) fun f' hh ρ' a' w' hc' => evOpsF_ok rest hds.2 hc' hh))
    have skip : ∀ {f : FSt}, ConcF n B m0 w0 ρ0 ρ a w f → Region.wanted o (yielded ops a.tmps) = false → ((evOpsF P env m0 ops rest { f with sl := putF f.sl o.dst .und }).holds fun f' => ∀ ρ' a' w', ConcF n B m0 w0 ρ0 ρ' a' w' f' → Q .normal a' w') → wpList P ops Q (o :: rest) a w := by
      intro f hc hw h
      unfold wpList
      rw [if_neg (by rw [hw]; exact Bool.false_ne_true)]
      exact evOpsF_ok rest hds.2 (hc.put o.dst hd (r := .und) rfl) h
    unfold evOpsF at h
    split at h
    · rename_i hg
      exact run hc (by simp [Region.wanted, hg]) h
    · rename_i g want hg
      split at h
      · rename_i hgs
        exact skip hc (by simp [Region.wanted, hg, yielded_none hgs]) h
      · rename_i t hgs
        have hgt := hc.slots t
        split at h
        · rename_i b hb
          rw [hb] at hgt
          have hy := yielded_bool hgs hgt
          split at h
          · rename_i hbw; exact run hc (by simp [Region.wanted, hg, hy]; simpa using hbw) h
          · rename_i hbw; exact skip hc (by simp [Region.wanted, hg, hy]; simpa using hbw) h
        · rename_i c hb
          rw [hb] at hgt
          cases hcv : c with
          | true =>
            have h := h.1 hcv
            have hc' := hc.known hb hcv
            have hy := yielded_bool (b := true) hgs (by rw [← hcv]; exact hgt)
            split at h
            · rename_i hbw; exact run hc' (by simp [Region.wanted, hg, hy]; simpa using hbw) h
            · rename_i hbw; exact skip hc' (by simp [Region.wanted, hg, hy]; simpa using hbw) h
          | false =>
            have h := h.2 hcv
            have hc' := hc.known hb hcv
            have hy := yielded_bool (b := false) hgs (by rw [← hcv]; exact hgt)
            split at h
            · rename_i hbw; exact run hc' (by simp [Region.wanted, hg, hy]; simpa using hbw) h
            · rename_i hbw; exact skip hc' (by simp [Region.wanted, hg, hy]; simpa using hbw) h
        · rename_i hb
          rw [hb] at hgt
          exact skip hc (by simp [Region.wanted, hg, yielded_und hgs hgt]) h
        · exact h.elim

/-! ### A drawn region in which a load or a plain move may come before or behind a store to another block: the order of the text -/

def srcQ : Op → Bool
  | .move _ => true
  | .assign _ => true
  | .extract _ _ => true
  | .load _ _ => true
  | _ => false

/-- Each later operation waits for one that is not done. -/
def onlyK (k : Nat) (rest : List Oper) : Bool := rest.all fun p => p.after.toList.any fun e => Region.binds .any e && Nat.ble k e.on

/-- Each later operation waits for this one, or is apart from it. -/
def apartK (ops : Array Oper) (k : Nat) (o : Oper) (rest : List Oper) : Bool := rest.all fun p => (p.after.toList.any fun e => Region.binds .any e && Nat.beq e.on k) || o.apart ops p

def selB (l : List Oper) : Bool := l.all fun o => match o.op with
  | .select .. => false
  | _ => true

/-- What a plain operation gives, whatever is stored into the blocks of 'Y'. -/
def evEag (P : Program) (Y : List Nat) (M : Mem) (f : FSt) : Op → T AV
  | .move x => .leaf (lkF f x)
  | .assign x => .leaf (lkF f x)
  | .extract x i => evExtract (lkF f x) i
  | .load t x => match lkF f x with
    | .one (.ptr id sz i j) => match inNs id Y, M[id]? with
      | false, some (some _) => match f.mem[id]? with
        | some (some _) => evLoad P f.mem t (.ptr id sz i j)
        | _ => .fail
      | _, _ => .fail
    | _ => .fail
  | _ => .fail

def storeName (f : FSt) : Op → Option Nat
  | .store _ x _ => match lkF f x with
    | .one (.ptr id _ _ _) => some id
    | _ => none
  | _ => none

def evLate (P : Program) (env : List (Ctr P)) (m0 : Nat) (ops : Array Oper) (Y : List Nat) (M : Mem) : List Oper → Nat → FSt → T FSt
  | [], _, f => .leaf f
  | o :: rest, k, f =>
    match o.guard with
    | some _ => .fail
    | none =>
      match onlyK k rest with
      | false => match apartK ops k o rest with
        | true => (evEag P Y M f o.op).bind fun r => evLate P env m0 ops Y M rest (k + 1) { f with sl := putF f.sl o.dst r }
        | false => .fail
      | true => match storeName f o.op with
        | some id => match inNs id Y, M[id]? with
          | true, some (some _) => (evOpF P env m0 o f).bind (evLate P env m0 ops Y M rest (k + 1))
          | _, _ => .fail
        | none => (evQ P env (lkF f) f.mem o.op).bind fun r => evLate P env m0 ops Y M rest (k + 1) { sl := putF f.sl o.dst r.1, mem := f.mem ++ r.2 }

/-- The names of the blocks that are stored into. -/
def storesY (f : FSt) : List Oper → List Nat
  | [] => []
  | o :: l => match storeName f o.op with
    | some id => id :: storesY f l
    | none => storesY f l

theorem inNs_mem {k : Nat} : ∀ {l : List Nat}, inNs k l = true → k ∈ l
  | [], h => by cases h
  | x :: l, h => by
    unfold inNs at h
    split at h
    · rename_i hb
      have := Nat.eq_of_beq_eq_true hb
      subst this
      exact List.Mem.head _
    · exact List.Mem.tail _ (inNs_mem h)

def ysB (m0 : Nat) (M : Mem) : List Nat → Bool
  | [] => true
  | id :: l => Nat.ble m0 id && (match M[id]? with
    | some (some _) => true
    | _ => false) && ysB m0 M l

theorem ysB_ok {m0 : Nat} {M : Mem} : ∀ {Y : List Nat}, ysB m0 M Y = true → ∀ id ∈ Y, m0 ≤ id ∧ ∃ C, M[id]? = some (some C)
  | [], _, id, h => by cases h
  | x :: l, h, id, hm => by
    unfold ysB at h
    simp only [Bool.and_eq_true] at h
    cases hm with
    | head =>
      refine ⟨Nat.le_of_ble_eq_true h.1.1, ?_⟩
      have h2 := h.1.2
      split at h2
      · rename_i C hC; exact ⟨C, hC⟩
      · cases h2
    | tail _ hm => exact ysB_ok h.2 id hm

/-- The blocks into which nothing is stored are as they were. -/
structure Held (N1 : Nat) (ρ1 : Rho) (Y : List Nat) (w1 w : World) : Prop where
  same : ∀ b, b < N1 → (∀ id ∈ Y, ∀ o, ρ1 id ≠ some (b, o)) → w.heap[b]? = w1.heap[b]?

theorem evLoad_all {P : Program} {ρ : Rho} {w : World} {mem : Mem} (hm : MemOK ρ w mem) (t : TypeId) {id sz i j : Nat} {u : Value} (hp : (SV.ptr id sz i j).rel ρ u) {S : World → Prop} (hS : ∀ b o, ρ id = some (b, o) → ∀ w', S w' → w'.heap[b]? = w.heap[b]?)
    (next : Value → Prop) (h : (evLoad P mem t (.ptr id sz i j)).holds fun r => ∀ v, r.rel ρ v → next v) : ∃ v, (∀ w', S w' → (Instr.loadAt t u).run P w' = .ok v w') ∧ next v := by
  unfold evLoad at h
  simp only [] at h
  split at h <;> try exact h.elim
  rename_i B hB
  split at h <;> try exact h.elim
  rename_i hsz
  split at h <;> try exact h.elim
  rename_i ti d hti hd
  obtain ⟨b, o, hρ, rfl⟩ := hp
  obtain ⟨b', o', hρ', c, e, fz, hheap, hcell, _⟩ := hm.blk id B hB
  rw [hρ] at hρ'; cases hρ'
  have hheapA : ∀ w', S w' → w'.heap[b]? = some (.cells c e fz) := fun w' hw' => (hS b o hρ w' hw').trans hheap
  have hrd : ∀ w', S w' → ∀ n, w'.cell? ⟨b, n, none⟩ = c[n]? := fun w' hw' n => cell_of_row w' b n c e fz (hheapA w' hw')
  have hrun : ∀ w', (Instr.loadAt t (.pointer (some ⟨b, o + (i * sz + j), none⟩))).run P w' = (loadVar t ⟨b, o + (i * sz + j), none⟩).run P w' := by
    intro w'
    simp [Instr.loadAt, Instr.sureAddr]
  split at h
  · rename_i hagg
    split at h <;> try exact h.elim
    rename_i hjs
    split at h <;> try exact h.elim
    rename_i hlen
    obtain ⟨hi', h⟩ := needI_holds h
    have hex : ∀ k, k < ti.size → ∃ v s, c[o + (i * sz + j) + k]? = some v ∧ (B.get i)[j + k]? = some s ∧ s.rel ρ v := by
      intro k hk
      obtain ⟨v, s, h1, h2, h3⟩ := hcell i hi' (j + k) (by omega)
      refine ⟨v, s, ?_, h2, h3⟩
      rw [← h1]; congr 1; rw [hsz]; omega
    let f : Nat → Value := fun k => (c[o + (i * sz + j) + k]?).getD undef
    refine ⟨.agg ((List.range ti.size).map f).toArray, fun w' hw' => ?_, h _ ⟨_, rfl, ?_⟩⟩
    · have hl := run_loadCells (P := P) w' ⟨b, o + (i * sz + j), none⟩ ti.size f (fun k hk => by
        obtain ⟨v, s, h1, _⟩ := hex k hk
        rw [add_lit, hrd w' hw', h1]; show _ = some ((c[_]?).getD undef); rw [h1]; rfl)
      rw [hrun]
      simp [loadVar, run_isAgg hd, hagg, run_sizeOf' hti, hl]
    · refine RelL.mk (by simpa using hlen) fun k s v h1 h2 => ?_
      have hk : k < ti.size := by
        have := (List.getElem?_eq_some_iff.1 h1).1
        omega
      obtain ⟨v', s', a1, a2, a3⟩ := hex k hk
      have e1 : s = s' := by
        rw [List.getElem?_take, if_pos hk, List.getElem?_drop, a2] at h1
        cases h1; rfl
      have e2 : v = v' := by
        simp [hk, f, a1] at h2
        exact h2.symm
      subst e1; subst e2; exact a3
  · rename_i hagg
    split at h <;> try exact h.elim
    rename_i hjs
    split at h <;> try exact h.elim
    rename_i s hs
    obtain ⟨hi', h⟩ := needI_holds h
    obtain ⟨v, s', h1, h2, h3⟩ := hcell i hi' j (by omega)
    rw [hs] at h2; cases h2
    refine ⟨v, fun w' hw' => ?_, h v h3⟩
    rw [hrun]
    have hagg' : isAggD d = false := by simpa using hagg
    have h1' : c[o + (i * sz + j)]? = some v := by rw [← hsz]; exact h1
    simp [loadVar, run_isAgg hd, hagg', hrd w' hw', h1']

/-- What holds between the start of the region and now. -/
structure Since (n : Nat) (B : Nat → Prop) (m0 : Nat) (w0 : World) (ρ0 ρ1 : Rho) (w1 : World) (M : Mem) (Y : List Nat) (ρ : Rho) (a : Act) (w : World) (f : FSt) : Prop where
  conc : ConcF n B m0 w0 ρ0 ρ a w f
  names : ∀ id, id < M.length → ρ id = ρ1 id
  len : M.length ≤ f.mem.length
  held : Held w1.heap.size ρ1 Y w1 w
  start : MemOK ρ1 w1 M
  own : Own B m0 ρ1 w1 M
  ys : ∀ id ∈ Y, m0 ≤ id ∧ ∃ C, M[id]? = some (some C)
  big : w1.heap.size ≤ w.heap.size

theorem eag_ok {P : Program} {n : Nat} {B : Nat → Prop} {m0 : Nat} {w0 : World} {ρ0 ρ1 : Rho} {w1 : World} {M : Mem} {Y : List Nat} {ρ : Rho} {a : Act} {w : World} {f : FSt} {o : Oper} {ops : Array Oper} (hg : o.guard = none) (hc : Since n B m0 w0 ρ0 ρ1 w1 M Y ρ a w f) (hd : ∀ d, o.dst = some d → d < n)
    {Φ : FSt → Prop} (h : (evEag P Y M f o.op).holds fun r => Φ { f with sl := putF f.sl o.dst r }) :
    ∃ v f', YieldsIf P ops (Held w1.heap.size ρ1 Y w1) o v a ∧ Since n B m0 w0 ρ0 ρ1 w1 M Y ρ (a.put o.dst v) w f' ∧ Φ f' := by
  have hw : Region.wanted o (yielded ops a.tmps) = true := by simp [Region.wanted, hg]
  have fin : ∀ {r : AV} {v : Value}, r.rel ρ v → Φ { f with sl := putF f.sl o.dst r } → (∀ w', Held w1.heap.size ρ1 Y w1 w' → (execOp a.eval o).run P w' = .ok (.value v) w') → ∃ v f', YieldsIf P ops (Held w1.heap.size ρ1 Y w1) o v a ∧ Since n B m0 w0 ρ0 ρ1 w1 M Y ρ (a.put o.dst v) w f' ∧ Φ f' :=
    fun hr hp hv => ⟨_, _, .inl ⟨hw, hv⟩, ⟨hc.conc.put o.dst hd hr, hc.names, hc.len, hc.held, hc.start, hc.own, hc.ys, hc.big⟩, hp⟩
  unfold evEag at h
  split at h
  · rename_i x ho
    exact fin (lkF_ok hc.conc x) h fun w' _ => by unfold execOp; rw [ho]; rfl
  · rename_i x ho
    exact fin (lkF_ok hc.conc x) h fun w' _ => by unfold execOp; rw [ho]; rfl
  · rename_i x i ho
    have hx := lkF_ok hc.conc x
    unfold evExtract at h
    split at h <;> try exact h.elim
    rename_i l hl
    split at h <;> try exact h.elim
    rename_i p hp
    rw [hl] at hx
    obtain ⟨vs, hvs, hl⟩ := hx
    obtain ⟨v, h1, h2⟩ := hl.get i p hp
    refine fin (v := v) (Pt.av_rel h2) h fun w' _ => ?_
    have h1' : vs[i]? = some v := by simpa using h1
    have he : execOp a.eval o = (do let u ← Instr.extract (a.eval x) i; pure (.value u)) := by unfold execOp; rw [ho] <;> rfl
    rw [he, Sem.run_bind, hvs]
    simp [Instr.extract, h1']
  · rename_i t x ho
    have hx := lkF_ok hc.conc x
    split at h <;> try exact h.elim
    rename_i id sz i j hp
    rw [hp] at hx
    split at h <;> try exact h.elim
    rename_i C hY hM
    split at h <;> try exact h.elim
    rename_i D hD
    have hx : (SV.ptr id sz i j).rel ρ (a.eval x) := hx
    obtain ⟨v, h1, hr', h2⟩ := evLoad_all (S := Held w1.heap.size ρ1 Y w1) hc.conc.conc.mem t hx (fun b q hb w' hw' => by
      have hidM : id < M.length := (List.getElem?_eq_some_iff.1 hM).1
      have hb1 : ρ1 id = some (b, q) := by rw [← hc.names id hidM]; exact hb
      have hno : ∀ id' ∈ Y, ∀ o', ρ1 id' ≠ some (b, o') := by
        intro id' hid' o' he
        obtain ⟨hm0, C', hC'⟩ := hc.ys id' hid'
        have hne : id' ≠ id := by
          intro e
          subst e
          rw [inNs_of hid'] at hY
          cases hY
        exact hc.own.inj id' id b o' b q hm0 hne ⟨C', hC'⟩ ⟨C, hM⟩ he hb1 rfl
      have hlt : b < w1.heap.size := by
        obtain ⟨b2, o2, k1, k2⟩ := hc.start.blk id C hM
        rw [hb1] at k1; cases k1
        exact k2.lt
      exact (hw'.same b hlt hno).trans (hc.held.same b hlt hno).symm) (fun v => ∃ r : AV, r.rel ρ v ∧ Φ { f with sl := putF f.sl o.dst r }) (T.holds_mono h fun r hr v hv => ⟨r, hv, hr⟩)
    refine fin h2.1 h2.2 fun w' hw' => ?_
    have he : execOp a.eval o = (do let u ← Instr.loadAt t (a.eval x); pure (.value u)) := by unfold execOp; rw [ho] <;> rfl
    rw [he, Sem.run_bind, h1 w' hw']
    rfl
  · exact h.elim

theorem needI_any {α β : Type} {B : Blk} {i : Nat} {a : α} {b : β} {Φ : α → Prop} {Ψ : β → Prop} (hΨ : Ψ b) (h : (needI B i (.leaf a)).holds Φ) : (needI B i (.leaf b)).holds Ψ := by
  unfold needI at h ⊢
  split at h
  · split at h
    · rename_i hi; rw [if_pos hi]; exact hΨ
    · exact h.elim
  · exact ⟨h.1, hΨ⟩
  · exact ⟨h.1, hΨ⟩
  · exact ⟨h.1, hΨ⟩

theorem evStore_any {P : Program} {m0 : Nat} {mem memR : Mem} {t : TypeId} {id sz i j : Nat} {cells : List SV} {Φ Ψ : Mem → Prop} (hR : memR[id]? = mem[id]?) (hΨ : ∀ m', Ψ m') (h : (evStore P m0 mem t (.ptr id sz i j) cells).holds Φ) : (evStore P m0 memR t (.ptr id sz i j) cells).holds Ψ := by
  unfold evStore at h ⊢
  simp only [] at h ⊢
  rw [hR]
  cases hm : mem[id]? with
  | none => rw [hm] at h; exact h.elim
  | some x =>
    cases x with
    | none => rw [hm] at h; exact h.elim
    | some C =>
      rw [hm] at h
      simp only [] at h ⊢
      split at h <;> try exact h.elim
      rename_i hm0
      rw [if_pos hm0]
      split at h <;> try exact h.elim
      rename_i hsz
      rw [if_pos hsz]
      cases ht : P.info? t with
      | none => rw [ht] at h; exact h.elim
      | some ti =>
        rw [ht] at h
        simp only [] at h ⊢
        split at h <;> try exact h.elim
        rename_i hlen
        rw [if_pos hlen]
        split at h <;> try exact h.elim
        rename_i hjl
        rw [if_pos hjl]
        exact needI_any (hΨ _) h

/-- Memory of which one block is known. -/
def onlyM (mem : Mem) (id : Nat) : Mem := (List.replicate mem.length none).set id ((mem[id]?).getD none)

theorem onlyM_get (mem : Mem) (id : Nat) (C : Blk) (h : mem[id]? = some (some C)) : (onlyM mem id)[id]? = mem[id]? := by
  have hlt := (List.getElem?_eq_some_iff.1 h).1
  unfold onlyM
  rw [List.getElem?_set_self (by simpa using hlt), h]
  rfl

theorem onlyM_some {mem : Mem} {id k : Nat} {C : Blk} (h : (onlyM mem id)[k]? = some (some C)) : k = id ∧ mem[k]? = some (some C) := by
  unfold onlyM at h
  by_cases hk : id = k
  · subst hk
    rw [List.getElem?_set] at h
    simp only [if_true] at h
    split at h
    · refine ⟨rfl, ?_⟩
      cases hm : mem[id]? with
      | none => rw [hm] at h; cases h
      | some x =>
        rw [hm] at h
        simp only [Option.getD_some, Option.some.injEq] at h
        rw [h]
    · cases h
  · rw [List.getElem?_set_ne hk, List.getElem?_replicate] at h
    split at h <;> cases h

theorem late_store {P : Program} {env : List (Ctr P)} {n : Nat} {B : Nat → Prop} {m0 : Nat} {w0 : World} {ρ0 ρ1 : Rho} {w1 : World} {M : Mem} {Y : List Nat} {ρ : Rho} {a : Act} {w : World} {f : FSt} {o : Oper} {id : Nat} {K : Act → World → Prop} {Q : Exit → Act → World → Prop}
    (hc : Since n B m0 w0 ρ0 ρ1 w1 M Y ρ a w f) (hd : ∀ d, o.dst = some d → d < n) (hs : storeName f o.op = some id) (hY : inNs id Y = true) {C1 : Blk} (hM : M[id]? = some (some C1))
    (h : (evOpF P env m0 o f).holds fun f' => ∀ ρ' a' w', Since n B m0 w0 ρ0 ρ1 w1 M Y ρ' a' w' f' → K a' w') : o.wp P a w K Q := by
  unfold evOpF at h
  split at h
  · rename_i t x v ho
    rw [ho] at hs
    unfold storeName at hs
    simp only [] at hs
    split at h <;> try exact h.elim
    rename_i p cells hp hcells
    have hx := lkF_ok hc.conc x
    rw [hp] at hx hs
    split at hs
    · rename_i id' sz i j hp'
      cases hs
      cases hp'
      have hidM : id < M.length := (List.getElem?_eq_some_iff.1 hM).1
      have hYm : id ∈ Y := inNs_mem hY
      have hmem := T.holds_bind h
      have hx : (SV.ptr id sz i j).rel ρ (a.eval x) := hx
      -- the block is known now
      have hB : ∃ C, f.mem[id]? = some (some C) := by
        unfold evStore at hmem
        simp only [] at hmem
        split at hmem <;> try exact hmem.elim
        rename_i C hC
        exact ⟨C, hC⟩
      obtain ⟨C, hC⟩ := hB
      -- a second look: which blocks stay
      have hOwnR : Own (fun b => b < w1.heap.size ∧ ∀ q ∈ Y, ∀ o', ρ1 q ≠ some (b, o')) m0 ρ w (onlyM f.mem id) := by
        refine ⟨fun k C' hk hC' => ?_, fun k l bk ok bl ol hk hkl h1 h2 _ _ => ?_⟩
        · obtain ⟨rfl, hC2⟩ := onlyM_some hC'
          obtain ⟨b, e1, e2, e3⟩ := hc.conc.conc.own.low k C' hk hC2
          refine ⟨b, e1, fun hh => ?_, e3⟩
          exact hh.2 k hYm 0 (by rw [← hc.names k hidM]; exact e1)
        · obtain ⟨C1, h1⟩ := h1
          obtain ⟨C2, h2⟩ := h2
          obtain ⟨rfl, _⟩ := onlyM_some h1
          obtain ⟨rfl, _⟩ := onlyM_some h2
          exact absurd rfl hkl
      have hMemR : MemOK ρ w (onlyM f.mem id) := by
        refine ⟨fun k hk => hc.conc.conc.mem.dom k (by simpa [onlyM] using hk), fun k C' hC' => ?_⟩
        obtain ⟨rfl, hC2⟩ := onlyM_some hC'
        exact hc.conc.conc.mem.blk k C' hC2
      obtain ⟨w2, hr2, hbel⟩ := evStore_ok hMemR hOwnR t hx (AV.cells_ok hcells (lkF_ok hc.conc v)) (fun w' => Bel (fun b => b < w1.heap.size ∧ ∀ q ∈ Y, ∀ o', ρ1 q ≠ some (b, o')) w w')
        (evStore_any (onlyM_get f.mem id C hC) (fun m' w' _ _ hb _ _ => hb) hmem)
      obtain ⟨w', hr, hk⟩ := evStore_ok hc.conc.conc.mem hc.conc.conc.own t hx (AV.cells_ok hcells (lkF_ok hc.conc v)) (fun w' => w' = w2 → K (a.put o.dst undef) w')
        (T.holds_mono hmem fun mem' hh w' h1 h2 h3 h4 h5 hw2 => by
          refine hh ρ _ w' ⟨?_, hc.names, by have e : mem'.length = f.mem.length := h5; have := hc.len; show M.length ≤ mem'.length; omega, ⟨fun b hb hno => ?_⟩, hc.start, hc.own, hc.ys, by rw [h4]; exact hc.big⟩
          · refine ConcF.put (f := { f with mem := mem' }) ⟨⟨hc.conc.conc.defers, hc.conc.conc.slots, h1, h2, hc.conc.conc.below.trans h3, fun k hk => by rw [h4]; exact hc.conc.conc.size k hk, hc.conc.conc.keep, by have e : mem'.length = f.mem.length := h5; have h6 : m0 ≤ f.mem.length := hc.conc.conc.len; show m0 ≤ mem'.length; omega⟩, hc.conc.nle, hc.conc.slots⟩ o.dst hd (r := .und) rfl
          · subst hw2
            rw [hbel.block b ⟨hb, hno⟩]
            exact hc.held.same b hb hno)
      rw [hr2] at hr
      cases hr
      unfold Oper.wp
      have he : execOp a.eval o = (do Instr.storeAt t (a.eval x) (a.eval v); pure .skip) := by unfold execOp; rw [ho] <;> rfl
      rw [he, Sem.run_bind, hr2]
      exact hk rfl
    · cases hs
  · rename_i hno
    unfold storeName at hs
    split at hs
    · rename_i t x v ho
      exact absurd ho (hno t x v)
    · cases hs

theorem evLate_ok {P : Program} {env : List (Ctr P)} {n : Nat} {B : Nat → Prop} {m0 : Nat} {w0 : World} {ρ0 ρ1 : Rho} {w1 : World} {M : Mem} {Y : List Nat} {ops : Array Oper} {ms : List Nat} {Q : Exit → Act → World → Prop} (hk : DOK ms n ops.toList) (hsel : selB ops.toList = true) :
    ∀ (rest : List Oper) (k fuel : Nat) (listed : Array Bool) (ρ : Rho) (a : Act) (w : World) (f : FSt), ops.toList.drop k = rest → k + rest.length = ops.size → listed.size = ops.size → (∀ i, i < ops.size → listed.getD i false = decide (i < k)) → rest.length ≤ fuel → dstsB n rest = true →
      Since n B m0 w0 ρ0 ρ1 w1 M Y ρ a w f → ((evLate P env m0 ops Y M rest k f).holds fun f' => ∀ ρ' a' w', ConcF n B m0 w0 ρ0 ρ' a' w' f' → Q .normal a' w') →
      wpAnyH P .any ops (fun e a w => e = .normal ∧ Q .normal a w) (Held w1.heap.size ρ1 Y w1) fuel listed a w
  | [], k, fuel, listed, ρ, a, w, f, hdrop, hlen, hsz, hl, hfu, hds, hc, h => by
    have hr : Region.ready .any ops listed = [] := by
      rw [List.eq_nil_iff_forall_not_mem]
      intro i hi
      obtain ⟨h1, h2, _⟩ := ready_mem hi
      have := hl i h1
      have h3 : listed.getD i false = true := by rw [this]; simp at hlen; exact decide_eq_true (by omega)
      have hi' : i < listed.size := by omega
      simp [Array.getD, hi'] at h2 h3
      rw [h2] at h3; cases h3
    exact wpAnyH_done hr ⟨rfl, h ρ a w hc.conc⟩ fuel
  | o :: rest, k, fuel, listed, ρ, a, w, f, hdrop, hlen, hsz, hl, hfu, hds, hc, h => by
    cases fuel with
    | zero => simp at hfu
    | succ fuel =>
      have hds : dstB n o = true ∧ dstsB n rest = true := (Bool.and_eq_true _ _).mp hds
      have hd := dstB_ok hds.1
      have hks : k < ops.size := by simp at hlen; omega
      have hok : ops[k]? = some o := by
        have := congrArg (fun l => l[0]?) hdrop
        simp at this
        simpa using this
      have hnext : ops.toList.drop (k + 1) = rest := by
        have := congrArg (List.drop 1) hdrop
        simpa using this
      have hun : ∀ i, i < ops.size → listed.getD i true = false → k ≤ i := by
        intro i hi h2
        have h3 := hl i hi
        have hi' : i < listed.size := by omega
        simp [Array.getD, hi'] at h2 h3
        rw [h2] at h3
        have : ¬ i < k := fun hh => by simp [hh] at h3
        omega
      have inrest : ∀ j p, ops[j]? = some p → k < j → p ∈ rest := by
        intro j p hj hkj
        have hj2 : ops.toList[j]? = some p := by simpa using hj
        rw [← hnext]
        have : (ops.toList.drop (k + 1))[j - (k + 1)]? = some p := by
          rw [List.getElem?_drop, show k + 1 + (j - (k + 1)) = j by omega]; exact hj2
        exact List.mem_of_getElem? this
      have hfull : ∀ q, q < ops.size → (listed.setIfInBounds k true).getD q false = decide (q < k + 1) := by
        intro q hq
        have hq' : q < listed.size := by omega
        have h0 := hl q hq
        simp only [Array.getD_eq_getD_getElem?, Array.getElem?_setIfInBounds] at h0 ⊢
        by_cases hqi : k = q
        · subst hqi; simp [hq']
        · rw [if_neg hqi, h0]
          exact decide_eq_decide.2 (by omega)
      have hready : k ∈ Region.ready .any ops listed := by
        rw [mem_ready]
        refine ⟨?_, o, hok, fun e he hb => ?_⟩
        · have h0 := hl k hks
          have hk' : k < listed.size := by omega
          simp [Array.getD, hk'] at h0 ⊢
          exact h0
        · have := hk.less k o e (by simpa using hok) he hb
          rw [hl e.on (by omega)]
          exact decide_eq_true this
      have hwant : o.guard = none → Region.wanted o (yielded ops a.tmps) = true := fun hg => by simp [Region.wanted, hg]
      unfold evLate at h
      split at h <;> try exact h.elim
      rename_i hg
      split at h
      · rename_i hon
        split at h <;> try exact h.elim
        rename_i hap
        obtain ⟨v, f', hy, hc', hΦ⟩ := eag_ok (ops := ops) (Φ := fun f' => (evLate P env m0 ops Y M rest (k + 1) f').holds fun f' => ∀ ρ' a' w', ConcF n B m0 w0 ρ0 ρ' a' w' f' → Q .normal a' w') hg hc hd (T.holds_bind h)
        refine wpAnyH_first hok (fun j p cs b hj he => ?_) (fun c a w hh => by cases hh.1) fuel listed a w (fun j p hj hjk hjl hno => ?_) hready hy hc.held (evLate_ok hk hsel rest (k + 1) fuel _ ρ _ w f' hnext (by simp at hlen; omega) (by simpa using hsz) hfull (by simp at hfu; omega) hds.2 hc' hΦ)
        · unfold selB at hsel
          have hpm : p ∈ ops.toList := by
            have : ops.toList[j]? = some p := by simpa using hj
            exact List.mem_of_getElem? this
          have := List.all_eq_true.1 hsel p hpm
          rw [he] at this
          cases this
        · have hjs : j < ops.size := (Array.getElem?_eq_some_iff.1 hj).1
          have hge := hun j hjs hjl
          have hp := List.all_eq_true.1 hap p (inrest j p hj (by omega))
          rcases Bool.or_eq_true _ _ ▸ hp with h1 | h1
          · obtain ⟨e, he, hbe⟩ := List.any_eq_true.1 h1
            simp only [Bool.and_eq_true] at hbe
            exact absurd (Nat.eq_of_beq_eq_true hbe.2) (hno e (by simpa using he) hbe.1)
          · exact h1
      · rename_i hon
        have only : ∀ i ∈ Region.ready .any ops listed, i = k := by
          intro i hi
          obtain ⟨h1, h2, p, hp, haft⟩ := ready_mem hi
          have hge := hun i h1 h2
          by_cases hik : i = k
          · exact hik
          · exfalso
            have hq := List.all_eq_true.1 hon p (inrest i p hp (by omega))
            obtain ⟨e, he, hbe⟩ := List.any_eq_true.1 hq
            simp only [Bool.and_eq_true] at hbe
            have hl1 := haft e (by simpa using he) hbe.1
            have hlt := hk.less i p e (by simpa using hp) (by simpa using he) hbe.1
            have h7 := hl e.on (by omega)
            rw [hl1] at h7
            have hek : e.on < k := by simpa using h7.symm
            have := Nat.le_of_ble_eq_true hbe.2
            omega
        have step : ∀ {f' : FSt} {ρ' : Rho} {a' : Act} {w' : World}, Since n B m0 w0 ρ0 ρ1 w1 M Y ρ' a' w' f' → ((evLate P env m0 ops Y M rest (k + 1) f').holds fun f' => ∀ ρ' a' w', ConcF n B m0 w0 ρ0 ρ' a' w' f' → Q .normal a' w') →
            Held w1.heap.size ρ1 Y w1 w' ∧ wpAnyH P .any ops (fun e a w => e = .normal ∧ Q .normal a w) (Held w1.heap.size ρ1 Y w1) fuel (listed.setIfInBounds k true) a' w' :=
          fun hc' h' => ⟨hc'.held, evLate_ok hk hsel rest (k + 1) fuel _ _ _ _ _ hnext (by simp at hlen; omega) (by simpa using hsz) hfull (by simp at hfu; omega) hds.2 hc' h'⟩
        refine ⟨fun hr => (by rw [hr] at hready; cases hready), fun i hi => ?_⟩
        obtain rfl := only i hi
        unfold wpOp
        simp only [hok]
        rw [if_pos (hwant hg)]
        refine .inl ?_
        split at h
        · rename_i id hsn
          split at h <;> try exact h.elim
          rename_i C hY hM
          exact late_store hc hd hsn hY hM (T.holds_mono (T.holds_bind h) fun f' hh ρ' a' w' hc' => step hc' hh)
        · refine evQ_ok hc.conc.conc.mem (lkF_ok hc.conc) (T.holds_mono (T.holds_bind h) fun r hh ρ' w' v hn hv => ?_)
          refine step ⟨(hc.conc.new hn).put o.dst hd hv, fun id hid => ?_, ?_, ⟨fun b hb hno => ?_⟩, hc.start, hc.own, hc.ys, Nat.le_trans hc.big hn.below.size⟩ hh
          · rw [hn.keep id (Nat.lt_of_lt_of_le hid hc.len)]; exact hc.names id hid
          · have := hc.len
            simp
            omega
          · rw [hn.below.block b (Nat.lt_of_lt_of_le hb hc.big)]
            exact hc.held.same b hb hno

/-! ### A drawn region -/

def FSt.ds (f : FSt) (n : Nat) : DS := ⟨fun t => findF t f.sl, n, f.mem⟩

def pushF : List Oper → List Res → List (Nat × AV) → List (Nat × AV)
  | o :: os, r :: rs, sl => pushF os rs (putF sl o.dst r.1)
  | _, _, sl => sl

theorem pushF_get (t : Nat) : ∀ (os : List Oper) (rs : List Res) (sl : List (Nat × AV)), rs.length = os.length →
    (findF t (pushF os rs sl) = findF t sl ∧ ∀ o ∈ os, o.dst ≠ some t) ∨ ∃ (i : Nat) (o : Oper) (r : Res), os[i]? = some o ∧ rs[i]? = some r ∧ o.dst = some t ∧ findF t (pushF os rs sl) = r.1
  | [], rs, sl, h => by
    cases rs with
    | nil => exact .inl ⟨rfl, fun o h => by cases h⟩
    | cons r rs => simp at h
  | o :: os, [], sl, h => by simp at h
  | o :: os, r :: rs, sl, h => by
    rcases pushF_get t os rs (putF sl o.dst r.1) (by simpa using h) with ⟨h1, h2⟩ | ⟨i, p, q, h1, h2, h3, h4⟩
    · rcases findF_put sl o.dst r.1 t with ⟨k1, k2⟩ | ⟨k1, k2⟩
      · exact .inr ⟨0, o, r, rfl, rfl, k1, h1.trans k2⟩
      · refine .inl ⟨h1.trans k2, fun p hp => ?_⟩
        cases hp with
        | head => exact k1
        | tail _ hp => exact h2 p hp
    · exact .inr ⟨i + 1, p, q, by simpa using h1, by simpa using h2, h3, h4⟩

def isStore : Op → Bool
  | .store .. => true
  | _ => false

def lateB (ops : Array Oper) : Bool := (preQ ops.toList).any fun o => isStore o.op

def firstSt : List Oper → Nat
  | [] => 0
  | o :: l => match isStore o.op with
    | true => 0
    | false => firstSt l + 1

def flE (l : List Oper) (K : Nat) (i : Nat) : Bool := Nat.blt i K && (match l[i]? with
  | some o => fltB o
  | none => false)

def flFull (ms : List Nat) (l : List Oper) (K : Nat) : Bool := (List.range l.length).all fun j => Nat.blt j K || (List.range j).all fun i => flE l K i || (ms.getD j 0).testBit i

def flApart (ops : Array Oper) (l : List Oper) (K : Nat) : Bool := (List.range l.length).all fun j => match l[j]? with
  | some p => (List.range K).all fun e => !flE l K e || (Nat.beq j e || ((Nat.blt j K && !flE l K j) || ((p.after.toList.any fun ed => Region.binds .any ed && Nat.beq ed.on e) || (match l[e]? with
    | some oe => oe.apart ops p
    | none => true))))
  | none => true

def partF (P : Program) (n : Nat) (env : List (Ctr P)) (m0 : Nat) (ops : Array Oper) (pre post : List Oper) (f : FSt) : T FSt :=
  (evD P env pre (masks ops.toList) (f.ds n) pre 0 []).bind fun F =>
    evOpsF P env m0 ops post { sl := pushF pre F f.sl, mem := f.mem ++ memGo (fun _ => true) 0 F }

def evDrawF (P : Program) (n : Nat) (env : List (Ctr P)) (m0 : Nat) (ops : Array Oper) (f : FSt) : T FSt :=
  if lateB ops then
    if dOK (masks ops.toList) n 0 ops.toList [] && (selB ops.toList && (flFull (masks ops.toList) ops.toList (firstSt ops.toList) && flApart ops ops.toList (firstSt ops.toList))) then
      partF P n env m0 ops (ops.toList.take (firstSt ops.toList)) (ops.toList.drop (firstSt ops.toList)) f
    else if dOK (masks ops.toList) n 0 ops.toList [] && selB ops.toList && ysB m0 f.mem (storesY f ops.toList) then
      evLate P env m0 ops (storesY f ops.toList) f.mem ops.toList 0 f
    else .fail
  else if dOK (masks ops.toList) n 0 ops.toList [] && fullFrom (masks ops.toList) (preQ ops.toList).length (postQ ops.toList).length then
    partF P n env m0 ops (preQ ops.toList) (postQ ops.toList) f
  else .fail

theorem dstsB_of {n : Nat} : ∀ {l : List Oper}, (∀ o ∈ l, dstB n o = true) → dstsB n l = true
  | [], _ => rfl
  | o :: l, h => by
    exact (Bool.and_eq_true _ _).mpr ⟨h o (List.Mem.head _), dstsB_of fun p hp => h p (List.Mem.tail _ hp)⟩

theorem partF_ok {P : Program} (hmix : P.follows .mixedOrders = true) {env : List (Ctr P)} {n : Nat} {B : Nat → Prop} {m0 : Nat} {w0 : World} {ρ0 ρ : Rho} {a : Act} {w : World} {f : FSt} (hc : ConcF n B m0 w0 ρ0 ρ a w f) (id : Nat) (ops : Array Oper) (hds : dstsB n ops.toList = true) (Q : Exit → Act → World → Prop)
    (pre post : List Oper) (hsplit : ops.toList = pre ++ post) (hdok : dOK (masks ops.toList) n 0 ops.toList [] = true) (E : Nat → Bool)
    (hfull : ∀ j i, pre.length ≤ j → j < ops.size → i < j → (i < pre.length → E i = false) → ((masks ops.toList).getD j 0).testBit i = true)
    (hE : ∀ i o, pre[i]? = some o → E i = true → fltB o = true)
    (hap : ∀ e oe j oj, E e = true → pre[e]? = some oe → ops[j]? = some oj → j ≠ e → ((j < pre.length ∧ E j = true) ∨ pre.length ≤ j) → (∀ ed ∈ oj.after, Region.binds .any ed = true → ed.on ≠ e) → oe.apart ops oj = true)
    (hQp : ∀ e, E e = true → (∀ c a w, Q (.panic c) a w → False) ∧ ∀ (j : Nat) (o : Oper) cs b, ops[j]? = some o → o.op ≠ .select cs b)
    (h : (partF P n env m0 ops pre post f).holds fun f' => ∀ ρ' a' w', ConcF n B m0 w0 ρ0 ρ' a' w' f' → Q .normal a' w') : (Code.region id ops true).wp P Q a w := by
  have hk := dok_of hdok
  obtain ⟨F, hf, hF⟩ := evD_found (st := f.ds n) pre 0 [] rfl (by simp) (Nat.zero_le _) (fun i o r _ h => by simp at h) (T.holds_bind h)
  have hpost : dstsB n post = true := dstsB_of fun o ho => dstsB_mem _ hds o (by rw [hsplit]; exact List.mem_append_right _ ho)
  refine wp_region_any hmix ?_
  have hb : Below w.heap.size w { w with drawn := w.drawn + 1 } := (Below.refl _ _).drew
  refine wpAny_inv E (N := a.tmps.size) hsplit hf hk hc.nle hfull hc.conc.mem hE hap hQp (fun L a' w' ρ' hi hall => ?_) ops.size _ a _ ρ (by simp) ?_ ?_ ?_ ?_
  · have hn : New ρ ρ' w w' f.mem.length (memGo (fun _ => true) 0 F) := inv_new hf.len hi hall
    have hle := hn.le hc.conc.mem
    have hc2 := hc.conc.new hn
    refine evOpsF_ok _ hpost (ConcF.mk (f := { sl := pushF pre F f.sl, mem := f.mem ++ memGo (fun _ => true) 0 F }) ⟨hi.defers, anySlots ρ' _, hc2.mem, hc2.own, hc2.below, hc2.size, hc2.keep, hc2.len⟩ (by rw [hi.size]; exact hc.nle) (fun t => ?_)) hF
    show AV.rel ρ' (findF t (pushF pre F f.sl)) _
    rcases pushF_get t pre F f.sl hf.len with ⟨h1, h2⟩ | ⟨i, o, q, h1, h2, h3, h4⟩
    · rw [h1]; exact AV.rel_mono hle (hi.old t h2)
    · rw [h4]
      refine AV.rel_mono (ρ := cutR ρ' (f.mem.length + cnt F (i + 1))) ?_ (hi.done i o q t h1 h2 h3 (hall i (List.getElem?_eq_some_iff.1 h1).1))
      intro id p hp
      unfold cutR at hp
      split at hp
      · exact hp
      · cases hp
  · refine Nat.le_trans (List.length_filter_le _ _) (by simp)
  · intro j i hj
    simp [Array.getD] at hj
  · intro i _
    simp [Array.getD]
  · have e : (fun i => (Array.replicate ops.size false).getD i false) = (fun _ => false) := by
      funext i
      simp [Array.getD]
    rw [e]
    exact inv_start rfl hc.slots hc.conc.defers hc.conc.mem hb

theorem selB_ok {ops : Array Oper} (hsel : selB ops.toList = true) (j : Nat) (p : Oper) (cs : Array SelectCase) (b : Bool) (hj : ops[j]? = some p) : p.op ≠ .select cs b := by
  intro he
  unfold selB at hsel
  have hpm : p ∈ ops.toList := by
    have : ops.toList[j]? = some p := by simpa using hj
    exact List.mem_of_getElem? this
  have := List.all_eq_true.1 hsel p hpm
  rw [he] at this
  cases this

theorem evDrawF_ok {P : Program} (hmix : P.follows .mixedOrders = true) {env : List (Ctr P)} {n : Nat} {B : Nat → Prop} {m0 : Nat} {w0 : World} {ρ0 ρ : Rho} {a : Act} {w : World} {f : FSt} (hc : ConcF n B m0 w0 ρ0 ρ a w f) (id : Nat) (ops : Array Oper) (hds : dstsB n ops.toList = true) (Q : Exit → Act → World → Prop)
    (h : (evDrawF P n env m0 ops f).holds fun f' => ∀ ρ' a' w', ConcF n B m0 w0 ρ0 ρ' a' w' f' → Q .normal a' w') : (Code.region id ops true).wp P Q a w := by
  unfold evDrawF at h
  split at h
  case isTrue =>
    split at h
    case isTrue =>
      rename_i hd
      simp only [Bool.and_eq_true] at hd
      obtain ⟨hd1, hd2, hd3, hd4⟩ := hd
      generalize hK : firstSt ops.toList = K at h hd3 hd4
      have htake : ∀ i o, (ops.toList.take K)[i]? = some o → i < K ∧ ops.toList[i]? = some o := by
        intro i o hi
        rw [List.getElem?_take] at hi
        split at hi
        · rename_i hik; exact ⟨hik, hi⟩
        · cases hi
      refine wp_mono (Q := fun e a w => e = .normal ∧ Q .normal a w) ?_ (fun e a w q => by rw [q.1]; exact q.2)
      refine partF_ok hmix hc id ops hds _ (ops.toList.take K) (ops.toList.drop K) (List.take_append_drop _ _).symm hd1 (flE ops.toList K) (fun j i hj hjs hij hE => ?_) (fun i o hi hE => ?_) (fun e oe j oj hE hoe hoj hje hor hno => ?_) (fun e _ => ⟨fun c a w hh => (by cases hh.1), selB_ok hd2⟩) (T.holds_mono h fun f' hh ρ' a' w' hc' => ⟨rfl, hh ρ' a' w' hc'⟩)
      · have h1 := List.all_eq_true.1 hd3 j (List.mem_range.2 (by simpa using hjs))
        have hKj : K ≤ j := by
          simp at hj
          have : j < ops.toList.length := by simpa using hjs
          rcases Nat.le_total K ops.size with h | h <;> simp at this <;> omega
        rcases Bool.or_eq_true _ _ ▸ h1 with h1 | h1
        · have := Nat.blt_eq.mp h1; omega
        · have h2 := List.all_eq_true.1 h1 i (List.mem_range.2 hij)
          rcases Bool.or_eq_true _ _ ▸ h2 with h2 | h2
          · have hiK : i < K := by
              unfold flE at h2
              exact Nat.blt_eq.mp ((Bool.and_eq_true _ _).mp h2).1
            rw [hE (by simp; omega)] at h2; cases h2
          · exact h2
      · obtain ⟨hiK, hi⟩ := htake i o hi
        unfold flE at hE
        rw [hi] at hE
        exact ((Bool.and_eq_true _ _).mp hE).2
      · obtain ⟨heK, hoe⟩ := htake e oe hoe
        have hoj' : ops.toList[j]? = some oj := by simpa using hoj
        have h1 := List.all_eq_true.1 hd4 j (List.mem_range.2 (List.getElem?_eq_some_iff.1 hoj').1)
        rw [hoj'] at h1
        have h2 := List.all_eq_true.1 h1 e (List.mem_range.2 heK)
        rw [hE, hoe] at h2
        simp only [Bool.not_true, Bool.false_or, Bool.or_eq_true] at h2
        rcases h2 with h2 | h2 | h2 | h2
        · exact absurd (Nat.eq_of_beq_eq_true h2) hje
        · simp only [Bool.and_eq_true, Bool.not_eq_true'] at h2
          rcases hor with ⟨_, h3⟩ | h3
          · rw [h3] at h2; cases h2.2
          · have h4 := Nat.blt_eq.mp h2.1
            have : j < ops.toList.length := (List.getElem?_eq_some_iff.1 hoj').1
            simp at h3 this
            omega
        · obtain ⟨ed, hed, hbe⟩ := List.any_eq_true.1 h2
          simp only [Bool.and_eq_true] at hbe
          exact absurd (Nat.eq_of_beq_eq_true hbe.2) (hno ed (by simpa using hed) hbe.1)
        · exact h2
    split at h <;> try exact h.elim
    rename_i hd
    simp only [Bool.and_eq_true] at hd
    have hk := dok_of hd.1.1
    have hc1 : ConcF n B m0 w0 ρ0 ρ a { w with drawn := w.drawn + 1 } f := by
      have := hc.new (New.refl ρ w { w with drawn := w.drawn + 1 } f.mem.length hc.conc.mem.dom ((Below.refl _ _).drew))
      simpa using this
    refine wp_mono (Q := fun e a w => e = .normal ∧ Q .normal a w) ?_ (fun e a w q => by rw [q.1]; exact q.2)
    refine wp_region_held (S := Held w.heap.size ρ (storesY f ops.toList) { w with drawn := w.drawn + 1 }) hmix (evLate_ok hk hd.1.2 ops.toList 0 ops.size _ ρ a _ f (by simp) (by simp) (by simp) (fun i hi => ?_) (by simp) hds ⟨hc1, fun _ _ => rfl, Nat.le_refl _, ⟨fun _ _ _ => rfl⟩, hc1.conc.mem, hc1.conc.own, ysB_ok hd.2, Nat.le_refl _⟩ h)
    simp [Array.getD]
  split at h <;> try exact h.elim
  rename_i hd
  simp only [Bool.and_eq_true] at hd
  have hsplit : ops.toList = preQ ops.toList ++ postQ ops.toList := (pre_post _).symm
  exact partF_ok hmix hc id ops hds Q (preQ ops.toList) (postQ ops.toList) hsplit hd.1 (fun _ => false) (fun j i h1 h2 h3 _ => full_bit _ _ hd.2 j h1 (by have := congrArg List.length hsplit; simp at this; omega) i h3) (fun _ _ _ h => by cases h) (fun _ _ _ _ h => by cases h) (fun _ h => by cases h) h

/-! ### Fewer slots; two states -/

def pr (sl : List (Nat × AV)) : List Nat → List (Nat × AV)
  | [] => []
  | k :: ks => (k, findF k sl) :: pr sl ks

theorem pr_get (sl : List (Nat × AV)) (t : Nat) : ∀ (ks : List Nat), findF t (pr sl ks) = findF t sl ∨ findF t (pr sl ks) = .any
  | [] => .inr rfl
  | k :: ks => by
    cases hb : Nat.beq k t with
    | true =>
      have := Nat.eq_of_beq_eq_true hb
      subst this
      exact .inl (by simp only [pr, findF, hb])
    | false =>
      have : findF t (pr sl (k :: ks)) = findF t (pr sl ks) := by simp only [pr, findF, hb]
      rw [this]; exact pr_get sl t ks

/-- A state that says less: slots, and blocks of its own; of the caller's blocks what was known at first. -/
structure FLe (base : Mem) (s t : FSt) : Prop where
  sl : ∀ u ρ v, (findF u s.sl).rel ρ v → (findF u t.sl).rel ρ v
  mem : ∃ um, t.mem = base ++ um ∧ MemLe (s.mem.drop base.length) um

theorem ConcF.le {n : Nat} {B : Nat → Prop} {w0 : World} {ρ0 ρ : Rho} {a : Act} {w : World} {base : Mem} {s t : FSt} (hb : Base B w0 ρ0 base) (h : ConcF n B base.length w0 ρ0 ρ a w s) (hl : FLe base s t) : ConcF n B base.length w0 ρ0 ρ a w t :=
  ⟨h.conc.leB hb (t := ⟨List.replicate a.tmps.size .any, t.mem⟩) ⟨SlLe.refl _, hl.mem⟩, h.nle, fun u => hl.sl u _ _ (h.slots u)⟩

def T.lv {α : Type} (p : α → Prop) : T α → Prop
  | .leaf a => p a
  | .ite _ t e => t.lv p ∧ e.lv p
  | .need _ t => t.lv p
  | .fail => True
  | .all f => ∀ x, (f x).lv p

theorem T.lv_any {α : Type} {p : α → Prop} (h : ∀ a, p a) : ∀ (t : T α), t.lv p
  | .leaf a => h a
  | .ite _ t e => ⟨lv_any h t, lv_any h e⟩
  | .need _ t => lv_any h t
  | .fail => trivial
  | .all f => fun x => lv_any h (f x)
theorem T.lv_mono {α : Type} {p q : α → Prop} (h : ∀ a, p a → q a) : ∀ {t : T α}, t.lv p → t.lv q
  | .leaf a, hp => h a hp
  | .ite _ _ _, hp => ⟨lv_mono h hp.1, lv_mono h hp.2⟩
  | .need _ t, hp => lv_mono (t := t) h hp
  | .fail, _ => trivial
  | .all f, hp => fun x => lv_mono (t := f x) h (hp x)
theorem T.lv_bind {α β : Type} {p : α → Prop} {q : β → Prop} {g : α → T β} (h : ∀ a, p a → (g a).lv q) : ∀ {t : T α}, t.lv p → (t.bind g).lv q
  | .leaf a, hp => h a hp
  | .ite _ _ _, hp => ⟨lv_bind h hp.1, lv_bind h hp.2⟩
  | .need _ t, hp => lv_bind (t := t) h hp
  | .fail, _ => trivial
  | .all f, hp => fun x => lv_bind (t := f x) h (hp x)
theorem T.lv_tidy {α : Type} {p : α → Prop} : ∀ {t : T α}, t.lv p → (tidy t).lv p
  | .leaf a, hp => hp
  | .ite _ _ _, hp => ⟨lv_tidy hp.1, lv_tidy hp.2⟩
  | .need c t, hp => by
    show (cond c (tidy t) .fail).lv p
    cases c with
    | true => exact lv_tidy (t := t) hp
    | false => exact trivial
  | .fail, _ => trivial
  | .all f, hp => fun x => lv_tidy (t := f x) (hp x)
/-- Conditions are kept as they are: slot 199, or slot 198 (then states are still made one). -/
def keepT (ks : List Nat) : Bool := match inNs 199 ks with
  | true => true
  | false => inNs 198 ks
/-- Conditions are reckoned, unless they are kept. -/
def tidyK {α : Type} : Bool → T α → T α
  | true, t => t
  | false, t => tidy t
theorem tidyK_holds {α : Type} {Φ : α → Prop} {b : Bool} {t : T α} (h : (tidyK b t).holds Φ) : t.holds Φ := by
  cases b with
  | true => exact h
  | false => exact tidy_holds h
theorem T.lv_tidyK {α : Type} {p : α → Prop} {b : Bool} {t : T α} (h : t.lv p) : (tidyK b t).lv p := by
  cases b with
  | true => exact h
  | false => exact T.lv_tidy h
theorem T.lv_body {α : Type} {p : α → Prop} : ∀ {t : T α}, t.lv p → t.body.lv p
  | .leaf a, hp => hp
  | .ite _ _ _, hp => hp
  | .need _ t, hp => lv_body (t := t) hp
  | .fail, _ => trivial
  | .all _, hp => hp
theorem T.lv_needs {α : Type} {p : α → Prop} {t : T α} (h : t.lv p) : ∀ (l : List Bool), (T.needs l t).lv p
  | [] => h
  | _ :: l => T.lv_needs h l
theorem T.lv_all {α ι : Type} {p : ι → α → Prop} {s : ι → Prop} : ∀ {t : T α}, (∀ i, s i → t.lv (p i)) → t.lv (fun a => ∀ i, s i → p i a)
  | .leaf a, h => h
  | .ite _ _ _, h => ⟨lv_all fun i hi => (h i hi).1, lv_all fun i hi => (h i hi).2⟩
  | .need _ t, h => lv_all (t := t) fun i hi => h i hi
  | .fail, _ => trivial
  | .all f, h => fun x => lv_all (t := f x) fun i hi => h i hi x

/-- Two lists of slots made one; the slots 'us' are the same in both. -/
def mgKs (us : List Nat) (bx : Nat → Bool) (c : Bool) : List (Nat × AV) → List (Nat × AV) → Option (List (Nat × AV))
  | [], [] => some []
  | (k, a) :: l, (k', b) :: m => match Nat.beq k k' with
    | true => match (match inNs k us with | true => some a | false => mgV bx c a b) with
      | some x => match mgKs us bx c l m with
        | some r => some ((k, x) :: r)
        | none => none
      | none => none
    | false => none
  | _, _ => none

theorem mgKs_same {us : List Nat} {bx : Nat → Bool} {c : Bool} {u : Nat} (hu : inNs u us = true) : ∀ {l m r : List (Nat × AV)}, mgKs us bx c l m = some r → findF u r = findF u l
  | [], [], r, h => by cases h; rfl
  | (k, a) :: l, (k', b) :: m, r, h => by
    unfold mgKs at h
    split at h
    · rename_i hk
      split at h
      · rename_i x hx
        split at h
        · rename_i r' hr
          cases h
          cases hb : Nat.beq k u with
          | true =>
            have := Nat.eq_of_beq_eq_true hb
            subst this
            rw [hu] at hx
            cases hx
            simp only [findF, hb]
          | false => simp only [findF, hb]; exact mgKs_same hu hr
        · cases h
      · cases h
    · cases h

theorem mgKs_ok {us : List Nat} {bx : Nat → Bool} {c : Bool} {u : Nat} (hu : inNs u us = false) : ∀ {l m r : List (Nat × AV)}, mgKs us bx c l m = some r → ∀ ρ v, (c = true → (findF u l).rel ρ v → (findF u r).rel ρ v) ∧ (c = false → (findF u m).rel ρ v → (findF u r).rel ρ v)
  | [], [], r, h, ρ, v => by cases h; exact ⟨fun _ h => h, fun _ h => h⟩
  | (k, a) :: l, (k', b) :: m, r, h, ρ, v => by
    unfold mgKs at h
    split at h
    · rename_i hk
      have := Nat.eq_of_beq_eq_true hk
      subst this
      split at h
      · rename_i x hx
        split at h
        · rename_i r' hr
          cases h
          have ih := mgKs_ok hu hr ρ v
          cases hb : Nat.beq k u with
          | true =>
            have := Nat.eq_of_beq_eq_true hb
            subst this
            rw [hu] at hx
            simp only [findF, hb]; exact ⟨fun e => (mgV_ok hx ρ v).1 e, fun e => (mgV_ok hx ρ v).2 e⟩
          | false => simp only [findF, hb]; exact ih
        · cases h
      · cases h
    · cases h

def avs : List (Nat × AV) → List AV
  | [] => []
  | (_, a) :: l => a :: avs l

/-- Blocks made one; those below L are the same on both sides, where both know them. -/
def mgMemK (lv : Nat → Bool) (bx : Nat → Bool) (c : Bool) (L : Nat) : Nat → Mem → Mem → Option Mem
  | k, x :: l, y :: m => match Nat.blt k L with
    | true => match mgMemK lv bx c L (k + 1) l m with
      | some r => match lv k, x, y with
        | true, some B, some _ => some (some B :: r)
        | _, _, _ => some (none :: r)
      | none => none
    | false => mgMem lv bx c k (x :: l) (y :: m)
  | k, l, m => mgMem lv bx c k l m

theorem mgMem_len {lv bx : Nat → Bool} {c : Bool} : ∀ {l m r : Mem} {k : Nat}, mgMem lv bx c k l m = some r → r.length = l.length
  | [], [], r, k, h => by unfold mgMem at h; cases h; rfl
  | x :: l, y :: m, r, k, h => by
    unfold mgMem at h
    split at h
    · split at h
      · rename_i r' hr
        cases h; simp [mgMem_len hr]
      · cases h
    · split at h
      · split at h
        · split at h
          · rename_i r' hr
            cases h; simp [mgMem_len hr]
          · cases h
        · cases h
      · split at h
        · rename_i r' hr
          cases h; simp [mgMem_len hr]
        · cases h
  | [], y :: m, r, k, h => by unfold mgMem at h; cases h
  | x :: l, [], r, k, h => by unfold mgMem at h; cases h

theorem mgMemK_len {lv bx : Nat → Bool} {c : Bool} {L : Nat} : ∀ {l m r : Mem} {k : Nat}, mgMemK lv bx c L k l m = some r → r.length = l.length
  | x :: l, y :: m, r, k, h => by
    unfold mgMemK at h
    split at h
    · split at h
      · rename_i r' hr
        have := mgMemK_len hr
        split at h <;> (cases h; simp [this])
      · cases h
    · exact mgMem_len h
  | [], [], r, k, h => by unfold mgMemK at h; exact mgMem_len h
  | [], y :: m, r, k, h => by unfold mgMemK at h; exact mgMem_len h
  | x :: l, [], r, k, h => by unfold mgMemK at h; exact mgMem_len h

theorem mgMemK_get {lv bx : Nat → Bool} {c : Bool} {L : Nat} : ∀ {l m r : Mem} {k : Nat}, mgMemK lv bx c L k l m = some r → ∀ (i : Nat) (B : Blk), k + i < L → r[i]? = some (some B) → l[i]? = some (some B)
  | x :: l, y :: m, r, k, h, i, B, hi, hr => by
    unfold mgMemK at h
    split at h
    · split at h
      · rename_i r' hr'
        cases i with
        | zero =>
          split at h
          · cases h; simpa using hr
          · cases h; simp at hr
        | succ i =>
          have ih := mgMemK_get hr' i B (by omega)
          split at h <;> (cases h; simpa using ih (by simpa using hr))
      · cases h
    · rename_i hb
      have : Nat.blt k L = true := Nat.blt_eq.mpr (by omega)
      rw [this] at hb; cases hb
  | [], [], r, k, h, i, B, hi, hr => by
    unfold mgMemK at h
    have := mgMem_len h
    cases r with
    | nil => simp at hr
    | cons _ _ => simp at this
  | [], y :: m, r, k, h, i, B, hi, hr => by unfold mgMemK mgMem at h; cases h
  | x :: l, [], r, k, h, i, B, hi, hr => by unfold mgMemK mgMem at h; cases h

theorem blLe_refl (B : Blk) : BlLe B B := fun _ _ _ _ h => h

theorem mgMemK_ok {lv bx : Nat → Bool} {c : Bool} {L : Nat} : ∀ {l m r : Mem} {k : Nat}, (∀ i B C, k + i < L → l[i]? = some (some B) → m[i]? = some (some C) → B = C) → mgMemK lv bx c L k l m = some r → (c = true → MemLe l r) ∧ (c = false → MemLe m r)
  | x :: l, y :: m, r, k, he, h => by
    unfold mgMemK at h
    split at h
    · rename_i hk
      have hk : k < L := Nat.blt_eq.mp hk
      split at h
      · rename_i r' hr'
        have ih := mgMemK_ok (fun i B C hi h1 h2 => he (i + 1) B C (by omega) (by simpa using h1) (by simpa using h2)) hr'
        split at h
        · rename_i B C _
          cases h
          have e := he 0 B C (by omega) rfl rfl
          subst e
          exact ⟨fun e => ⟨blLe_refl _, ih.1 e⟩, fun e => ⟨blLe_refl _, ih.2 e⟩⟩
        · cases h
          exact ⟨fun e => memLe_none (ih.1 e), fun e => memLe_none (ih.2 e)⟩
      · cases h
    · exact mgMem_ok h
  | [], [], r, k, _, h => by unfold mgMemK at h; exact mgMem_ok h
  | [], y :: m, r, k, _, h => by unfold mgMemK at h; exact mgMem_ok h
  | x :: l, [], r, k, _, h => by unfold mgMemK at h; exact mgMem_ok h

def mgF (us : List Nat) (L : Nat) (base : Mem) (c : Bool) (s t : FSt) : Option FSt :=
  match mgKs us (isBx s.mem) c s.sl t.sl with
  | some sl => match mgMemK (fun k => inNs k (liveN s.mem (avs sl))) (isBx s.mem) c L base.length (s.mem.drop base.length) (t.mem.drop base.length) with
    | some m => some ⟨sl, base ++ m⟩
    | none => none
  | none => none

theorem mgF_same {us : List Nat} {L : Nat} {base : Mem} {c : Bool} {s t x : FSt} (h : mgF us L base c s t = some x) {u : Nat} (hu : inNs u us = true) : findF u x.sl = findF u s.sl := by
  unfold mgF at h
  split at h
  · rename_i sl hs
    split at h
    · cases h; exact mgKs_same hu hs
    · cases h
  · cases h

/-- The blocks between b and L, where they are known, are those of M. -/
structure KpM (b L : Nat) (M : Mem) (r : FSt) : Prop where
  len : L ≤ r.mem.length
  get : ∀ k B, b ≤ k → k < L → r.mem[k]? = some (some B) → M[k]? = some (some B)

theorem mgF_mem {us : List Nat} {L L' : Nat} {M base : Mem} {c : Bool} {s t x : FSt} (h : mgF us L' base c s t = some x) (hL : L ≤ L') (hs : KpM base.length L M s) : KpM base.length L M x := by
  unfold mgF at h
  split at h
  · split at h
    · rename_i m hm
      cases h
      have hlen := mgMemK_len hm
      refine ⟨?_, fun k B h1 h2 h3 => hs.get k B h1 h2 ?_⟩
      · have := hs.len
        simp only [List.length_append, hlen, List.length_drop]
        omega
      · have h3 : (base ++ m)[k]? = some (some B) := h3
        rw [List.getElem?_append_right h1] at h3
        have := mgMemK_get hm (k - base.length) B (by omega) h3
        rw [List.getElem?_drop, show base.length + (k - base.length) = k by omega] at this
        exact this
    · cases h
  · cases h

theorem mgF_ok {us : List Nat} {L : Nat} {M base : Mem} {c : Bool} {s t u : FSt} (he : ∀ k, inNs k us = true → findF k t.sl = findF k s.sl) (hs : KpM base.length L M s) (ht : KpM base.length L M t) (h : mgF us L base c s t = some u) : (c = true → FLe base s u) ∧ (c = false → FLe base t u) := by
  have hsame := fun k hk => mgF_same h (u := k) hk
  unfold mgF at h
  split at h
  · rename_i sl hs'
    split at h
    · rename_i m hm
      cases h
      have hm := mgMemK_ok (fun i B C hi h1 h2 => by
        rw [List.getElem?_drop] at h1 h2
        have a1 := hs.get _ B (by omega) hi h1
        have a2 := ht.get _ C (by omega) hi h2
        rw [a1] at a2; cases a2; rfl) hm
      refine ⟨fun e => ⟨fun u ρ v hv => ?_, m, rfl, hm.1 e⟩, fun e => ⟨fun u ρ v hv => ?_, m, rfl, hm.2 e⟩⟩
      · cases hu : inNs u us with
        | true => rw [hsame u hu]; exact hv
        | false => exact (mgKs_ok hu hs' ρ v).1 e hv
      · cases hu : inNs u us with
        | true => rw [hsame u hu, ← he u hu]; exact hv
        | false => exact (mgKs_ok hu hs' ρ v).2 e hv
    · cases h
  · cases h

structure WkF (base : Mem) (t' t : T (EX × FSt)) : Prop where
  out : ∀ Φ : EX × FSt → Prop, (∀ e s u, FLe base s u → Φ (e, u) → Φ (e, s)) → t'.holds Φ → t.holds Φ

def mgEF (us : List Nat) (L : Nat) (base : Mem) (c : Bool) (t e : T (EX × FSt)) : T (EX × FSt) :=
  match t, e with
  | .leaf (.normal, s), .leaf (.normal, u) => match mgF us L base c s u with
    | some x => .leaf (.normal, x)
    | none => .ite c t e
  | _, _ => .ite c t e

/-- The slots 'us' are those of g. -/
def KpU (us : List Nat) (g : Nat → AV) (r : EX × FSt) : Prop := ∀ u, inNs u us = true → findF u r.2.sl = g u

theorem mgEF_lv {us : List Nat} {g : Nat → AV} {L : Nat} (base : Mem) (c : Bool) {t e : T (EX × FSt)} (ht : t.lv (KpU us g)) (he : e.lv (KpU us g)) : (mgEF us L base c t e).lv (KpU us g) := by
  unfold mgEF
  split
  · rename_i s u
    split
    · rename_i x hx
      intro k hk
      exact (mgF_same hx hk).trans (ht k hk)
    · exact ⟨ht, he⟩
  · exact ⟨ht, he⟩

theorem mgEF_mem {us : List Nat} {M : Mem} {L L' : Nat} (hL : L ≤ L') (base : Mem) (c : Bool) {t e : T (EX × FSt)} (ht : t.lv fun r => KpM base.length L M r.2) (he : e.lv fun r => KpM base.length L M r.2) : (mgEF us L' base c t e).lv fun r => KpM base.length L M r.2 := by
  unfold mgEF
  split
  · rename_i s u
    split
    · rename_i x hx
      exact mgF_mem hx hL ht
    · exact ⟨ht, he⟩
  · exact ⟨ht, he⟩

theorem mgEF_ok {us : List Nat} {g : Nat → AV} {L : Nat} {M : Mem} (base : Mem) (c : Bool) (t e : T (EX × FSt)) (ht : t.lv (KpU us g)) (he : e.lv (KpU us g)) (mt : t.lv fun r => KpM base.length L M r.2) (me : e.lv fun r => KpM base.length L M r.2) : WkF base (mgEF us L base c t e) (.ite c t e) := by
  unfold mgEF
  split
  · rename_i s u
    split
    · rename_i x hx
      have hsame : ∀ k, inNs k us = true → findF k u.sl = findF k s.sl := fun k hk => (he k hk).trans (ht k hk).symm
      constructor
      intro Φ hΦ h
      exact ⟨fun hc => hΦ .normal s x ((mgF_ok hsame mt me hx).1 hc) h, fun hc => hΦ .normal u x ((mgF_ok hsame mt me hx).2 hc) h⟩
    · exact ⟨fun _ _ h => h⟩
  · exact ⟨fun _ _ h => h⟩

def mrgF (us : List Nat) (L : Nat) (base : Mem) : T (EX × FSt) → T (EX × FSt)
  | .leaf a => .leaf a
  | .ite c t e =>
    let t' := mrgF us L base t
    let e' := mrgF us L base e
    T.needs (mapB c true t'.pre) (T.needs (mapE c true e'.pre) (mgEF us L base c t'.body e'.body))
  | .need c t => .need c (mrgF us L base t)
  | .fail => .fail
  | .all f => .all fun x => mrgF us L base (f x)

theorem mrgF_lv {us : List Nat} {g : Nat → AV} {L : Nat} (base : Mem) : ∀ {t : T (EX × FSt)}, t.lv (KpU us g) → (mrgF us L base t).lv (KpU us g)
  | .leaf _, h => h
  | .fail, _ => trivial
  | .need c t, h => mrgF_lv base (t := t) h
  | .all f, h => fun x => mrgF_lv base (t := f x) (h x)
  | .ite c t e, h => T.lv_needs (T.lv_needs (mgEF_lv base c (T.lv_body (mrgF_lv base h.1)) (T.lv_body (mrgF_lv base h.2))) _) _

theorem mrgF_mem {us : List Nat} {L L' : Nat} {M : Mem} (hL : L ≤ L') (base : Mem) : ∀ {t : T (EX × FSt)}, (t.lv fun r => KpM base.length L M r.2) → (mrgF us L' base t).lv fun r => KpM base.length L M r.2
  | .leaf _, h => h
  | .fail, _ => trivial
  | .need c t, h => mrgF_mem hL base (t := t) h
  | .all f, h => fun x => mrgF_mem hL base (t := f x) (h x)
  | .ite c t e, h => T.lv_needs (T.lv_needs (mgEF_mem hL base c (T.lv_body (mrgF_mem hL base h.1)) (T.lv_body (mrgF_mem hL base h.2))) _) _

theorem mrgF_ok {us : List Nat} {g : Nat → AV} {L : Nat} {M : Mem} (base : Mem) : ∀ (t : T (EX × FSt)), t.lv (KpU us g) → (t.lv fun r => KpM base.length L M r.2) → WkF base (mrgF us L base t) t
  | .leaf _, _, _ => ⟨fun _ _ h => h⟩
  | .fail, _, _ => ⟨fun _ _ h => h⟩
  | .need c t, hl, hm => ⟨fun Φ hΦ h => ⟨h.1, (mrgF_ok base t hl hm).out Φ hΦ h.2⟩⟩
  | .all f, hl, hm => ⟨fun Φ hΦ h x => (mrgF_ok base (f x) (hl x) (hm x)).out Φ hΦ (h x)⟩
  | .ite c t e, hl, hm => by
    constructor
    intro Φ hΦ h
    have h : (T.needs (mapB c true (mrgF us L base t).pre) (T.needs (mapE c true (mrgF us L base e).pre) (mgEF us L base c (mrgF us L base t).body (mrgF us L base e).body))).holds Φ := h
    obtain ⟨h1, h2⟩ := T.needs_holds h
    obtain ⟨h3, h4⟩ := T.needs_holds h2
    have h5 := (mgEF_ok base c _ _ (T.lv_body (mrgF_lv base hl.1)) (T.lv_body (mrgF_lv base hl.2)) (T.lv_body (mrgF_mem (Nat.le_refl _) base hm.1)) (T.lv_body (mrgF_mem (Nat.le_refl _) base hm.2))).out Φ hΦ h4
    exact ⟨fun hc => (mrgF_ok base t hl.1 hm.1).out Φ hΦ (T.pre_body (mapB_all hc h1) (h5.1 hc)), fun hc => (mrgF_ok base e hl.2 hm.2).out Φ hΦ (T.pre_body (mapE_all hc h3) (h5.2 hc))⟩

/-- States are made one, unless they are kept. -/
def mrgK (b : Bool) (us : List Nat) (L : Nat) (base : Mem) (t : T (EX × FSt)) : T (EX × FSt) := match b with
  | true => t
  | false => mrgF us L base t

theorem mrgK_lv {b : Bool} {us : List Nat} {g : Nat → AV} {L : Nat} (base : Mem) {t : T (EX × FSt)} (h : t.lv (KpU us g)) : (mrgK b us L base t).lv (KpU us g) := by
  cases b with
  | true => exact h
  | false => exact mrgF_lv base h

theorem mrgK_mem {b : Bool} {us : List Nat} {L L' : Nat} {M : Mem} (hL : L ≤ L') (base : Mem) {t : T (EX × FSt)} (h : t.lv fun r => KpM base.length L M r.2) : (mrgK b us L' base t).lv fun r => KpM base.length L M r.2 := by
  cases b with
  | true => exact h
  | false => exact mrgF_mem hL base h

theorem mrgK_ok {b : Bool} {us : List Nat} {g : Nat → AV} {L : Nat} {M : Mem} (base : Mem) (t : T (EX × FSt)) (hl : t.lv (KpU us g)) (hm : t.lv fun r => KpM base.length L M r.2) : WkF base (mrgK b us L base t) t := by
  cases b with
  | true => exact ⟨fun _ _ h => h⟩
  | false => exact mrgF_ok base t hl hm

/-! ### Slots that a piece of code never sets -/

def isApp (op : Op) : Bool := match appSOf op with
  | some _ => true
  | none => false

theorem appOf_S {op : Op} {r : TypeId × Operand × Operand} (h : appOf op = some r) : ∃ q, appSOf op = some q := by
  unfold appOf at h
  split at h
  · split at h
    · split at h
      · rename_i c _ hcal _ _ s x t t' hx ht
        exact ⟨(t, t', s, x), by unfold appSOf; simp only [hcal, hx, ht]⟩
      · cases h
    · cases h
  · cases h

def asgO (ops : Array Oper) (k : Nat) (o : Oper) : Bool :=
  isApp o.op || ((match o.dst with | some d => Nat.beq d k | none => false) || (match o.guard with
    | some (g, _) => match guardSlot ops g with | some t => Nat.beq t k | none => false
    | none => false))

theorem asgO_app {ops : Array Oper} {k : Nat} {o : Oper} (h : asgO ops k o = false) : isApp o.op = false := by
  unfold asgO at h
  rw [Bool.or_eq_false_iff] at h
  exact h.1

def asgL (ops : Array Oper) (k : Nat) : List Oper → Bool
  | [] => false
  | o :: l => asgO ops k o || asgL ops k l

theorem asgL_mem {ops : Array Oper} {k : Nat} : ∀ {l : List Oper} {o : Oper}, asgL ops k l = false → o ∈ l → asgO ops k o = false
  | [], o, _, ho => by cases ho
  | p :: l, o, h, ho => by
    have h' : asgO ops k p = false ∧ asgL ops k l = false := by simpa [asgL] using h
    cases ho with
    | head => exact h'.1
    | tail _ ho => exact asgL_mem h'.2 ho

theorem asgO_dst {ops : Array Oper} {k : Nat} {o : Oper} (h : asgO ops k o = false) : o.dst ≠ some k := by
  intro e
  unfold asgO at h
  rw [e] at h
  simp at h

theorem asgO_guard {ops : Array Oper} {k : Nat} {o : Oper} {g : Nat} {w : Bool} {t : Nat} (h : asgO ops k o = false) (hg : o.guard = some (g, w)) (ht : guardSlot ops g = some t) : Nat.beq t k = false := by
  unfold asgO at h
  rw [hg] at h
  simp only [ht, Bool.or_eq_false_iff] at h
  exact h.2.2

theorem findF_keep {k : Nat} {dst : Option Tmp} (h : dst ≠ some k) (sl : List (Nat × AV)) (r : AV) : findF k (putF sl dst r) = findF k sl := by
  rcases findF_put sl dst r k with ⟨h1, _⟩ | ⟨_, h2⟩
  · exact absurd h1 h
  · exact h2

theorem evSp_lv {P : Program} {m0 : Nat} {op : Op} {dst : Option Tmp} {f : FSt} {T : T FSt} (hT : evSp P m0 op dst f = some T) (ha : isApp op = false) : ∃ r : AV × Mem, T = .leaf { sl := putF f.sl dst r.1, mem := f.mem ++ r.2 } := by
  unfold evSp at hT
  unfold isApp at ha
  split at hT
  · rename_i happ
    obtain ⟨q, hq⟩ := appOf_S happ
    rw [hq] at ha; cases ha
  · split at hT
    · split at hT
      · cases hT; exact ⟨_, rfl⟩
      · cases hT
    · split at hT
      · rename_i happ
        rw [happ] at ha; cases ha
      · split at hT
        · split at hT
          · cases hT; exact ⟨(_, []), rfl⟩
          · cases hT
        · cases hT

theorem evWr_lv {P : Program} {env : List (Ctr P)} {m0 : Nat} {op : Op} {dst : Option Tmp} {f : FSt} {T0 : T FSt} (hT : evWr P env m0 op dst f = some T0) :
    ∃ (t : T (AV × Blk)) (g : AV × Blk → T FSt), T0 = t.bind g ∧ ∀ r, g r = .fail ∨ ∃ av m, g r = .leaf { sl := putF f.sl dst av, mem := m } := by
  unfold evWr at hT
  split at hT <;> try (cases hT; done)
  split at hT <;> try (cases hT; done)
  split at hT
  · split at hT
    · cases hT
    · unfold evWq at hT
      split at hT <;> try (cases hT; done)
      split at hT <;> try (cases hT; done)
      split at hT <;> try (cases hT; done)
      split at hT <;> try (cases hT; done)
      cases hT
      refine ⟨_, _, rfl, fun r => ?_⟩
      split
      · exact .inr ⟨_, _, rfl⟩
      · exact .inl rfl
  split at hT <;> try (cases hT; done)
  split at hT <;> try (cases hT; done)
  split at hT <;> try (cases hT; done)
  split at hT <;> try (cases hT; done)
  cases hT
  refine ⟨_, _, rfl, fun r => ?_⟩
  split
  · exact .inr ⟨_, _, rfl⟩
  · exact .inl rfl

theorem evOpF_lv {P : Program} {env : List (Ctr P)} {m0 : Nat} {o : Oper} {k : Nat} (h : o.dst ≠ some k) (ha : isApp o.op = false) (f : FSt) : (evOpF P env m0 o f).lv fun f' => findF k f'.sl = findF k f.sl := by
  unfold evOpF
  split
  · split
    · refine T.lv_bind (p := fun _ => True) (fun _ _ => ?_) (T.lv_any (fun _ => trivial) _)
      exact findF_keep h _ _
    · trivial
  · split
    · rename_i r hr
      obtain ⟨q, rfl⟩ := evSp_lv hr ha
      exact findF_keep h _ _
    split
    · rename_i r hr
      obtain ⟨t, g, rfl, hg⟩ := evWr_lv hr
      refine T.lv_bind (p := fun _ => True) (fun r _ => ?_) (T.lv_any (fun _ => trivial) _)
      rcases hg r with e | ⟨av, m, e⟩
      · rw [e]; trivial
      · rw [e]; exact findF_keep h _ _
    · refine T.lv_bind (p := fun _ => True) (fun _ _ => ?_) (T.lv_any (fun _ => trivial) _)
      exact findF_keep h _ _

theorem evOpsF_lv {P : Program} {env : List (Ctr P)} {m0 : Nat} {ops : Array Oper} {k : Nat} : ∀ {l : List Oper} (f : FSt) {v : AV}, asgL ops k l = false → findF k f.sl = v → (evOpsF P env m0 ops l f).lv fun f' => findF k f'.sl = v
  | [], f, v, _, h => h
  | o :: rest, f, v, ha, h => by
    have h' : asgO ops k o = false ∧ asgL ops k rest = false := by simpa [asgL] using ha
    have run : ∀ {f : FSt}, findF k f.sl = v → ((evOpF P env m0 o f).bind (evOpsF P env m0 ops rest)).lv fun f' => findF k f'.sl = v := fun {f} hf =>
      T.lv_bind (fun f' hf' => evOpsF_lv f' h'.2 (hf'.trans hf)) (evOpF_lv (asgO_dst h'.1) (asgO_app h'.1) f)
    have skip : ∀ {sl : List (Nat × AV)}, findF k sl = v → (evOpsF P env m0 ops rest { f with sl := putF sl o.dst .und }).lv fun f' => findF k f'.sl = v := fun {sl} hf =>
      evOpsF_lv _ h'.2 ((findF_keep (asgO_dst h'.1) _ _).trans hf)
    unfold evOpsF
    split
    · exact run h
    · rename_i g want hg
      split
      · exact skip h
      · rename_i t ht
        have hk := asgO_guard h'.1 hg ht
        have hs : ∀ b, findF k ((t, AV.one (.tt b)) :: f.sl) = v := fun b => by simp only [findF, hk]; exact h
        split
        · split
          · exact run h
          · exact skip h
        · refine ⟨?_, ?_⟩
          · split
            · exact run (f := { f with sl := (t, AV.one (.tt true)) :: f.sl }) (hs true)
            · exact skip (hs true)
          · split
            · exact run (f := { f with sl := (t, AV.one (.tt false)) :: f.sl }) (hs false)
            · exact skip (hs false)
        · exact skip h
        · trivial

theorem pushF_keep {k : Nat} : ∀ (os : List Oper) (rs : List Res) (sl : List (Nat × AV)), (∀ o ∈ os, o.dst ≠ some k) → findF k (pushF os rs sl) = findF k sl
  | [], rs, sl, _ => by cases rs <;> rfl
  | o :: os, [], sl, _ => rfl
  | o :: os, r :: rs, sl, h => (pushF_keep os rs _ fun p hp => h p (List.Mem.tail _ hp)).trans (findF_keep (h o (List.Mem.head _)) _ _)

theorem evLate_lv {P : Program} {env : List (Ctr P)} {m0 : Nat} {ops : Array Oper} {Y : List Nat} {M : Mem} {k : Nat} : ∀ {l : List Oper} (q : Nat) (f : FSt) {v : AV}, asgL ops k l = false → findF k f.sl = v → (evLate P env m0 ops Y M l q f).lv fun f' => findF k f'.sl = v
  | [], q, f, v, _, h => h
  | o :: rest, q, f, v, ha, h => by
    have h' : asgO ops k o = false ∧ asgL ops k rest = false := by simpa [asgL] using ha
    unfold evLate
    split
    · trivial
    · split
      · split
        · refine T.lv_bind (p := fun _ => True) (fun r _ => evLate_lv _ _ h'.2 ((findF_keep (asgO_dst h'.1) _ _).trans h)) (T.lv_any (fun _ => trivial) _)
        · trivial
      · split
        · split
          · exact T.lv_bind (fun f' hf' => evLate_lv _ f' h'.2 (hf'.trans h)) (evOpF_lv (asgO_dst h'.1) (asgO_app h'.1) f)
          · trivial
        · exact T.lv_bind (p := fun _ => True) (fun r _ => evLate_lv _ _ h'.2 ((findF_keep (asgO_dst h'.1) _ _).trans h)) (T.lv_any (fun _ => trivial) _)

theorem partF_lv {P : Program} {n : Nat} {env : List (Ctr P)} {m0 : Nat} {ops : Array Oper} {k : Nat} (f : FSt) (ha : asgL ops k ops.toList = false) {pre post : List Oper} (hsplit : ops.toList = pre ++ post) : (partF P n env m0 ops pre post f).lv fun f' => findF k f'.sl = findF k f.sl := by
  have hpost : ∀ {l : List Oper}, (∀ o ∈ l, asgO ops k o = false) → asgL ops k l = false := by
    intro l
    induction l with
    | nil => intro _; rfl
    | cons o l ih => intro h; simp [asgL, h o (List.Mem.head _), ih fun p hp => h p (List.Mem.tail _ hp)]
  refine T.lv_bind (p := fun _ => True) (fun F _ => evOpsF_lv _ (hpost fun o ho => asgL_mem ha (by rw [hsplit]; exact List.mem_append_right _ ho)) ?_) (T.lv_any (fun _ => trivial) _)
  exact pushF_keep _ _ _ fun o ho => asgO_dst (asgL_mem ha (by rw [hsplit]; exact List.mem_append_left _ ho))

theorem evDrawF_lv {P : Program} {n : Nat} {env : List (Ctr P)} {m0 : Nat} {ops : Array Oper} {k : Nat} (f : FSt) (ha : asgL ops k ops.toList = false) : (evDrawF P n env m0 ops f).lv fun f' => findF k f'.sl = findF k f.sl := by
  unfold evDrawF
  split
  · split
    · exact partF_lv f ha (List.take_append_drop _ _).symm
    · split
      · exact evLate_lv _ _ ha rfl
      · trivial
  split
  · exact partF_lv f ha (pre_post _).symm
  · trivial

def isCall : Op → Bool
  | .call _ => true
  | _ => false

/-- Some contract writes. -/
def wrE {P : Program} : List (Ctr P) → Bool
  | [] => false
  | c :: l => match c.wr with
    | some _ => true
    | none => match c.wq with
      | some _ => true
      | none => wrE l

theorem wrE_look {P : Program} : ∀ {env : List (Ctr P)} {g : FuncId} {ct : Ctr P}, look env g = some ct → ((∃ W, ct.wr = some W) ∨ ∃ W, ct.wq = some W) → wrE env = true
  | [], _, _, h, _ => by cases h
  | d :: r, g, ct, h, hw => by
    unfold look at h
    unfold wrE
    split at h
    · cases h
      rcases hw with ⟨W, hw⟩ | ⟨W, hw⟩
      · rw [hw]
      · rw [hw]; split <;> rfl
    · split
      · rfl
      · split
        · rfl
        · exact wrE_look h hw

def stO (W : Bool) (o : Oper) : Bool := match o.op with
  | .store _ _ _ => true
  | op => isApp op || (W && isCall op)

def stL (W : Bool) : List Oper → Bool
  | [] => false
  | o :: l => stO W o || stL W l

theorem stL_mem {W : Bool} : ∀ {l : List Oper} {o : Oper}, stL W l = false → o ∈ l → stO W o = false
  | [], o, _, ho => by cases ho
  | p :: l, o, h, ho => by
    have h' : stO W p = false ∧ stL W l = false := by simpa [stL] using h
    cases ho with
    | head => exact h'.1
    | tail _ ho => exact stL_mem h'.2 ho

theorem kpM_app {b L : Nat} {M : Mem} {sl sl' : List (Nat × AV)} {m : Mem} (h : KpM b L M ⟨sl, m⟩) (q : Mem) : KpM b L M ⟨sl', m ++ q⟩ := by
  have hl : L ≤ m.length := h.len
  refine ⟨?_, fun k B h1 h2 h3 => h.get k B h1 h2 ?_⟩
  · show L ≤ (m ++ q).length
    rw [List.length_append]; omega
  · have h3 : (m ++ q)[k]? = some (some B) := h3
    rw [List.getElem?_append_left (by omega)] at h3
    exact h3

theorem kpM_sl {b L : Nat} {M : Mem} {sl sl' : List (Nat × AV)} {m : Mem} (h : KpM b L M ⟨sl, m⟩) : KpM b L M ⟨sl', m⟩ := ⟨h.len, h.get⟩

theorem evOpF_mem {P : Program} {env : List (Ctr P)} {m0 : Nat} {o : Oper} {b L : Nat} {M : Mem} (h : stO (wrE env) o = false) {f : FSt} (hf : KpM b L M f) : (evOpF P env m0 o f).lv fun f' => KpM b L M f' := by
  unfold evOpF
  split
  · rename_i ho
    unfold stO at h
    rw [ho] at h
    cases h
  · rename_i hno
    have ha : isApp o.op = false := by
      unfold stO at h
      split at h
      · cases h
      · exact ((Bool.or_eq_false_iff).1 h).1
    split
    · rename_i r hr
      obtain ⟨q, rfl⟩ := evSp_lv hr ha
      exact kpM_app (sl := f.sl) hf _
    split
    · rename_i r hr
      exfalso
      unfold evWr at hr
      split at hr <;> try (cases hr; done)
      rename_i g xs hcal
      split at hr <;> try (cases hr; done)
      rename_i ct hct
      have hwr : (∃ W, ct.wr = some W) ∨ ∃ W, ct.wq = some W := by
        split at hr
        · split at hr
          · cases hr
          · rename_i W hW; exact .inr ⟨W, hW⟩
        · rename_i W hW; exact .inl ⟨W, hW⟩
      have hw := wrE_look hct hwr
      have hcl : isCall o.op = true := by
        unfold calleeOf at hcal
        split at hcal
        · rename_i c ho; rw [ho]; rfl
        · cases hcal
      unfold stO at h
      split at h
      · cases h
      · rw [hw, hcl] at h; simp at h
    · refine T.lv_bind (p := fun _ => True) (fun _ _ => ?_) (T.lv_any (fun _ => trivial) _)
      exact kpM_app (sl := f.sl) hf _

theorem evOpsF_mem {P : Program} {env : List (Ctr P)} {m0 : Nat} {ops : Array Oper} {b L : Nat} {M : Mem} : ∀ {l : List Oper} {f : FSt}, stL (wrE env) l = false → KpM b L M f → (evOpsF P env m0 ops l f).lv fun f' => KpM b L M f'
  | [], f, _, h => h
  | o :: rest, f, ha, h => by
    have h' : stO (wrE env) o = false ∧ stL (wrE env) rest = false := by simpa [stL] using ha
    have run : ∀ {sl : List (Nat × AV)}, ((evOpF P env m0 o { f with sl := sl }).bind (evOpsF P env m0 ops rest)).lv fun f' => KpM b L M f' := fun {sl} =>
      T.lv_bind (fun f' hf' => evOpsF_mem h'.2 hf') (evOpF_mem h'.1 (kpM_sl (sl := f.sl) h))
    have skip : ∀ {sl : List (Nat × AV)}, (evOpsF P env m0 ops rest { f with sl := sl }).lv fun f' => KpM b L M f' := fun {sl} => evOpsF_mem h'.2 (kpM_sl (sl := f.sl) h)
    unfold evOpsF
    split
    · exact run (sl := f.sl)
    · split
      · exact skip
      · split
        · split
          · exact run (sl := f.sl)
          · exact skip
        · refine ⟨?_, ?_⟩
          · split
            · exact run
            · exact skip
          · split
            · exact run
            · exact skip
        · exact skip
        · trivial

theorem evLate_mem {P : Program} {env : List (Ctr P)} {m0 : Nat} {ops : Array Oper} {Y : List Nat} {M0 : Mem} {b L : Nat} {M : Mem} : ∀ {l : List Oper} {q : Nat} {f : FSt}, stL (wrE env) l = false → KpM b L M f → (evLate P env m0 ops Y M0 l q f).lv fun f' => KpM b L M f'
  | [], q, f, _, h => h
  | o :: rest, q, f, ha, h => by
    have h' : stO (wrE env) o = false ∧ stL (wrE env) rest = false := by simpa [stL] using ha
    unfold evLate
    split
    · trivial
    · split
      · split
        · exact T.lv_bind (p := fun _ => True) (fun r _ => evLate_mem h'.2 (kpM_sl (sl := f.sl) h)) (T.lv_any (fun _ => trivial) _)
        · trivial
      · split
        · split
          · exact T.lv_bind (fun f' hf' => evLate_mem h'.2 hf') (evOpF_mem h'.1 h)
          · trivial
        · exact T.lv_bind (p := fun _ => True) (fun r _ => evLate_mem h'.2 (kpM_app (sl := f.sl) h _)) (T.lv_any (fun _ => trivial) _)

theorem partF_mem {P : Program} {n : Nat} {env : List (Ctr P)} {m0 : Nat} {ops : Array Oper} {b L : Nat} {M : Mem} {f : FSt} (ha : stL (wrE env) ops.toList = false) (hf : KpM b L M f) {pre post : List Oper} (hsplit : ops.toList = pre ++ post) : (partF P n env m0 ops pre post f).lv fun f' => KpM b L M f' := by
  have hpost : ∀ {l : List Oper}, (∀ o ∈ l, stO (wrE env) o = false) → stL (wrE env) l = false := by
    intro l
    induction l with
    | nil => intro _; rfl
    | cons o l ih => intro h; simp [stL, h o (List.Mem.head _), ih fun p hp => h p (List.Mem.tail _ hp)]
  refine T.lv_bind (p := fun _ => True) (fun F _ => evOpsF_mem (hpost fun o ho => stL_mem ha (by rw [hsplit]; exact List.mem_append_right _ ho)) ?_) (T.lv_any (fun _ => trivial) _)
  exact kpM_app (sl := f.sl) hf _

theorem evDrawF_mem {P : Program} {n : Nat} {env : List (Ctr P)} {m0 : Nat} {ops : Array Oper} {b L : Nat} {M : Mem} {f : FSt} (ha : stL (wrE env) ops.toList = false) (hf : KpM b L M f) : (evDrawF P n env m0 ops f).lv fun f' => KpM b L M f' := by
  unfold evDrawF
  split
  · split
    · exact partF_mem ha hf (List.take_append_drop _ _).symm
    · split
      · exact evLate_mem ha hf
      · trivial
  split
  · exact partF_mem ha hf (pre_post _).symm
  · trivial

/-- May the code store, or forget blocks? -/
def stC (W : Bool) : Code → Bool
  | .region _ ops _ => stL W ops.toList
  | .seq a b => stC W a || stC W b
  | .cond _ a b => stC W a || stC W b
  | .skip => false
  | .ret => false
  | .exit _ => false
  | _ => true

/-- So many blocks stay as they are. -/
def upTo (st : Bool) (n : Nat) : Nat := match st with
  | true => 0
  | false => n

/-- Does the code set the slot? ('sm': parts may be summed up.) -/
def asgC (sm : Bool) (k : Nat) : Code → Bool
  | .region _ ops _ => asgL ops k ops.toList
  | .seq a b => asgC sm k a || asgC sm k b
  | .cond _ a b => asgC sm k a || asgC sm k b
  | .block _ b => sm || asgC sm k b
  | .loop b => asgC sm k b
  | _ => false

def frz (p : Nat → Bool) : List Nat → List Nat
  | [] => []
  | k :: l => match p k with
    | true => frz p l
    | false => k :: frz p l

theorem frz_in {p : Nat → Bool} : ∀ {l : List Nat} {u : Nat}, inNs u (frz p l) = true → p u = false ∧ inNs u l = true
  | [], u, h => by cases h
  | k :: l, u, h => by
    unfold frz at h
    have cons : inNs u l = true → inNs u (k :: l) = true := fun e => by
      unfold inNs
      split
      · rfl
      · exact e
    split at h
    · exact ⟨(frz_in h).1, cons (frz_in h).2⟩
    · rename_i hp
      unfold inNs at h
      split at h
      · rename_i hb
        have := Nat.eq_of_beq_eq_true hb
        subst this
        exact ⟨hp, by simp [inNs]⟩
      · exact ⟨(frz_in h).1, cons (frz_in h).2⟩

theorem pr_in (sl : List (Nat × AV)) {u : Nat} : ∀ {ks : List Nat}, inNs u ks = true → findF u (pr sl ks) = findF u sl
  | [], h => by cases h
  | k :: ks, h => by
    cases hb : Nat.beq k u with
    | true =>
      have := Nat.eq_of_beq_eq_true hb
      subst this
      simp only [pr, findF, hb]
    | false =>
      have : findF u (pr sl (k :: ks)) = findF u (pr sl ks) := by simp only [pr, findF, hb]
      rw [this]
      refine pr_in sl ?_
      unfold inNs at h
      split at h
      · rename_i hb'
        have := Nat.eq_of_beq_eq_true hb'
        subst this
        simp at hb
      · exact h

/-! ### Names that nothing bears any more -/

def mx (a b : Nat) : Nat := match Nat.ble a b with
  | true => b
  | false => a
theorem mx_l (a b : Nat) : a ≤ mx a b := by
  unfold mx; cases h : Nat.ble a b with
  | true => exact Nat.le_of_ble_eq_true h
  | false => exact Nat.le_refl _
theorem mx_r (a b : Nat) : b ≤ mx a b := by
  unfold mx; cases h : Nat.ble a b with
  | true => exact Nat.le_refl _
  | false =>
    rcases Nat.lt_or_ge b a with h1 | h1
    · exact Nat.le_of_lt h1
    · rw [Nat.ble_eq_true_of_le h1] at h; cases h

def capsTop : List (Nat × Nat × Nat × Nat) → Nat
  | [] => 0
  | (id, _) :: l => mx (id + 1) (capsTop l)
def svTop : SV → Nat
  | .ptr id _ _ _ => id + 1
  | .sl id _ _ _ _ _ => id + 1
  | .su id _ _ _ _ => id + 1
  | .so id _ _ k => mx (id + 1) (k + 1)
  | .fn _ caps => capsTop caps
  | _ => 0
def lTop : List SV → Nat
  | [] => 0
  | s :: l => mx (svTop s) (lTop l)
def ptTop : Pt → Nat
  | .one s => svTop s
  | .agg l => lTop l
def ptsTop : List Pt → Nat
  | [] => 0
  | s :: l => mx (ptTop s) (ptsTop l)
def avTop : AV → Nat
  | .one s => svTop s
  | .agg l => lTop l
  | .tup l => ptsTop l
  | .tie i j => mx (i + 1) (j + 1)
  | _ => 0
def slTop : List (Nat × AV) → Nat
  | [] => 0
  | (_, a) :: l => mx (avTop a) (slTop l)
def blTop : Blk → Option Nat
  | .box l => some (lTop l)
  | .cols _ _ => some 0
  | .row _ _ _ => none
  | .grow _ _ k _ => some (k + 1)
def ownOK (k : Nat) : Nat → Mem → Bool
  | 0, _ => true
  | _ + 1, [] => true
  | n + 1, none :: m => ownOK k n m
  | n + 1, some B :: m => match blTop B with
    | some t => match Nat.ble t k with
      | true => ownOK k n m
      | false => false
    | none => false

def cutF (base : Mem) (f : FSt) : FSt :=
  let k := mx base.length (slTop f.sl)
  match ownOK k (k - base.length) (f.mem.drop base.length) with
  | true => ⟨f.sl, base ++ (f.mem.drop base.length).take (k - base.length)⟩
  | false => f

theorem cutR_get {ρ : Rho} {k id : Nat} (h : id < k) : cutR ρ k id = ρ id := if_pos h

theorem caps_cut {ρ : Rho} {k : Nat} : ∀ {l : List (Nat × Nat × Nat × Nat)} {vs : List Value}, capsTop l ≤ k → capsRel ρ l vs → capsRel (cutR ρ k) l vs
  | [], [], _, _ => trivial
  | (id, _, _, _) :: l, _ :: _, h, ⟨⟨b, o, h1, h2⟩, h3⟩ => by
    have a1 := mx_l (id + 1) (capsTop l)
    have a2 := mx_r (id + 1) (capsTop l)
    have h' : mx (id + 1) (capsTop l) ≤ k := h
    exact ⟨⟨b, o, by rw [cutR_get (by omega)]; exact h1, h2⟩, caps_cut (by omega) h3⟩

theorem sv_cut {ρ : Rho} {k : Nat} {s : SV} {v : Value} (h : svTop s ≤ k) (hr : s.rel ρ v) : s.rel (cutR ρ k) v := by
  cases s with
  | ptr id sz i j => obtain ⟨b, o, h1, h2⟩ := hr; exact ⟨b, o, by rw [cutR_get h]; exact h1, h2⟩
  | sl id sz i len cap kn => obtain ⟨b, o, h1, h2⟩ := hr; exact ⟨b, o, by rw [cutR_get h]; exact h1, h2⟩
  | su id sz i len kn => obtain ⟨a, cap, h1, h2, h3⟩ := hr; exact ⟨a, cap, h1, h2, fun hl => by obtain ⟨b, o, k1, k2⟩ := h3 hl; exact ⟨b, o, by rw [cutR_get h]; exact k1, k2⟩⟩
  | so id sz len q =>
    have a1 := mx_l (id + 1) (q + 1)
    have a2 := mx_r (id + 1) (q + 1)
    have h' : mx (id + 1) (q + 1) ≤ k := h
    obtain ⟨b, cap, h1, h2, h3, h4⟩ := hr
    exact ⟨b, cap, by rw [cutR_get (by omega)]; exact h1, by rw [cutR_get (by omega)]; exact h2, h3, h4⟩
  | fn f caps => obtain ⟨vs, h1, h2⟩ := hr; exact ⟨vs, h1, caps_cut h h2⟩
  | _ => exact hr

theorem l_cut {ρ : Rho} {k : Nat} : ∀ {l : List SV} {vs : List Value}, lTop l ≤ k → RelL ρ l vs → RelL (cutR ρ k) l vs
  | [], [], _, _ => trivial
  | s :: l, _ :: _, h, ⟨h1, h2⟩ => by
    have a1 := mx_l (svTop s) (lTop l)
    have a2 := mx_r (svTop s) (lTop l)
    have h' : mx (svTop s) (lTop l) ≤ k := h
    exact ⟨sv_cut (by omega) h1, l_cut (by omega) h2⟩

theorem pt_cut {ρ : Rho} {k : Nat} {p : Pt} {v : Value} (h : ptTop p ≤ k) (hr : p.rel ρ v) : p.rel (cutR ρ k) v := by
  cases p with
  | one s => exact sv_cut h hr
  | agg l => obtain ⟨cs, h1, h2⟩ := hr; exact ⟨cs, h1, l_cut h h2⟩

theorem pts_cut {ρ : Rho} {k : Nat} : ∀ {l : List Pt} {vs : List Value}, ptsTop l ≤ k → RelP ρ l vs → RelP (cutR ρ k) l vs
  | [], [], _, _ => trivial
  | s :: l, _ :: _, h, ⟨h1, h2⟩ => by
    have a1 := mx_l (ptTop s) (ptsTop l)
    have a2 := mx_r (ptTop s) (ptsTop l)
    have h' : mx (ptTop s) (ptsTop l) ≤ k := h
    exact ⟨pt_cut (by omega) h1, pts_cut (by omega) h2⟩

theorem av_cut {ρ : Rho} {k : Nat} {a : AV} {v : Value} (h : avTop a ≤ k) (hr : a.rel ρ v) : a.rel (cutR ρ k) v := by
  cases a with
  | one s => exact sv_cut h hr
  | agg l => obtain ⟨cs, h1, h2⟩ := hr; exact ⟨cs, h1, l_cut h h2⟩
  | tup l => obtain ⟨cs, h1, h2⟩ := hr; exact ⟨cs, h1, pts_cut h h2⟩
  | und => exact hr
  | any => trivial
  | tie i j =>
    have a1 := mx_l (i + 1) (j + 1)
    have a2 := mx_r (i + 1) (j + 1)
    have h' : mx (i + 1) (j + 1) ≤ k := h
    obtain ⟨p, h1, h2⟩ := hr
    exact ⟨p, by rw [cutR_get (by omega)]; exact h1, by rw [cutR_get (by omega)]; exact h2⟩

theorem slTop_get : ∀ (l : List (Nat × AV)) (t : Nat), avTop (findF t l) ≤ slTop l
  | [], t => Nat.zero_le _
  | (u, a) :: l, t => by
    have a1 := mx_l (avTop a) (slTop l)
    have a2 := mx_r (avTop a) (slTop l)
    show avTop (findF t ((u, a) :: l)) ≤ mx (avTop a) (slTop l)
    cases hb : Nat.beq u t with
    | true => simp only [findF, hb]; exact a1
    | false => simp only [findF, hb]; exact Nat.le_trans (slTop_get l t) a2

theorem lTop_get : ∀ (l : List SV) (j : Nat) (s : SV), l[j]? = some s → svTop s ≤ lTop l
  | [], j, s, h => by simp at h
  | x :: l, 0, s, h => by simp at h; subst h; exact mx_l _ _
  | x :: l, j + 1, s, h => Nat.le_trans (lTop_get l j s (by simpa using h)) (mx_r _ _)

theorem bl_cut {ρ : Rho} {k t : Nat} {w : World} {b o : Nat} {B : Blk} (hB : blTop B = some t) (h : t ≤ k) (hb : BlkAt ρ w b o B) : BlkAt (cutR ρ k) w b o B := by
  obtain ⟨c, e, fz, h1, h2, h3⟩ := hb
  have hx : B.ext (cutR ρ k) o c e fz := by
    cases B with
    | grow n cs q u =>
      cases hB
      obtain ⟨q1, cap, q2, q3⟩ := h3
      exact ⟨q1, cap, by rw [cutR_get (by omega)]; exact q2, q3⟩
    | _ => trivial
  refine ⟨c, e, fz, h1, fun i hi j hj => ?_, hx⟩
  obtain ⟨v, s, a1, a2, a3⟩ := h2 i hi j hj
  refine ⟨v, s, a1, a2, ?_⟩
  cases B with
  | grow n cs q u =>
    have hz : ∀ (cs : List Col) (j : Nat) (s : SV), (colsAt cs i)[j]? = some s → svTop s = 0 := by
      intro cs
      induction cs with
      | nil => intro j s h; simp [colsAt] at h
      | cons x cs ih =>
        intro j s h
        cases j with
        | zero => simp [colsAt] at h; subst h; cases x <;> rfl
        | succ j => exact ih j s (by simpa [colsAt] using h)
    exact sv_cut (by rw [hz cs j s a2]; exact Nat.zero_le _) a3
  | box l =>
    cases hB
    exact sv_cut (Nat.le_trans (lTop_get l j s a2) h) a3
  | cols n cs =>
    have hz : ∀ (cs : List Col) (j : Nat) (s : SV), (colsAt cs i)[j]? = some s → svTop s = 0 := by
      intro cs
      induction cs with
      | nil => intro j s h; simp [colsAt] at h
      | cons x cs ih =>
        intro j s h
        cases j with
        | zero => simp [colsAt] at h; subst h; cases x <;> rfl
        | succ j => exact ih j s (by simpa [colsAt] using h)
    exact sv_cut (by rw [hz cs j s a2]; exact Nat.zero_le _) a3
  | row n sz g => cases hB

theorem ownOK_get {k : Nat} : ∀ (n : Nat) (m : Mem), ownOK k n m = true → ∀ (i : Nat) (B : Blk), i < n → m[i]? = some (some B) → ∃ t, blTop B = some t ∧ t ≤ k
  | 0, m, _, i, B, hi, _ => by omega
  | n + 1, [], _, i, B, _, h => by simp at h
  | n + 1, none :: m, hk, i, B, hi, h => by
    cases i with
    | zero => simp at h
    | succ i => exact ownOK_get n m hk i B (by omega) (by simpa using h)
  | n + 1, some C :: m, hk, i, B, hi, h => by
    unfold ownOK at hk
    split at hk
    · rename_i t ht
      split at hk
      · rename_i hle
        cases i with
        | zero => simp at h; subst h; exact ⟨t, ht, Nat.le_of_ble_eq_true hle⟩
        | succ i => exact ownOK_get n m hk i B (by omega) (by simpa using h)
      · cases hk
    · cases hk

theorem ConcF.cut {n : Nat} {B : Nat → Prop} {w0 : World} {ρ0 ρ : Rho} {a : Act} {w : World} {base : Mem} {f : FSt} (hb : Base B w0 ρ0 base) (h : ConcF n B base.length w0 ρ0 ρ a w f) : ∃ ρ', ConcF n B base.length w0 ρ0 ρ' a w (cutF base f) := by
  unfold cutF
  dsimp only
  generalize hk : mx base.length (slTop f.sl) = k
  have k1 : base.length ≤ k := by rw [← hk]; exact mx_l _ _
  have k2 : slTop f.sl ≤ k := by rw [← hk]; exact mx_r _ _
  split
  · rename_i hok
    refine ⟨cutR ρ k, ?_⟩
    have hlen : base.length ≤ f.mem.length := h.conc.len
    have hml : (base ++ (f.mem.drop base.length).take (k - base.length)).length ≤ k := by
      simp only [List.length_append, List.length_take, List.length_drop]; omega
    have hget : ∀ id C, base.length ≤ id → (base ++ (f.mem.drop base.length).take (k - base.length))[id]? = some (some C) → id < k ∧ f.mem[id]? = some (some C) ∧ ∃ t, blTop C = some t ∧ t ≤ k := by
      intro id C hid hC
      rw [List.getElem?_append_right hid, List.getElem?_take] at hC
      split at hC
      · rename_i hlt
        obtain ⟨t, h1, h2⟩ := ownOK_get _ _ hok (id - base.length) C hlt hC
        rw [List.getElem?_drop, show base.length + (id - base.length) = id by omega] at hC
        exact ⟨by omega, hC, t, h1, h2⟩
      · cases hC
    have hle0 : ρ0.le (cutR ρ k) := by
      intro id p e
      by_cases hid : id < base.length
      · rw [cutR_get (by omega), h.conc.keep id hid]; exact e
      · rw [hb.dom id (by omega)] at e; cases e
    have low : ∀ id C, id < base.length → (base ++ (f.mem.drop base.length).take (k - base.length))[id]? = some (some C) → ∃ b o, cutR ρ k id = some (b, o) ∧ BlkAt (cutR ρ k) w b o C ∧ B b := by
      intro id C hid hC
      rw [List.getElem?_append_left hid] at hC
      obtain ⟨b, o, h1, h2, h3⟩ := hb.blk id C hC
      exact ⟨b, o, hle0 _ _ h1, h2.mono hle0 (h.conc.below.block b h3), h3⟩
    refine ⟨⟨h.conc.defers, anySlots _ _, ⟨fun id hid => ?_, fun id C hC => ?_⟩, ⟨fun id C hid hC => ?_, fun i j bi oi bj oj hi hij hCi hCj h1 h2 => ?_⟩, h.conc.below, h.conc.size, fun id hid => ?_, ?_⟩, h.nle, fun t => av_cut (Nat.le_trans (slTop_get f.sl t) k2) (h.slots t)⟩
    · by_cases hik : id < k
      · rw [cutR_get hik]
        refine h.conc.mem.dom id ?_
        have hid' : (base ++ (f.mem.drop base.length).take (k - base.length)).length ≤ id := hid
        simp only [List.length_append, List.length_take, List.length_drop] at hid'
        show f.mem.length ≤ id
        omega
      · exact if_neg hik
    · by_cases hid : id < base.length
      · obtain ⟨b, o, h1, h2, _⟩ := low id C hid hC
        exact ⟨b, o, h1, h2⟩
      · obtain ⟨q1, q2, t, q3, q4⟩ := hget id C (by omega) hC
        obtain ⟨b, o, h1, h2⟩ := h.conc.mem.blk id C q2
        exact ⟨b, o, by rw [cutR_get q1]; exact h1, bl_cut q3 q4 h2⟩
    · obtain ⟨q1, q2, _⟩ := hget id C hid hC
      obtain ⟨b, h1, h2, h3⟩ := h.conc.own.low id C hid q2
      exact ⟨b, by rw [cutR_get q1]; exact h1, h2, h3⟩
    · obtain ⟨Ci, hCi⟩ := hCi
      obtain ⟨Cj, hCj⟩ := hCj
      obtain ⟨q1, q2, _⟩ := hget i Ci hi hCi
      by_cases hj : j < base.length
      · obtain ⟨b, o, k3, _, k5⟩ := low j Cj hj hCj
        obtain ⟨b', k6, k7, _⟩ := h.conc.own.low i Ci hi q2
        rw [cutR_get q1, k6] at h1; cases h1
        rw [k3] at h2; cases h2
        exact fun e => k7 (e ▸ k5)
      · obtain ⟨r1, r2, _⟩ := hget j Cj (by omega) hCj
        rw [cutR_get q1] at h1
        rw [cutR_get r1] at h2
        exact h.conc.own.inj i j bi oi bj oj hi hij ⟨Ci, q2⟩ ⟨Cj, r2⟩ h1 h2
    · rw [cutR_get (by omega)]; exact h.conc.keep id hid
    · show base.length ≤ (base ++ (f.mem.drop base.length).take (k - base.length)).length
      rw [List.length_append]; omega
  · exact ⟨ρ, h⟩

/-! ### Code -/

def evLoopF (body : FSt → T (EX × FSt)) : Nat → FSt → T (EX × FSt)
  | 0, _ => .fail
  | n + 1, st => (body st).bind fun r =>
    match r.1 with
    | .normal => evLoopF body n r.2
    | e => .leaf (e, r.2)

/-- Summaries of parts of a function's body. -/
structure SumF (P : Program) (n : Nat) (root : Code) where
  path : List Nat
  run : Mem → FSt → T (EX × FSt)
  ok : ∀ c, subR root path = some c → ∀ (base : Mem) (B : Nat → Prop) (w0 : World) (ρ0 ρ : Rho) (a : Act) (w : World) (f : FSt), Base B w0 ρ0 base → ConcF n B base.length w0 ρ0 ρ a w f → ∀ Q : Exit → Act → World → Prop,
    ((run base f).holds fun r => ∀ ρ' a' w', ConcF n B base.length w0 ρ0 ρ' a' w' r.2 → Q r.1.ex a' w') → c.wp P Q a w

def lookF {P : Program} {n : Nat} {root : Code} : List (SumF P n root) → List Nat → Option (SumF P n root)
  | [], _ => none
  | s :: r, p => if s.path = p then some s else lookF r p

theorem lookF_path {P : Program} {n : Nat} {root : Code} : ∀ {ss : List (SumF P n root)} {p : List Nat} {s : SumF P n root}, lookF ss p = some s → s.path = p
  | [], _, _, h => by cases h
  | d :: r, p, s, h => by
    unfold lookF at h
    split at h
    · cases h; assumption
    · exact lookF_path h

def smB {P : Program} {n : Nat} {root : Code} : List (SumF P n root) → Bool
  | [] => false
  | _ :: _ => true

def evCodeF (P : Program) (n : Nat) (env : List (Ctr P)) (root : Code) (ss : List (SumF P n root)) (base : Mem) (ks : List Nat) : Code → List Nat → FSt → T (EX × FSt)
  | .skip, _, f => .leaf (.normal, f)
  | .region _ ops d, _, f => mrgK (inNs 199 ks) (frz (fun k => asgL ops k ops.toList) ks) (upTo (stL (wrE env) ops.toList) f.mem.length) base (tidyK (keepT ks) ((match d with
      | true => evDrawF P n env base.length ops f
      | false => evOpsF P env base.length ops ops.toList f).bind fun f' => .leaf (.normal, ⟨pr f'.sl ks, f'.mem⟩)))
  | .seq a b, p, f => (evCodeF P n env root ss base ks a (0 :: p) f).bind fun r =>
    match r.1 with
    | .normal => evCodeF P n env root ss base ks b (1 :: p) r.2
    | e => .leaf (e, r.2)
  | .cond c t e, p, f =>
    match lkF f c with
    | .one (.tt true) => evCodeF P n env root ss base ks t (0 :: p) f
    | .one (.tt false) => evCodeF P n env root ss base ks e (1 :: p) f
    | .one (.bo c) => mrgK (inNs 199 ks) (frz (fun k => asgC (smB ss) k t || asgC (smB ss) k e) ks) (upTo (stC (wrE env) t || stC (wrE env) e) f.mem.length) base (.ite c (evCodeF P n env root ss base ks t (0 :: p) f) (evCodeF P n env root ss base ks e (1 :: p) f))
    | _ => .fail
  | .block id body, p, f =>
    match lookF ss p with
    | some s => s.run base f
    | none => (mrgK (inNs 199 ks) (frz (fun k => asgC (smB ss) k body) ks) 0 base ((evCodeF P n env root ss base ks body (0 :: p) f).bind fun r =>
      match r.1 with
      | .exit id' => match Nat.beq id' id with
        | true => .leaf (.normal, r.2)
        | false => .leaf (.exit id', r.2)
      | e => .leaf (e, r.2))).bind fun r => .leaf (r.1, cutF base r.2)
  | .loop body, p, f => evLoopF (evCodeF P n env root ss base ks body (0 :: p)) 300 f
  | .ret, _, f => .leaf (.ret, f)
  | .exit id, _, f => .leaf (.exit id, f)
  | _, _, _ => .fail

def dstC (n : Nat) : Code → Bool
  | .region _ ops _ => dstsB n ops.toList
  | .seq a b => dstC n a && dstC n b
  | .cond _ a b => dstC n a && dstC n b
  | .block _ b => dstC n b
  | .loop b => dstC n b
  | _ => true

theorem evLoopF_ok {P : Program} {n : Nat} {B : Nat → Prop} {m0 : Nat} {w0 : World} {ρ0 : Rho} {c : Code} {body : FSt → T (EX × FSt)} (hb : ∀ (ρ : Rho) (a : Act) (w : World) (st : FSt), ConcF n B m0 w0 ρ0 ρ a w st → ∀ Q : Exit → Act → World → Prop, ((body st).holds fun r => ∀ ρ' a' w', ConcF n B m0 w0 ρ0 ρ' a' w' r.2 → Q r.1.ex a' w') → c.wp P Q a w)
    {Q : Exit → Act → World → Prop} : ∀ (k : Nat) (ρ : Rho) (a : Act) (w : World) (st : FSt), ConcF n B m0 w0 ρ0 ρ a w st → ((evLoopF body k st).holds fun r => ∀ ρ' a' w', ConcF n B m0 w0 ρ0 ρ' a' w' r.2 → Q r.1.ex a' w') → Code.rounds P c Q k a w
  | 0, _, _, _, _, _, h => h.elim
  | k + 1, ρ, a, w, st, hc, h => by
    rw [rounds_succ]
    refine hb ρ a w st hc _ (T.holds_mono (T.holds_bind h) fun r hh ρ' a' w' hc' => ?_)
    obtain ⟨e, st'⟩ := r
    cases e with
    | normal => exact evLoopF_ok hb k ρ' a' w' st' hc' hh
    | ret => exact hh ρ' a' w' hc'
    | exit id => exact hh ρ' a' w' hc'

theorem evLoopF_lv {k : Nat} {v : AV} {body : FSt → T (EX × FSt)} (hb : ∀ f, findF k f.sl = v → (body f).lv fun r => findF k r.2.sl = v) : ∀ (m : Nat) (f : FSt), findF k f.sl = v → (evLoopF body m f).lv fun r => findF k r.2.sl = v
  | 0, _, _ => trivial
  | m + 1, f, h => by
    unfold evLoopF
    refine T.lv_bind (p := fun r : EX × FSt => findF k r.2.sl = v) (fun r hr => ?_) (hb f h)
    split
    · exact evLoopF_lv hb m r.2 hr
    · exact hr

theorem cutF_sl (base : Mem) (f : FSt) : (cutF base f).sl = f.sl := by
  unfold cutF
  dsimp only
  split <;> rfl

theorem kp_of {us : List Nat} {t : T (EX × FSt)} {f : FSt} (h : ∀ u, inNs u us = true → t.lv fun r => findF u r.2.sl = findF u f.sl) : t.lv (KpU us fun u => findF u f.sl) :=
  T.lv_all (p := fun u (r : EX × FSt) => findF u r.2.sl = findF u f.sl) (s := fun u => inNs u us = true) h

theorem mrg_one {q : Bool} {us : List Nat} {L : Nat} {base : Mem} {t : T (EX × FSt)} {f : FSt} {u : Nat} (hu : inNs u us = true) (h : t.lv (KpU us fun u => findF u f.sl)) : (mrgK q us L base t).lv fun r => findF u r.2.sl = findF u f.sl :=
  T.lv_mono (fun r hr => hr u hu) (mrgK_lv base h)

theorem frz_mem {p : Nat → Bool} {u : Nat} (hp : p u = false) : ∀ {l : List Nat}, inNs u l = true → inNs u (frz p l) = true
  | [], h => by cases h
  | k :: l, h => by
    unfold inNs at h
    split at h
    · rename_i hb
      have := Nat.eq_of_beq_eq_true hb
      subst this
      simp [frz, hp, inNs]
    · unfold frz
      split
      · exact frz_mem hp h
      · unfold inNs
        split
        · rfl
        · exact frz_mem hp h

theorem region_kp {P : Program} {n : Nat} {env : List (Ctr P)} {base : Mem} {ks : List Nat} (ops : Array Oper) (d : Bool) (f : FSt) {u : Nat} (hu : inNs u ks = true) (ha : asgL ops u ops.toList = false) :
    (tidyK (keepT ks) ((match d with
      | true => evDrawF P n env base.length ops f
      | false => evOpsF P env base.length ops ops.toList f).bind fun f' => .leaf (EX.normal, (⟨pr f'.sl ks, f'.mem⟩ : FSt)))).lv fun r => findF u r.2.sl = findF u f.sl := by
  refine T.lv_tidyK (T.lv_bind (p := fun f' => findF u f'.sl = findF u f.sl) (fun f' hf' => ?_) ?_)
  · exact (pr_in f'.sl hu).trans hf'
  cases d with
  | true => exact evDrawF_lv f ha
  | false => exact evOpsF_lv f ha rfl

theorem evCodeF_lv {P : Program} {n : Nat} {env : List (Ctr P)} {root : Code} {ss : List (SumF P n root)} {base : Mem} {ks : List Nat} : ∀ (c : Code) (p : List Nat) (f : FSt) (u : Nat), inNs u ks = true → asgC (smB ss) u c = false →
    (evCodeF P n env root ss base ks c p f).lv fun r => findF u r.2.sl = findF u f.sl := by
  intro c
  induction c with
  | skip => intro p f u _ _; exact rfl
  | region id ops d =>
    intro p f u hu ha
    unfold evCodeF
    refine mrg_one (frz_mem ha hu) (kp_of fun q hq => ?_)
    obtain ⟨h1, h2⟩ := frz_in hq
    exact region_kp ops d f h2 h1
  | seq x y ihx ihy =>
    intro p f u hu ha
    have ha : asgC (smB ss) u x = false ∧ asgC (smB ss) u y = false := by simpa [asgC] using ha
    unfold evCodeF
    refine T.lv_bind (fun r hr => ?_) (ihx (0 :: p) f u hu ha.1)
    split
    · exact T.lv_mono (fun r' hr' => hr'.trans hr) (ihy (1 :: p) r.2 u hu ha.2)
    · exact hr
  | cond x t e iht ihe =>
    intro p f u hu ha
    have ha : asgC (smB ss) u t = false ∧ asgC (smB ss) u e = false := by simpa [asgC] using ha
    unfold evCodeF
    split
    · exact iht (0 :: p) f u hu ha.1
    · exact ihe (1 :: p) f u hu ha.2
    · refine mrg_one (frz_mem (by simp [ha.1, ha.2]) hu) (kp_of fun q hq => ?_)
      obtain ⟨h1, h2⟩ := frz_in hq
      have h1 : asgC (smB ss) q t = false ∧ asgC (smB ss) q e = false := by simpa using h1
      exact ⟨iht (0 :: p) f q h2 h1.1, ihe (1 :: p) f q h2 h1.2⟩
    · trivial
  | block id body ih =>
    intro p f u hu ha
    have ha : smB ss = false ∧ asgC (smB ss) u body = false := by simpa [asgC] using ha
    unfold evCodeF
    split
    · rename_i s hs
      cases ss with
      | nil => cases hs
      | cons _ _ => exact absurd ha.1 (by simp [smB])
    · refine T.lv_bind (p := fun r => findF u r.2.sl = findF u f.sl) (fun r hr => ?_) ?_
      · exact (congrArg (findF u) (cutF_sl base r.2)).trans hr
      refine mrg_one (frz_mem ha.2 hu) (kp_of fun q hq => ?_)
      obtain ⟨h1, h2⟩ := frz_in hq
      refine T.lv_bind (fun r hr => ?_) (ih (0 :: p) f q h2 h1)
      split
      · split
        · exact hr
        · exact hr
      · exact hr
  | loop body ih =>
    intro p f u hu ha
    unfold evCodeF
    exact evLoopF_lv (fun g hg => T.lv_mono (fun r hr => hr.trans hg) (ih (0 :: p) g u hu ha)) 300 f rfl
  | ret => intro p f u _ _; exact rfl
  | exit id => intro p f u _ _; exact rfl
  | _ => intros; exact trivial

theorem kpM_zero {b : Nat} {M : Mem} (t : T (EX × FSt)) : t.lv fun r => KpM b 0 M r.2 :=
  T.lv_any (fun r => ⟨Nat.zero_le _, fun k B _ h _ => absurd h (Nat.not_lt_zero _)⟩) t

theorem kpM_self (b : Nat) (f : FSt) : KpM b f.mem.length f.mem f := ⟨Nat.le_refl _, fun _ _ _ _ h => h⟩

theorem region_mem {P : Program} {n : Nat} {env : List (Ctr P)} {base : Mem} {ks : List Nat} (ops : Array Oper) (d : Bool) {f : FSt} {b L : Nat} {M : Mem} (ha : stL (wrE env) ops.toList = false) (hf : KpM b L M f) :
    (tidyK (keepT ks) ((match d with
      | true => evDrawF P n env base.length ops f
      | false => evOpsF P env base.length ops ops.toList f).bind fun f' => .leaf (EX.normal, (⟨pr f'.sl ks, f'.mem⟩ : FSt)))).lv fun r => KpM b L M r.2 := by
  refine T.lv_tidyK (T.lv_bind (p := fun f' => KpM b L M f') (fun f' hf' => ?_) ?_)
  · exact kpM_sl (sl := f'.sl) hf'
  cases d with
  | true => exact evDrawF_mem ha hf
  | false => exact evOpsF_mem ha hf

theorem evCodeF_mem {P : Program} {n : Nat} {env : List (Ctr P)} {root : Code} {ss : List (SumF P n root)} {base : Mem} {ks : List Nat} {L : Nat} {M : Mem} : ∀ (c : Code) (p : List Nat) (f : FSt), stC (wrE env) c = false → KpM base.length L M f →
    (evCodeF P n env root ss base ks c p f).lv fun r => KpM base.length L M r.2 := by
  intro c
  induction c with
  | skip => intro p f _ h; exact h
  | region id ops d =>
    intro p f ha hf
    unfold evCodeF
    have ha : stL (wrE env) ops.toList = false := ha
    rw [ha]
    exact mrgK_mem hf.len base (region_mem ops d ha hf)
  | seq x y ihx ihy =>
    intro p f ha hf
    have ha : stC (wrE env) x = false ∧ stC (wrE env) y = false := by simpa [stC] using ha
    unfold evCodeF
    refine T.lv_bind (fun r hr => ?_) (ihx (0 :: p) f ha.1 hf)
    split
    · exact ihy (1 :: p) r.2 ha.2 hr
    · exact hr
  | cond x t e iht ihe =>
    intro p f ha hf
    have ha' : (stC (wrE env) t || stC (wrE env) e) = false := ha
    have ha : stC (wrE env) t = false ∧ stC (wrE env) e = false := by simpa [stC] using ha
    unfold evCodeF
    split
    · exact iht (0 :: p) f ha.1 hf
    · exact ihe (1 :: p) f ha.2 hf
    · rw [ha']
      exact mrgK_mem hf.len base ⟨iht (0 :: p) f ha.1 hf, ihe (1 :: p) f ha.2 hf⟩
    · trivial
  | ret => intro p f _ h; exact h
  | exit id => intro p f _ h; exact h
  | block id body ih => intro p f h; cases h
  | loop body ih => intro p f h; cases h
  | _ => intros; exact trivial

theorem evCodeF_ok {P : Program} (hmix : P.follows .mixedOrders = true) {n : Nat} {env : List (Ctr P)} {root : Code} {ss : List (SumF P n root)} {base : Mem} {ks : List Nat} {B : Nat → Prop} {w0 : World} {ρ0 : Rho} (hb : Base B w0 ρ0 base) : ∀ (c : Code) (p : List Nat), subR root p = some c → dstC n c = true →
    ∀ (ρ : Rho) (a : Act) (w : World) (f : FSt), ConcF n B base.length w0 ρ0 ρ a w f → ∀ Q : Exit → Act → World → Prop,
    ((evCodeF P n env root ss base ks c p f).holds fun r => ∀ ρ' a' w', ConcF n B base.length w0 ρ0 ρ' a' w' r.2 → Q r.1.ex a' w') → c.wp P Q a w := by
  intro c
  have weak : ∀ {Q : Exit → Act → World → Prop} {q : Bool} {us : List Nat} {g : Nat → AV} {L : Nat} {M : Mem} {t : T (EX × FSt)}, t.lv (KpU us g) → (t.lv fun r => KpM base.length L M r.2) → ((mrgK q us L base t).holds fun r => ∀ ρ' a' w', ConcF n B base.length w0 ρ0 ρ' a' w' r.2 → Q r.1.ex a' w') → t.holds fun r => ∀ ρ' a' w', ConcF n B base.length w0 ρ0 ρ' a' w' r.2 → Q r.1.ex a' w' :=
    fun {Q q us g L M t} hl hm h => (mrgK_ok base t hl hm).out _ (fun e s u hle hu ρ' a' w' hc => hu ρ' a' w' (hc.le hb hle)) h
  induction c with
  | skip => intro p _ _ ρ a w f hc Q h; exact wp_skip (h ρ a w hc)
  | region id ops d =>
    intro p hp hds ρ a w f hc Q h
    unfold evCodeF at h
    have h := T.holds_bind (tidyK_holds (weak (g := fun u => findF u f.sl) (kp_of fun q hq => region_kp ops d f (frz_in hq).2 (frz_in hq).1) (M := f.mem) (by
      cases hst : stL (wrE env) ops.toList with
      | true => exact kpM_zero _
      | false => exact region_mem ops d hst (kpM_self _ f)) h))
    have less : ∀ {ρ' : Rho} {a' : Act} {w' : World} {f' : FSt}, ConcF n B base.length w0 ρ0 ρ' a' w' f' → ConcF n B base.length w0 ρ0 ρ' a' w' ⟨pr f'.sl ks, f'.mem⟩ := fun {ρ' a' w' f'} hc' =>
      ⟨hc'.conc, hc'.nle, fun t => by
        rcases pr_get f'.sl t ks with e | e
        · show AV.rel _ (findF t (pr f'.sl ks)) _; rw [e]; exact hc'.slots t
        · show AV.rel _ (findF t (pr f'.sl ks)) _; rw [e]; trivial⟩
    cases d with
    | true => exact evDrawF_ok hmix hc id ops hds Q (T.holds_mono h fun f' hh ρ' a' w' hc' => hh ρ' a' w' (less hc'))
    | false => exact wp_region_list (evOpsF_ok ops.toList hds hc (T.holds_mono h fun f' hh ρ' a' w' hc' => hh ρ' a' w' (less hc')))
  | seq x y ihx ihy =>
    intro p hp hds ρ a w f hc Q h
    simp only [dstC, Bool.and_eq_true] at hds
    unfold evCodeF at h
    refine wp_seq (ihx (0 :: p) (by simp [subR, hp, Code.child]) hds.1 ρ a w f hc _ (T.holds_mono (T.holds_bind h) fun r hh ρ' a' w' hc' => ?_))
    obtain ⟨e, st'⟩ := r
    cases e with
    | normal => exact ihy (1 :: p) (by simp [subR, hp, Code.child]) hds.2 ρ' a' w' st' hc' Q hh
    | ret => exact hh ρ' a' w' hc'
    | exit id => exact hh ρ' a' w' hc'
  | cond x t e iht ihe =>
    intro p hp hds ρ a w f hc Q h
    simp only [dstC, Bool.and_eq_true] at hds
    unfold evCodeF at h
    have hx := lkF_ok hc x
    split at h
    · rename_i hbx; rw [hbx] at hx
      exact wp_cond_true hx (iht (0 :: p) (by simp [subR, hp, Code.child]) hds.1 ρ a w f hc Q h)
    · rename_i hbx; rw [hbx] at hx
      exact wp_cond_false hx (ihe (1 :: p) (by simp [subR, hp, Code.child]) hds.2 ρ a w f hc Q h)
    · rename_i q hbx; rw [hbx] at hx
      have h := weak (g := fun u => findF u f.sl) (kp_of fun q hq => by
        obtain ⟨h1, h2⟩ := frz_in hq
        have h1 : asgC (smB ss) q t = false ∧ asgC (smB ss) q e = false := by simpa using h1
        exact ⟨evCodeF_lv t (0 :: p) f q h2 h1.1, evCodeF_lv e (1 :: p) f q h2 h1.2⟩) (M := f.mem) (by
        cases hst : (stC (wrE env) t || stC (wrE env) e) with
        | true => exact kpM_zero _
        | false =>
          have ha : stC (wrE env) t = false ∧ stC (wrE env) e = false := by simpa using hst
          exact ⟨evCodeF_mem t (0 :: p) f ha.1 (kpM_self _ f), evCodeF_mem e (1 :: p) f ha.2 (kpM_self _ f)⟩) h
      refine wp_cond_split (t := q) hx (fun hq => ?_) (fun hq => ?_)
      · exact iht (0 :: p) (by simp [subR, hp, Code.child]) hds.1 ρ a w f hc Q (h.1 hq)
      · exact ihe (1 :: p) (by simp [subR, hp, Code.child]) hds.2 ρ a w f hc Q (h.2 hq)
    · exact h.elim
  | block id body ih =>
    intro p hp hds ρ a w f hc Q h
    unfold evCodeF at h
    split at h
    · rename_i s hs
      have hpath := lookF_path hs
      exact s.ok _ (by rw [hpath]; exact hp) base B w0 ρ0 ρ a w f hb hc Q h
    · have h := T.holds_mono (T.holds_bind h) (fun r (hr : ∀ ρ' a' w', ConcF n B base.length w0 ρ0 ρ' a' w' (cutF base r.2) → Q r.1.ex a' w') => (fun ρ' a' w' hc' => by
        obtain ⟨ρ'', hc''⟩ := ConcF.cut hb hc'
        exact hr ρ'' a' w' hc'' : ∀ ρ' a' w', ConcF n B base.length w0 ρ0 ρ' a' w' r.2 → Q r.1.ex a' w'))
      refine wp_block (ih (0 :: p) (by simp [subR, hp, Code.child]) hds ρ a w f hc _ (T.holds_mono (T.holds_bind (weak (g := fun u => findF u f.sl) (kp_of fun q hq => by
        obtain ⟨h1, h2⟩ := frz_in hq
        refine T.lv_bind (fun r hr => ?_) (evCodeF_lv body (0 :: p) f q h2 h1)
        split
        · split
          · exact hr
          · exact hr
        · exact hr) (M := []) (kpM_zero _) h)) fun r hh ρ' a' w' hc' => ?_))
      obtain ⟨e, st'⟩ := r
      cases e with
      | normal => exact hh ρ' a' w' hc'
      | ret => exact hh ρ' a' w' hc'
      | exit id' =>
        show (if id' = id then Q .normal a' w' else Q (.exit id') a' w')
        simp only [] at hh
        split at hh
        · rename_i he; rw [if_pos (Nat.eq_of_beq_eq_true he)]; exact hh ρ' a' w' hc'
        · rename_i he
          rw [if_neg (fun e => by subst e; simp at he)]; exact hh ρ' a' w' hc'
  | loop body ih =>
    intro p hp hds ρ a w f hc Q h
    unfold evCodeF at h
    exact wp_loop_rounds 300 (evLoopF_ok (fun ρ a w st hc Q h => ih (0 :: p) (by simp [subR, hp, Code.child]) hds ρ a w st hc Q h) 300 ρ a w f hc h)
  | ret => intro p _ _ ρ a w f hc Q h; exact wp_ret (h ρ a w hc)
  | exit id => intro p _ _ ρ a w f hc Q h; exact wp_exit (h ρ a w hc)
  | _ => intros; rename_i h; exact h.elim

/-! ### A function -/

def evResF (P : Program) (f : FSt) : ResultVar → T Pt
  | .tmp t => toPt (findF t f.sl)
  | .cell a t =>
    match findF a f.sl with
    | .one p => (evLoad P f.mem t p).bind toPt
    | _ => .fail

def evResLF (P : Program) (f : FSt) : List ResultVar → T (List Pt)
  | [] => .leaf []
  | r :: rs => (evResF P f r).bind fun p => (evResLF P f rs).bind fun ps => .leaf (p :: ps)

/-- A list of slots as few slots. -/
def enumF : Nat → List AV → List (Nat × AV)
  | _, [] => []
  | k, a :: l => (k, a) :: enumF (k + 1) l

theorem enumF_get (t : Nat) : ∀ (l : List AV) (k : Nat), findF t (enumF k l) = .any ∨ (k ≤ t ∧ l[t - k]? = some (findF t (enumF k l)))
  | [], k => .inl rfl
  | a :: l, k => by
    cases hb : Nat.beq k t with
    | true =>
      have := Nat.eq_of_beq_eq_true hb
      subst this
      exact .inr ⟨Nat.le_refl _, by simp [enumF, findF]⟩
    | false =>
      have hne : k ≠ t := fun e => by subst e; simp at hb
      have e : findF t (enumF k (a :: l)) = findF t (enumF (k + 1) l) := by simp only [enumF, findF, hb]
      rw [e]
      rcases enumF_get t l (k + 1) with h | ⟨h1, h2⟩
      · exact .inl h
      · refine .inr ⟨by omega, ?_⟩
        rw [show t - k = (t - (k + 1)) + 1 by omega]
        simpa using h2

/-- A contract out of a function's body, by the names of the memory that it is given. -/
def mkF0 (P : Program) (hmix : P.follows .mixedOrders = true) (env : List (Ctr P)) (f : FuncId) (fn : Func) (root : Code) (hf : P.funcs[f]? = some fn) (hname : (fn.name == "runtime.NumGoroutine") = false)
    (hb : fn.body = some root) (ks : List Nat) (n : Nat) (hn : Nat.ble n fn.ntmps = true) (hds : dstC n root = true) (ss : List (SumF P n root)) : Ctr P :=
  {
    f := f
    run := fun args mem => (evCodeF P n env root ss mem ks root [] ⟨enumF 0 args, mem⟩).bind fun r =>
      match r.1 with
      | .exit _ => .fail
      | _ => (evResLF P r.2 fn.results.toList).bind fun ps => .leaf (packRes ps, if ptsPtr ps then r.2.mem.drop mem.length else [])
    ok := by
      intro args mem ρ w vals hm ha o a K Q h
      have hcall : (callFunc f vals).run P w = .ok (.enter f vals) w := by
        have h1 : fn.name ≠ "runtime.NumGoroutine" := by simpa using hname
        simp [callFunc, hf, h1, hb]
      rw [hcall]
      show Calls P f vals w _
      refine calls_of_wp hf hb ?_
      have hbase : Base (fun k => k < w.heap.size) w ρ mem := ⟨hm.dom, fun id C hC => by
        obtain ⟨b, q, h1, h2⟩ := hm.blk id C hC
        exact ⟨b, q, h1, h2, h2.lt⟩⟩
      have hnle : n ≤ fn.ntmps := Nat.le_of_ble_eq_true hn
      have hc : ConcF n (fun k => k < w.heap.size) mem.length w ρ ρ { tmps := vals ++ Array.replicate (fn.ntmps - vals.size) undef, defers := [] } w ⟨enumF 0 args, mem⟩ := by
        have hlt : ∀ (id : Nat) (C : Blk), mem[id]? = some (some C) → id < mem.length := fun id C h => (List.getElem?_eq_some_iff.1 h).1
        refine ⟨⟨rfl, anySlots ρ _, hm, ⟨fun id C hid hC => ?_, fun i j bi oi bj oj hi _ hC => ?_⟩, Bel.refl _ _, fun _ h => h, fun _ _ => rfl, Nat.le_refl _⟩, by simp; omega, fun t => ?_⟩
        · have := hlt id C hC
          omega
        · obtain ⟨C, hC⟩ := hC
          have := hlt i C hC
          omega
        · rcases enumF_get t args 0 with e | ⟨_, e⟩
          · show AV.rel ρ (findF t (enumF 0 args)) _; rw [e]; trivial
          · have hs := (start_slots ha fn.ntmps).2 t
            have ht : t < args.length := by
              have := (List.getElem?_eq_some_iff.1 e).1; omega
            have e2 : (args ++ List.replicate (fn.ntmps - args.length) AV.und).getD t .und = findF t (enumF 0 args) := by
              simp only [List.getD]
              rw [List.getElem?_append_left ht]
              have e' : args[t]? = some (findF t (enumF 0 args)) := e
              rw [e']; rfl
            rw [e2] at hs
            exact hs
      refine evCodeF_ok hmix hbase root [] rfl hds ρ _ w _ hc _ (T.holds_mono (T.holds_bind h) fun r hh ρ' a' w' hc' => ?_)
      obtain ⟨e, st⟩ := r
      have one : ∀ (r : ResultVar) {Φ : Pt → Prop}, (evResF P st r).holds Φ → ∃ p v, Φ p ∧ p.rel ρ' v ∧ (resSem a'.tmps r).run P w' = .ok v w' := by
        intro r Φ h
        cases r with
        | tmp t =>
          obtain ⟨p, h1, h2⟩ := toPt_ok (hc'.slots t) h
          exact ⟨p, _, h1, h2, rfl⟩
        | cell b t =>
          have hb := hc'.slots b
          simp only [evResF] at h
          split at h <;> try exact h.elim
          rename_i s hsv
          rw [hsv] at hb
          obtain ⟨v, h1, p, h2, h3⟩ := evLoad_ok (P := P) (w := w') hc'.conc.mem t hb (fun v => ∃ p, Φ p ∧ p.rel ρ' v) (T.holds_mono (T.holds_bind h) fun x hx v hv => toPt_ok hv hx)
          refine ⟨p, v, h2, h3, ?_⟩
          have hptr : ∃ ad, a'.tmps.getD b undef = .pointer (some ad) := by
            generalize a'.tmps.getD b undef = u at *
            unfold Instr.loadAt at h1
            rw [Sem.run_bind] at h1
            cases u <;> simp [Instr.sureAddr] at h1
            case pointer ad =>
              cases ad with
              | some ad => exact ⟨ad, rfl⟩
              | none => simp at h1
          obtain ⟨ad, had⟩ := hptr
          rw [had] at h1
          simp only [resSem]
          rw [had]
          simpa [Instr.loadAt, Instr.sureAddr, asAddr] using h1
      have all : ∀ (rs : List ResultVar) {Φ : List Pt → Prop}, (evResLF P st rs).holds Φ → ∃ ps vs, Φ ps ∧ RelP ρ' ps vs ∧ ps.length = vs.length ∧ (rs.mapM (resSem a'.tmps)).run P w' = .ok vs w' := by
        intro rs
        induction rs with
        | nil => intro Φ h; exact ⟨[], [], h, trivial, rfl, by simp⟩
        | cons r rs ih =>
          intro Φ h
          obtain ⟨p, v, h1, h2, h3⟩ := one r (T.holds_bind h)
          obtain ⟨ps, vs, k1, k2, k3, k4⟩ := ih (T.holds_bind h1)
          refine ⟨p :: ps, v :: vs, k1, ⟨h2, k2⟩, by simp [k3], ?_⟩
          simp [List.mapM_cons, h3, k4]
      have fin : (((evResLF P st fn.results.toList).bind fun ps => T.leaf (packRes ps, if ptsPtr ps then st.mem.drop mem.length else [])).holds fun r => ∀ ρ' w' v, New ρ ρ' w w' mem.length r.2 → r.1.rel ρ' v → K (a.put o.dst v) w') →
          a'.defers = [] ∧ ∃ v, (results fn a'.tmps).run P w' = .ok v w' ∧ K (a.put o.dst v) w' := by
        intro hh
        obtain ⟨ps, vs, h1, h2, h3, h4⟩ := all _ (T.holds_bind hh)
        have hrun : (results fn a'.tmps).run P w' = .ok (if h : vs.toArray.size = 1 then vs.toArray[0] else .tuple vs.toArray) w' := by
          have e : results fn a'.tmps = (do let us ← fn.results.mapM (resSem a'.tmps); pure (if h : us.size = 1 then us[0] else .tuple us)) := by
            unfold results
            congr 1
          rw [e, Array.mapM_eq_mapM_toList]
          simp [h4]
        refine ⟨hc'.conc.defers, _, hrun, ?_⟩
        have hrel : ∀ ρ'', (ρ'' = ρ' ∨ ptsPtr ps = false) → (packRes ps).rel ρ'' (if h : vs.toArray.size = 1 then vs.toArray[0] else .tuple vs.toArray) := by
          intro ρ'' hρ'
          have h2' : RelP ρ'' ps vs := by
            rcases hρ' with rfl | hp
            · exact h2
            · exact ptsPtr_rel hp h2
          match ps, vs, h2', h3 with
          | [], [], hr, _ => exact ⟨#[], rfl, hr⟩
          | [p], [v], hr, _ => exact Pt.av_rel hr.1
          | p :: q :: ps, v :: u :: vs, hr, _ =>
            have : ¬ ((v :: u :: vs).toArray.size = 1) := by simp
            rw [dif_neg this]
            exact ⟨_, rfl, hr⟩
        generalize (if h : vs.toArray.size = 1 then vs.toArray[0] else Value.tuple vs.toArray) = v at *
        have h1 : ∀ ρ' w' v, New ρ ρ' w w' mem.length (if ptsPtr ps then st.mem.drop mem.length else []) → (packRes ps).rel ρ' v → K (a.put o.dst v) w' := h1
        by_cases hp : ptsPtr ps = true
        · rw [if_pos hp] at h1
          have hlen : mem.length ≤ st.mem.length := hc'.conc.len
          refine h1 ρ' w' v ?_ (hrel ρ' (.inl rfl))
          refine ⟨fun id hid => hc'.conc.keep id hid, fun id hid => ?_, hc'.conc.below.up, fun i C hC => ?_, fun i j b ob b' ob' hij hCi hCj hi hj => ?_⟩
          · refine hc'.conc.mem.dom id ?_
            show st.mem.length ≤ id
            rw [List.length_drop] at hid
            omega
          · rw [List.getElem?_drop] at hC
            obtain ⟨b, k1, k2, k3⟩ := hc'.conc.own.low _ C (by omega) hC
            obtain ⟨b', o', k4, k5⟩ := hc'.conc.mem.blk _ C hC
            rw [k1] at k4; cases k4
            exact ⟨b, k1, Nat.le_of_not_lt k2, k5, k3⟩
          · obtain ⟨C1, hC1⟩ := hCi
            obtain ⟨C2, hC2⟩ := hCj
            rw [List.getElem?_drop] at hC1 hC2
            exact hc'.conc.own.inj _ _ b ob b' ob' (by omega) (by omega) ⟨C1, hC1⟩ ⟨C2, hC2⟩ hi hj
        · have hp' : ptsPtr ps = false := by simpa using hp
          rw [if_neg hp] at h1
          exact h1 ρ w' v (New.refl ρ w w' _ hm.dom hc'.conc.below.up) (hrel ρ (.inr hp'))
      cases e with
      | normal => exact fin hh
      | ret => exact fin hh
      | exit id => exact hh.elim }

/-- A CONTRACT OUT OF A FUNCTION's BODY, walked with few slots and with states made one. -/
def mkF (P : Program) (hmix : P.follows .mixedOrders = true) (env : List (Ctr P)) (f : FuncId) (fn : Func) (root : Code) (hf : P.funcs[f]? = some fn) (hname : (fn.name == "runtime.NumGoroutine") = false)
    (hb : fn.body = some root) (ks : List Nat) (n : Nat) (hn : Nat.ble n fn.ntmps = true) (hds : dstC n root = true) (ss : List (SumF P n root) := []) : Ctr P :=
  Ctr.own (Ctr.mg (mkF0 P hmix env f fn root hf hname hb ks n hn hds ss))

end Go.Proofs.Ytdmcpgbnomhahaa
