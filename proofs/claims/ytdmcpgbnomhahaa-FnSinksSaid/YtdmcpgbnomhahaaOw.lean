/-
  The symbolic walk: lists of operations, code, a function. No conditions.
-/
import Derived.Test.YtdmcpgbnomhahaaOz
import Derived.LoopN
namespace Go.Proofs.Ytdmcpgbnomhahaa
set_option linter.unusedVariables false
set_option linter.unusedSimpArgs false
open Go.RowKit

/-- A state of the machine, known as a state of the walk. -/
structure Conc (B : Nat → Prop) (m0 : Nat) (w0 : World) (ρ0 ρ : Rho) (a : Act) (w : World) (st : St) : Prop where
  defers : a.defers = []
  slots : SlotsOK ρ st.sl a.tmps
  mem : MemOK ρ w st.mem
  own : Own B m0 ρ w st.mem
  below : Bel B w0 w
  size : ∀ k, B k → k < w.heap.size
  keep : ∀ id, id < m0 → ρ id = ρ0 id
  len : m0 ≤ st.mem.length

theorem Conc.put {B : Nat → Prop} {m0 : Nat} {w0 : World} {ρ0 : Rho} {ρ : Rho} {a : Act} {w : World} {st : St} (h : Conc B m0 w0 ρ0 ρ a w st) (dst : Option Tmp) {r : AV} {v : Value} (hr : r.rel ρ v) :
    Conc B m0 w0 ρ0 ρ (a.put dst v) w { st with sl := putSl st.sl dst r } :=
  ⟨by cases dst <;> exact h.defers, h.slots.put dst hr, h.mem, h.own, h.below, h.size, h.keep, h.len⟩

theorem Conc.new {B : Nat → Prop} {m0 : Nat} {w0 : World} {ρ0 : Rho} {ρ ρ' : Rho} {a : Act} {w w' : World} {st : St} {new : Mem} (h : Conc B m0 w0 ρ0 ρ a w st) (hn : New ρ ρ' w w' st.mem.length new) :
    Conc B m0 w0 ρ0 ρ' a w' { st with mem := st.mem ++ new } := by
  have hle := hn.le h.mem
  refine ⟨h.defers, h.slots.mono hle, h.mem.step hn, ⟨fun id C hid hC => ?_, fun i j bi oi bj oj hi hij hCi hCj h1 h2 => ?_⟩, h.below.trans (Bel.of hn.below h.size), fun k hk => Nat.lt_of_lt_of_le (h.size k hk) hn.below.size, fun id hid => (hn.keep id (Nat.lt_of_lt_of_le hid h.len)).trans (h.keep id hid), by have := h.len; show m0 ≤ (st.mem ++ new).length; simp; omega⟩
  · by_cases hlt : id < st.mem.length
    · rw [List.getElem?_append_left hlt] at hC
      obtain ⟨b, h1, h2, h3⟩ := h.own.low id C hid hC
      exact ⟨b, hle _ _ h1, h2, h3.of (hn.below.block b h3.lt)⟩
    · rw [List.getElem?_append_right (by omega)] at hC
      obtain ⟨b, h1, h2, _, h3⟩ := hn.blk _ C hC
      rw [show st.mem.length + (id - st.mem.length) = id by omega] at h1
      exact ⟨b, h1, fun hb => by have := h.size b hb; omega, h3⟩
  · -- two names
    have old : ∀ id C b o, id < st.mem.length → (st.mem ++ new)[id]? = some (some C) → ρ' id = some (b, o) → b < w.heap.size ∧ ρ id = some (b, o) ∧ st.mem[id]? = some (some C) := by
      intro id C b o hlt hC hρ
      rw [List.getElem?_append_left hlt] at hC
      obtain ⟨b', o', h1, h2⟩ := h.mem.blk id C hC
      rw [hn.keep id hlt, h1] at hρ; cases hρ
      exact ⟨h2.lt, h1, hC⟩
    have fresh : ∀ id C b o, ¬ id < st.mem.length → (st.mem ++ new)[id]? = some (some C) → ρ' id = some (b, o) → w.heap.size ≤ b ∧ new[id - st.mem.length]? = some (some C) := by
      intro id C b o hlt hC hρ
      rw [List.getElem?_append_right (by omega)] at hC
      obtain ⟨b', h1, h2, _⟩ := hn.blk _ C hC
      rw [show st.mem.length + (id - st.mem.length) = id by omega, hρ] at h1; cases h1
      exact ⟨h2, hC⟩
    obtain ⟨Ci, hCi⟩ := hCi
    obtain ⟨Cj, hCj⟩ := hCj
    by_cases hli : i < st.mem.length
    · obtain ⟨a1, a2, a3⟩ := old i Ci bi oi hli hCi h1
      by_cases hlj : j < st.mem.length
      · obtain ⟨b1, b2, b3⟩ := old j Cj bj oj hlj hCj h2
        exact h.own.inj i j bi oi bj oj hi hij ⟨Ci, a3⟩ ⟨Cj, b3⟩ a2 b2
      · obtain ⟨b1, _⟩ := fresh j Cj bj oj hlj hCj h2
        omega
    · obtain ⟨a1, a2⟩ := fresh i Ci bi oi hli hCi h1
      by_cases hlj : j < st.mem.length
      · obtain ⟨b1, _⟩ := old j Cj bj oj hlj hCj h2
        omega
      · obtain ⟨b1, b2⟩ := fresh j Cj bj oj hlj hCj h2
        refine hn.inj (i - st.mem.length) (j - st.mem.length) bi oi bj oj (by omega) ⟨Ci, a2⟩ ⟨Cj, b2⟩ ?_ ?_
        · rw [show st.mem.length + (i - st.mem.length) = i by omega]; exact h1
        · rw [show st.mem.length + (j - st.mem.length) = j by omega]; exact h2

/-- One operation on a state. -/
def evOp (P : Program) (env : List (Ctr P)) (m0 : Nat) (o : Oper) (st : St) : T St :=
  match o.op with
  | .store t x v =>
    match evOpd st.sl x, (evOpd st.sl v).cells with
    | .one p, some cells => (evStore P m0 st.mem t p cells).bind fun mem' => .leaf { sl := putSl st.sl o.dst .und, mem := mem' }
    | _, _ => .fail
  | op => (evQ P env (evOpd st.sl) st.mem op).bind fun r => .leaf { sl := putSl st.sl o.dst r.1, mem := st.mem ++ r.2 }

theorem evOp_ok {P : Program} {env : List (Ctr P)} {B : Nat → Prop} {m0 : Nat} {w0 : World} {ρ0 : Rho} {ρ : Rho} {a : Act} {w : World} {st : St} {o : Oper} {K : Act → World → Prop} {Q : Exit → Act → World → Prop} (hc : Conc B m0 w0 ρ0 ρ a w st)
    (h : (evOp P env m0 o st).holds fun st' => ∀ ρ' a' w', Conc B m0 w0 ρ0 ρ' a' w' st' → K a' w') : o.wp P a w K Q := by
  unfold evOp at h
  split at h
  · rename_i t x v ho
    split at h <;> try exact h.elim
    rename_i p cells hp hcells
    have hx := evOpd_ok hc.slots x
    rw [hp] at hx
    obtain ⟨w', hr, hk⟩ := evStore_ok hc.mem hc.own t hx (AV.cells_ok hcells (evOpd_ok hc.slots v)) (fun w' => K (a.put o.dst undef) w')
      (T.holds_mono (T.holds_bind h) fun mem' hh w' h1 h2 h3 h4 h5 => by
        refine hh ρ _ w' ?_
        refine Conc.put (st := { st with mem := mem' }) ⟨hc.defers, hc.slots, h1, h2, hc.below.trans h3, fun k hk => by rw [h4]; exact hc.size k hk, hc.keep, by have := hc.len; show m0 ≤ mem'.length; omega⟩ o.dst (r := .und) rfl)
    unfold Oper.wp
    have he : execOp a.eval o = (do Instr.storeAt t (a.eval x) (a.eval v); pure .skip) := by unfold execOp; rw [ho] <;> rfl
    rw [he, Sem.run_bind, hr]
    exact hk
  · exact evQ_ok hc.mem (evOpd_ok hc.slots) (T.holds_mono (T.holds_bind h) fun r hh ρ' w' v hn hv => hh ρ' _ w' ((hc.new hn).put o.dst hv))

/-! ### A list of operations -/

/-- The slot that a guard looks at. -/
def guardSlot (ops : Array Oper) (g : Nat) : Option Tmp := (ops[g]?).bind (·.dst)

def evOps (P : Program) (env : List (Ctr P)) (m0 : Nat) (ops : Array Oper) : List Oper → St → T St
  | [], st => .leaf st
  | o :: rest, st =>
    let run := fun st => (evOp P env m0 o st).bind (evOps P env m0 ops rest)
    let skip := fun (st : St) => evOps P env m0 ops rest { st with sl := putSl st.sl o.dst .und }
    match o.guard with
    | none => run st
    | some (g, want) =>
      match guardSlot ops g with
      | none => skip st
      | some t =>
        match st.sl.getD t .und with
        | .one (.tt b) => if b = want then run st else skip st
        | .one (.bo c) => .ite c (let st' := { st with sl := st.sl.set t (.one (.tt true)) }; if true = want then run st' else skip st') (let st' := { st with sl := st.sl.set t (.one (.tt false)) }; if false = want then run st' else skip st')
        | .und => skip st
        | _ => .fail

theorem yielded_bool {tmps : Array Value} {ops : Array Oper} {g : Nat} {t : Tmp} (hg : guardSlot ops g = some t) {b : Bool} (h : tmps.getD t undef = .bool b) : yielded ops tmps g = some b := by
  unfold guardSlot at hg
  unfold yielded
  have hv : tmps.getD t undef = .bool b := h
  simp only [hg, Option.bind_some]
  have : tmps[t]? = some (.bool b) := by
    by_cases hlt : t < tmps.size
    · simp [hlt] at hv ⊢; exact hv
    · simp [hlt] at hv; cases hv
  rw [this]

theorem yielded_und {tmps : Array Value} {ops : Array Oper} {g : Nat} {t : Tmp} (hg : guardSlot ops g = some t) (h : tmps.getD t undef = undef) : yielded ops tmps g = none := by
  unfold guardSlot at hg
  unfold yielded
  simp only [hg, Option.bind_some]
  by_cases hlt : t < tmps.size
  · simp [hlt] at h ⊢; rw [h]; rfl
  · have : tmps[t]? = none := Array.getElem?_eq_none (Nat.le_of_not_lt hlt)
    rw [this]

theorem yielded_none {tmps : Array Value} {ops : Array Oper} {g : Nat} (hg : guardSlot ops g = none) : yielded ops tmps g = none := by
  unfold guardSlot at hg
  unfold yielded
  rw [hg]; rfl

theorem slots_known {ρ : Rho} {sl : List AV} {tmps : Array Value} (hs : SlotsOK ρ sl tmps) {t : Tmp} {c b : Bool} (hb : sl.getD t .und = .one (.bo c)) (hc : c = b) : SlotsOK ρ (sl.set t (.one (.tt b))) tmps := by
  refine ⟨by simp [hs.1], fun u => ?_⟩
  have h := hs.2 u
  by_cases hu : t = u
  · subst hu
    rw [hb] at h
    by_cases hl : t < sl.length
    · rw [show (sl.set t (.one (.tt b))).getD t .und = .one (.tt b) by simp [List.getD, hl]]
      subst hc; exact h
    · exfalso
      have : sl.getD t .und = .und := by simp [List.getD, hl]
      rw [this] at hb; cases hb
  · rw [show (sl.set t (.one (.tt b))).getD u .und = sl.getD u .und by simp [List.getD, hu]]
    exact h

theorem evOps_ok {P : Program} {env : List (Ctr P)} {B : Nat → Prop} {m0 : Nat} {w0 : World} {ρ0 : Rho} {ops : Array Oper} {Q : Exit → Act → World → Prop} : ∀ (l : List Oper) {ρ : Rho} {a : Act} {w : World} {st : St}, Conc B m0 w0 ρ0 ρ a w st →
    ((evOps P env m0 ops l st).holds fun st' => ∀ ρ' a' w', Conc B m0 w0 ρ0 ρ' a' w' st' → Q .normal a' w') → wpList P ops Q l a w
  | [], ρ, a, w, st, hc, h => h ρ a w hc
  | o :: rest, ρ, a, w, st, hc, h => by
    have run : ∀ {st : St}, Conc B m0 w0 ρ0 ρ a w st → Region.wanted o (yielded ops a.tmps) = true → (((evOp P env m0 o st).bind (evOps P env m0 ops rest)).holds fun st' => ∀ ρ' a' w', Conc B m0 w0 ρ0 ρ' a' w' st' → Q .normal a' w') → wpList P ops Q (o :: rest) a w := by
      intro st hc hw h
      unfold wpList
      rw [if_pos hw]
      exact .inl (evOp_ok hc (T.holds_mono (T.holds_bind h) fun st' hh ρ' a' w' hc' => evOps_ok rest hc' hh))
    have skip : ∀ {st : St}, Conc B m0 w0 ρ0 ρ a w st → Region.wanted o (yielded ops a.tmps) = false → ((evOps P env m0 ops rest { st with sl := putSl st.sl o.dst .und }).holds fun st' => ∀ ρ' a' w', Conc B m0 w0 ρ0 ρ' a' w' st' → Q .normal a' w') → wpList P ops Q (o :: rest) a w := by
      intro st hc hw h
      unfold wpList
      rw [if_neg (by rw [hw]; exact Bool.false_ne_true)]
      exact evOps_ok rest (hc.put o.dst (r := .und) rfl) h
    unfold evOps at h
    simp only [] at h
    split at h
    · rename_i hg
      exact run hc (by simp [Region.wanted, hg]) h
    · rename_i g want hg
      split at h
      · rename_i hgs
        exact skip hc (by simp [Region.wanted, hg, yielded_none hgs]) h
      · rename_i t hgs
        have hgt := hc.slots.2 t
        split at h
        · rename_i b hb
          rw [hb] at hgt
          have hy := yielded_bool hgs hgt
          split at h
          · rename_i hbw; exact run hc (by simp [Region.wanted, hg, hy, hbw]) h
          · rename_i hbw; exact skip hc (by simp [Region.wanted, hg, hy, hbw]) h
        · rename_i c hb
          rw [hb] at hgt
          cases hcv : c with
          | true =>
            have h := h.1 hcv
            have hc' : Conc B m0 w0 ρ0 ρ a w { st with sl := st.sl.set t (.one (.tt true)) } := ⟨hc.defers, slots_known hc.slots hb hcv, hc.mem, hc.own, hc.below, hc.size, hc.keep, hc.len⟩
            have hy := yielded_bool (b := true) hgs (by rw [← hcv]; exact hgt)
            split at h
            · rename_i hbw; exact run hc' (by simp [Region.wanted, hg, hy, ← hbw]) h
            · rename_i hbw; exact skip hc' (by simp [Region.wanted, hg, hy]; simpa using hbw) h
          | false =>
            have h := h.2 hcv
            have hc' : Conc B m0 w0 ρ0 ρ a w { st with sl := st.sl.set t (.one (.tt false)) } := ⟨hc.defers, slots_known hc.slots hb hcv, hc.mem, hc.own, hc.below, hc.size, hc.keep, hc.len⟩
            have hy := yielded_bool (b := false) hgs (by rw [← hcv]; exact hgt)
            split at h
            · rename_i hbw; exact run hc' (by simp [Region.wanted, hg, hy, ← hbw]) h
            · rename_i hbw; exact skip hc' (by simp [Region.wanted, hg, hy]; simpa using hbw) h
        · rename_i hb
          rw [hb] at hgt
          exact skip hc (by simp [Region.wanted, hg, yielded_und hgs hgt]) h
        · exact h.elim

/-! ### Code -/

inductive EX where
  | normal
  | ret
  | exit (id : Nat)

def EX.ex : EX → Exit
  | .normal => .normal
  | .ret => .ret
  | .exit id => .exit id

/-- A piece of code that is known by a summary. -/
def CodeOK (P : Program) (c : Code) (run : Nat → St → T (EX × St)) : Prop :=
  ∀ (B : Nat → Prop) (m0 : Nat) (w0 : World) (ρ0 ρ : Rho) (a : Act) (w : World) (st : St), Conc B m0 w0 ρ0 ρ a w st → ∀ Q : Exit → Act → World → Prop,
    ((run m0 st).holds fun r => ∀ ρ' a' w', Conc B m0 w0 ρ0 ρ' a' w' r.2 → Q r.1.ex a' w') → c.wp P Q a w

/-- The part of a piece of code behind a path (the last step first). -/
def Code.child : Code → Nat → Option Code
  | .seq a _, 0 => some a
  | .seq _ b, 1 => some b
  | .cond _ t _, 0 => some t
  | .cond _ _ e, 1 => some e
  | .block _ b, 0 => some b
  | .loop b, 0 => some b
  | .scope b, 0 => some b
  | _, _ => none

def subR (root : Code) : List Nat → Option Code
  | [] => some root
  | i :: p => (subR root p).bind fun c => Code.child c i

/-- Summaries of parts of a function's body. -/
structure Sum (P : Program) (root : Code) where
  path : List Nat
  run : Nat → St → T (EX × St)
  ok : ∀ c, subR root path = some c → CodeOK P c run

def lookS {P : Program} {root : Code} : List (Sum P root) → List Nat → Option (Sum P root)
  | [], _ => none
  | s :: r, p => if s.path = p then some s else lookS r p

theorem lookS_path {P : Program} {root : Code} : ∀ {ss : List (Sum P root)} {p : List Nat} {s : Sum P root}, lookS ss p = some s → s.path = p
  | [], _, _, h => by cases h
  | d :: r, p, s, h => by
    unfold lookS at h
    split at h
    · cases h; assumption
    · exact lookS_path h

def evLoop (body : St → T (EX × St)) : Nat → St → T (EX × St)
  | 0, _ => .fail
  | n + 1, st => (body st).bind fun r =>
    match r.1 with
    | .normal => evLoop body n r.2
    | e => .leaf (e, r.2)

def evCode (P : Program) (env : List (Ctr P)) (root : Code) (ss : List (Sum P root)) (m0 : Nat) (draw : Array Oper → St → T St) : Code → List Nat → St → T (EX × St)
  | .skip, _, st => .leaf (.normal, st)
  | .region _ ops d, _, st => ((if d then draw ops st else evOps P env m0 ops ops.toList st)).bind fun st' => .leaf (.normal, st')
  | .seq a b, p, st => (evCode P env root ss m0 draw a (0 :: p) st).bind fun r =>
    match r.1 with
    | .normal => evCode P env root ss m0 draw b (1 :: p) r.2
    | e => .leaf (e, r.2)
  | .cond c t e, p, st =>
    match evOpd st.sl c with
    | .one (.tt true) => evCode P env root ss m0 draw t (0 :: p) st
    | .one (.tt false) => evCode P env root ss m0 draw e (1 :: p) st
    | .one (.bo c) => .ite c (evCode P env root ss m0 draw t (0 :: p) st) (evCode P env root ss m0 draw e (1 :: p) st)
    | _ => .fail
  | .block id body, p, st =>
    match lookS ss p with
    | some s => s.run m0 st
    | none => (evCode P env root ss m0 draw body (0 :: p) st).bind fun r =>
      match r.1 with
      | .exit id' => if id' = id then .leaf (.normal, r.2) else .leaf (.exit id', r.2)
      | e => .leaf (e, r.2)
  | .loop body, p, st => evLoop (evCode P env root ss m0 draw body (0 :: p)) 80 st
  | .ret, _, st => .leaf (.ret, st)
  | .exit id, _, st => .leaf (.exit id, st)
  | _, _, _ => .fail

/-- A region that draws its order, walked some way. -/
def DrawOK (P : Program) (m0 : Nat) (draw : Array Oper → St → T St) : Prop :=
  ∀ (B : Nat → Prop) (w0 : World) (ρ0 ρ : Rho) (a : Act) (w : World) (st : St), Conc B m0 w0 ρ0 ρ a w st → ∀ (id : Nat) (ops : Array Oper) (Q : Exit → Act → World → Prop),
    ((draw ops st).holds fun st' => ∀ ρ' a' w', Conc B m0 w0 ρ0 ρ' a' w' st' → Q .normal a' w') → (Code.region id ops true).wp P Q a w

theorem ex_then {K : Act → World → Prop} {Q : Exit → Act → World → Prop} {e : EX} {a : Act} {w : World} (h : e = .normal → K a w) (k : e ≠ .normal → Q e.ex a w) : Exit.then K Q e.ex a w := by
  cases e with
  | normal => exact h rfl
  | ret => exact k (by simp)
  | exit id => exact k (by simp)

theorem evLoop_ok {P : Program} {B : Nat → Prop} {m0 : Nat} {w0 : World} {ρ0 : Rho} {c : Code} {body : St → T (EX × St)} (hb : ∀ (ρ : Rho) (a : Act) (w : World) (st : St), Conc B m0 w0 ρ0 ρ a w st → ∀ Q : Exit → Act → World → Prop, ((body st).holds fun r => ∀ ρ' a' w', Conc B m0 w0 ρ0 ρ' a' w' r.2 → Q r.1.ex a' w') → c.wp P Q a w)
    {Q : Exit → Act → World → Prop} : ∀ (n : Nat) (ρ : Rho) (a : Act) (w : World) (st : St), Conc B m0 w0 ρ0 ρ a w st → ((evLoop body n st).holds fun r => ∀ ρ' a' w', Conc B m0 w0 ρ0 ρ' a' w' r.2 → Q r.1.ex a' w') → Code.rounds P c Q n a w
  | 0, _, _, _, _, _, h => h.elim
  | n + 1, ρ, a, w, st, hc, h => by
    rw [rounds_succ]
    refine hb ρ a w st hc _ (T.holds_mono (T.holds_bind h) fun r hh ρ' a' w' hc' => ?_)
    obtain ⟨e, st'⟩ := r
    cases e with
    | normal => exact evLoop_ok hb n ρ' a' w' st' hc' hh
    | ret => exact hh ρ' a' w' hc'
    | exit id => exact hh ρ' a' w' hc'

theorem evCode_ok {P : Program} {env : List (Ctr P)} {root : Code} {ss : List (Sum P root)} {m0 : Nat} {draw : Array Oper → St → T St} (hd : DrawOK P m0 draw) : ∀ (c : Code) (p : List Nat), subR root p = some c →
    ∀ (B : Nat → Prop) (w0 : World) (ρ0 ρ : Rho) (a : Act) (w : World) (st : St), Conc B m0 w0 ρ0 ρ a w st → ∀ Q : Exit → Act → World → Prop,
    ((evCode P env root ss m0 draw c p st).holds fun r => ∀ ρ' a' w', Conc B m0 w0 ρ0 ρ' a' w' r.2 → Q r.1.ex a' w') → c.wp P Q a w := by
  intro c
  induction c with
  | skip => intro p _ B w0 ρ0 ρ a w st hc Q h; exact wp_skip (h ρ a w hc)
  | region id ops d =>
    intro p _ B w0 ρ0 ρ a w st hc Q h
    unfold evCode at h
    have h := T.holds_bind h
    cases d with
    | true => exact hd B w0 ρ0 ρ a w st hc id ops Q h
    | false => exact wp_region_list (evOps_ok ops.toList hc h)
  | seq x y ihx ihy =>
    intro p hp B w0 ρ0 ρ a w st hc Q h
    unfold evCode at h
    refine wp_seq (ihx (0 :: p) (by simp [subR, hp, Code.child]) B w0 ρ0 ρ a w st hc _ (T.holds_mono (T.holds_bind h) fun r hh ρ' a' w' hc' => ?_))
    obtain ⟨e, st'⟩ := r
    cases e with
    | normal => exact ihy (1 :: p) (by simp [subR, hp, Code.child]) B w0 ρ0 ρ' a' w' st' hc' Q hh
    | ret => exact hh ρ' a' w' hc'
    | exit id => exact hh ρ' a' w' hc'
  | cond x t e iht ihe =>
    intro p hp B w0 ρ0 ρ a w st hc Q h
    unfold evCode at h
    have hx := evOpd_ok hc.slots x
    split at h
    · rename_i hb; rw [hb] at hx
      exact wp_cond_true hx (iht (0 :: p) (by simp [subR, hp, Code.child]) B w0 ρ0 ρ a w st hc Q h)
    · rename_i hb; rw [hb] at hx
      exact wp_cond_false hx (ihe (1 :: p) (by simp [subR, hp, Code.child]) B w0 ρ0 ρ a w st hc Q h)
    · rename_i q hb; rw [hb] at hx
      refine wp_cond_split (t := q) hx (fun hq => ?_) (fun hq => ?_)
      · exact iht (0 :: p) (by simp [subR, hp, Code.child]) B w0 ρ0 ρ a w st hc Q (h.1 hq)
      · exact ihe (1 :: p) (by simp [subR, hp, Code.child]) B w0 ρ0 ρ a w st hc Q (h.2 hq)
    · exact h.elim
  | block id body ih =>
    intro p hp B w0 ρ0 ρ a w st hc Q h
    unfold evCode at h
    split at h
    · rename_i s hs
      have hpath := lookS_path hs
      exact s.ok _ (by rw [hpath]; exact hp) B m0 w0 ρ0 ρ a w st hc Q h
    · refine wp_block (ih (0 :: p) (by simp [subR, hp, Code.child]) B w0 ρ0 ρ a w st hc _ (T.holds_mono (T.holds_bind h) fun r hh ρ' a' w' hc' => ?_))
      obtain ⟨e, st'⟩ := r
      cases e with
      | normal => exact hh ρ' a' w' hc'
      | ret => exact hh ρ' a' w' hc'
      | exit id' =>
        show (if id' = id then Q .normal a' w' else Q (.exit id') a' w')
        simp only [] at hh
        split at hh
        · rename_i he; rw [if_pos he]; exact hh ρ' a' w' hc'
        · rename_i he; rw [if_neg he]; exact hh ρ' a' w' hc'
  | loop body ih =>
    intro p hp B w0 ρ0 ρ a w st hc Q h
    unfold evCode at h
    exact wp_loop_rounds 80 (evLoop_ok (fun ρ a w st hc Q h => ih (0 :: p) (by simp [subR, hp, Code.child]) B w0 ρ0 ρ a w st hc Q h) 80 ρ a w st hc h)
  | ret => intro p _ B w0 ρ0 ρ a w st hc Q h; exact wp_ret (h ρ a w hc)
  | exit id => intro p _ B w0 ρ0 ρ a w st hc Q h; exact wp_exit (h ρ a w hc)
  | _ => intros; rename_i h; exact h.elim

end Go.Proofs.Ytdmcpgbnomhahaa
