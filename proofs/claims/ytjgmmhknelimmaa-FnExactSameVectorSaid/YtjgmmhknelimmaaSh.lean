/-
  A function whose arguments hold no pointers, walked with no memory but its own: its new blocks get their names behind the caller's. No conditions.
-/
import Derived.Test.YtjgmmhknelimmaaDr
namespace Go.Proofs.Ytjgmmhknelimmaa
set_option linter.unusedVariables false
set_option linter.unusedSimpArgs false
open Go.RowKit

def shCaps (N : Nat) : List (Nat × Nat × Nat × Nat) → List (Nat × Nat × Nat × Nat)
  | [] => []
  | (id, r) :: l => (id + N, r) :: shCaps N l

def SV.shift (N : Nat) : SV → SV
  | .ptr id sz i j => .ptr (id + N) sz i j
  | .sl id sz i len cap kn => .sl (id + N) sz i len cap kn
  | .fn f caps => .fn f (shCaps N caps)
  | s => s

def shL (N : Nat) : List SV → List SV
  | [] => []
  | s :: l => s.shift N :: shL N l

def Pt.shift (N : Nat) : Pt → Pt
  | .one s => .one (s.shift N)
  | .agg l => .agg (shL N l)

def shP (N : Nat) : List Pt → List Pt
  | [] => []
  | s :: l => s.shift N :: shP N l

def AV.shift (N : Nat) : AV → AV
  | .one s => .one (s.shift N)
  | .agg l => .agg (shL N l)
  | .tup l => .tup (shP N l)
  | .und => .und
  | .any => .any

def Blk.shift (N : Nat) : Blk → Blk
  | .box l => .box (shL N l)
  | .row n sz g => .row n sz fun i => shL N (g i)

def shM (N : Nat) : Mem → Mem
  | [] => []
  | none :: l => none :: shM N l
  | some B :: l => some (B.shift N) :: shM N l

/-- Names are moved. -/
def Rho.sh (N : Nat) (ρ ρ' : Rho) : Prop := ∀ id p, ρ id = some p → ρ' (id + N) = some p

theorem shCaps_rel {N : Nat} {ρ ρ' : Rho} (h : Rho.sh N ρ ρ') : ∀ {l : List (Nat × Nat × Nat × Nat)} {vs : List Value}, capsRel ρ l vs → capsRel ρ' (shCaps N l) vs
  | [], [], _ => trivial
  | (_, _, _, _) :: _, _ :: _, ⟨⟨b, o, h1, h2⟩, h3⟩ => ⟨⟨b, o, h _ _ h1, h2⟩, shCaps_rel h h3⟩

theorem shift_rel {N : Nat} {ρ ρ' : Rho} (h : Rho.sh N ρ ρ') {s : SV} {v : Value} (hr : s.rel ρ v) : (s.shift N).rel ρ' v := by
  cases s <;> first
    | exact hr
    | (obtain ⟨b, o, h1, h2⟩ := hr; exact ⟨b, o, h _ _ h1, h2⟩)
    | (obtain ⟨vs, h1, h2⟩ := hr; exact ⟨vs, h1, shCaps_rel h h2⟩)

theorem shL_rel {N : Nat} {ρ ρ' : Rho} (h : Rho.sh N ρ ρ') : ∀ {l : List SV} {vs : List Value}, RelL ρ l vs → RelL ρ' (shL N l) vs
  | [], [], _ => trivial
  | _ :: _, _ :: _, ⟨h1, h2⟩ => ⟨shift_rel h h1, shL_rel h h2⟩

theorem shPt_rel {N : Nat} {ρ ρ' : Rho} (h : Rho.sh N ρ ρ') {s : Pt} {v : Value} (hr : s.rel ρ v) : (s.shift N).rel ρ' v := by
  cases s with
  | one s => exact shift_rel h hr
  | agg l => obtain ⟨cs, h1, h2⟩ := hr; exact ⟨cs, h1, shL_rel h h2⟩

theorem shP_rel {N : Nat} {ρ ρ' : Rho} (h : Rho.sh N ρ ρ') : ∀ {l : List Pt} {vs : List Value}, RelP ρ l vs → RelP ρ' (shP N l) vs
  | [], [], _ => trivial
  | _ :: _, _ :: _, ⟨h1, h2⟩ => ⟨shPt_rel h h1, shP_rel h h2⟩

theorem shA_rel {N : Nat} {ρ ρ' : Rho} (h : Rho.sh N ρ ρ') {s : AV} {v : Value} (hr : s.rel ρ v) : (s.shift N).rel ρ' v := by
  cases s with
  | one s => exact shift_rel h hr
  | agg l => obtain ⟨cs, h1, h2⟩ := hr; exact ⟨cs, h1, shL_rel h h2⟩
  | tup l => obtain ⟨cs, h1, h2⟩ := hr; exact ⟨cs, h1, shP_rel h h2⟩
  | und => exact hr
  | any => trivial

theorem shL_get (N : Nat) : ∀ (l : List SV) (j : Nat) (s : SV), l[j]? = some s → (shL N l)[j]? = some (s.shift N)
  | [], j, s, h => by simp at h
  | x :: l, 0, s, h => by simp at h; subst h; rfl
  | x :: l, j + 1, s, h => by simpa [shL] using shL_get N l j s (by simpa using h)

theorem shL_length (N : Nat) : ∀ (l : List SV), (shL N l).length = l.length
  | [] => rfl
  | _ :: l => congrArg (· + 1) (shL_length N l)

theorem shB_at {N : Nat} {ρ ρ' : Rho} (h : Rho.sh N ρ ρ') {w : World} {b o : Nat} {B : Blk} (hb : BlkAt ρ w b o B) : BlkAt ρ' w b o (B.shift N) := by
  obtain ⟨c, e, fz, h1, h2⟩ := hb
  refine ⟨c, e, fz, h1, fun i hi j hj => ?_⟩
  have hn : (B.shift N).n = B.n := by cases B <;> rfl
  have hs : (B.shift N).sz = B.sz := by
    cases B with
    | box l => exact shL_length N l
    | row => rfl
  have hg : (B.shift N).get i = shL N (B.get i) := by cases B <;> rfl
  rw [hn] at hi
  rw [hs] at hj ⊢
  obtain ⟨v, s, a1, a2, a3⟩ := h2 i hi j hj
  exact ⟨v, s.shift N, a1, by rw [hg]; exact shL_get N _ _ _ a2, shift_rel h a3⟩

theorem shM_length (N : Nat) : ∀ (m : Mem), (shM N m).length = m.length
  | [] => rfl
  | none :: l => congrArg (· + 1) (shM_length N l)
  | some _ :: l => congrArg (· + 1) (shM_length N l)

theorem shM_get (N : Nat) : ∀ (m : Mem) (i : Nat) (C : Blk), (shM N m)[i]? = some (some C) → ∃ B, m[i]? = some (some B) ∧ C = B.shift N
  | [], i, C, h => by simp [shM] at h
  | none :: l, i, C, h => by
    cases i with
    | zero => simp [shM] at h
    | succ i => simpa using shM_get N l i C (by simpa [shM] using h)
  | some B :: l, i, C, h => by
    cases i with
    | zero => simp [shM] at h; exact ⟨B, rfl, h.symm⟩
    | succ i => simpa using shM_get N l i C (by simpa [shM] using h)

def avPtr : AV → Bool
  | .one s => svPtr s
  | .agg l => svsPtr l
  | .tup l => ptsPtr l
  | .und => false
  | .any => false

def avsPtr : List AV → Bool
  | [] => false
  | s :: l => avPtr s || avsPtr l

theorem avsPtr_rel {ρ ρ' : Rho} : ∀ {l : List AV} {vs : List Value}, avsPtr l = false → RelA ρ l vs → RelA ρ' l vs
  | [], [], _, _ => trivial
  | s :: l, v :: vs, hp, ⟨h1, h2⟩ => by
    simp [avsPtr] at hp
    refine ⟨?_, avsPtr_rel hp.2 h2⟩
    have hp1 := hp.1
    cases s with
    | one s => exact svPtr_rel hp1 h1
    | agg l => obtain ⟨cs, e1, e2⟩ := h1; exact ⟨cs, e1, svsPtr_rel hp1 e2⟩
    | tup l => obtain ⟨cs, e1, e2⟩ := h1; exact ⟨cs, e1, ptsPtr_rel hp1 e2⟩
    | und => exact h1
    | any => trivial

def shRes (N : Nat) (r : Res) : T Res := .leaf (r.1.shift N, shM N r.2)

/-- The contract that is used: by names of its own where no pointer comes in. -/
def Ctr.own {P : Program} (C : Ctr P) : Ctr P where
  f := C.f
  run := fun args mem => if avsPtr args then C.run args mem else (C.run args []).bind (shRes mem.length)
  ok := by
    intro args mem ρ w vals hm ha o a K Q h
    by_cases hp : avsPtr args = true
    · rw [if_pos hp] at h
      exact C.ok args mem ρ w vals hm ha o a K Q h
    · have hp' : avsPtr args = false := by simpa using hp
      rw [if_neg hp] at h
      refine C.ok args [] (fun _ => none) w vals ⟨fun _ _ => rfl, fun id B hB => by simp at hB⟩ (avsPtr_rel hp' ha) o a K Q (T.holds_mono (T.holds_bind h) fun r hh ρ' w' v hn hv => ?_)
      obtain ⟨x, m⟩ := r
      let N := mem.length
      let ρ2 : Rho := fun id => if id < N then ρ id else ρ' (id - N)
      have hsh : Rho.sh N ρ' ρ2 := by
        intro id p e
        show (if id + N < N then ρ (id + N) else ρ' (id + N - N)) = some p
        rw [if_neg (by omega), Nat.add_sub_cancel]; exact e
      refine hh ρ2 w' v ⟨fun id hid => if_pos hid, fun id hid => ?_, hn.below, fun i B hB => ?_, fun i j b ob b' ob' hij hi hj h1 h2 => ?_⟩ (shA_rel hsh hv)
      · have hid' : N + (shM N m).length ≤ id := hid
        rw [shM_length] at hid'
        show (if id < N then ρ id else ρ' (id - N)) = none
        rw [if_neg (by omega)]
        refine hn.dom _ ?_
        show 0 + m.length ≤ id - N
        omega
      · obtain ⟨B', hB', rfl⟩ := shM_get N m i B hB
        obtain ⟨b, k1, k2, k3, k4⟩ := hn.blk i B' hB'
        have k1' : ρ' (0 + i) = some (b, 0) := k1
        refine ⟨b, ?_, k2, shB_at hsh k3, k4⟩
        show (if N + i < N then ρ (N + i) else ρ' (N + i - N)) = _
        rw [if_neg (by omega), Nat.add_sub_cancel_left, ← k1', Nat.zero_add]
      · obtain ⟨B1, hB1⟩ := hi
        obtain ⟨B2, hB2⟩ := hj
        obtain ⟨C1, hC1, _⟩ := shM_get N m i B1 hB1
        obtain ⟨C2, hC2, _⟩ := shM_get N m j B2 hB2
        refine hn.inj i j b ob b' ob' hij ⟨C1, hC1⟩ ⟨C2, hC2⟩ ?_ ?_
        · have : (if N + i < N then ρ (N + i) else ρ' (N + i - N)) = some (b, ob) := h1
          rw [if_neg (by omega), Nat.add_sub_cancel_left] at this
          show ρ' (0 + i) = _
          rw [Nat.zero_add]; exact this
        · have : (if N + j < N then ρ (N + j) else ρ' (N + j - N)) = some (b', ob') := h2
          rw [if_neg (by omega), Nat.add_sub_cancel_left] at this
          show ρ' (0 + j) = _
          rw [Nat.zero_add]; exact this

/-- A contract out of a function's body, every region walked. -/
def mkC (P : Program) (hmix : P.follows .mixedOrders = true) (env : List (Ctr P)) (f : FuncId) (fn : Func) (root : Code) (hf : P.funcs[f]? = some fn) (hname : (fn.name == "runtime.NumGoroutine") = false)
    (hb : fn.body = some root) (ss : List (Sum P root)) : Ctr P :=
  (mkCtr P env (fun _ => evDraw P env) (evDraw_ok hmix env) f fn root hf hname hb ss).own

end Go.Proofs.Ytjgmmhknelimmaa
