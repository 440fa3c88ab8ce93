/-
  A function walked with the memory that its arguments name, and with names of its own: its new blocks get their names behind the caller's. No conditions.
-/
import Derived.Test.YtdmcpgbnomhahaaDr
namespace Go.Proofs.Ytdmcpgbnomhahaa
set_option linter.unusedVariables false
set_option linter.unusedSimpArgs false
open Go.RowKit

/-! ### Other names -/

def rnCaps (r : Nat → Nat) : List (Nat × Nat × Nat × Nat) → List (Nat × Nat × Nat × Nat)
  | [] => []
  | (id, q) :: l => (r id, q) :: rnCaps r l

def SV.rn (r : Nat → Nat) : SV → SV
  | .ptr id sz i j => .ptr (r id) sz i j
  | .sl id sz i len cap kn => .sl (r id) sz i len cap kn
  | .su id sz i len kn => .su (r id) sz i len kn
  | .so id sz len k => .so (r id) sz len (r k)
  | .fn f caps => .fn f (rnCaps r caps)
  | s => s

def rnL (r : Nat → Nat) : List SV → List SV
  | [] => []
  | s :: l => s.rn r :: rnL r l

def Pt.rn (r : Nat → Nat) : Pt → Pt
  | .one s => .one (s.rn r)
  | .agg l => .agg (rnL r l)

def rnP (r : Nat → Nat) : List Pt → List Pt
  | [] => []
  | s :: l => s.rn r :: rnP r l

def AV.rn (r : Nat → Nat) : AV → AV
  | .one s => .one (s.rn r)
  | .agg l => .agg (rnL r l)
  | .tup l => .tup (rnP r l)
  | .und => .und
  | .any => .any
  | .tie i j => .tie (r i) (r j)

def rnAs (r : Nat → Nat) : List AV → List AV
  | [] => []
  | s :: l => s.rn r :: rnAs r l

def Blk.rn (r : Nat → Nat) : Blk → Blk
  | .box l => .box (rnL r l)
  | .row n sz g => .row n sz fun i => rnL r (g i)
  | .cols n cs => .cols n cs
  | .grow n cs k e => .grow n cs (r k) e

def rnM (r : Nat → Nat) : Mem → Mem
  | [] => []
  | none :: l => none :: rnM r l
  | some B :: l => some (B.rn r) :: rnM r l

/-- Names are turned. -/
def Rho.via (r : Nat → Nat) (S : Nat → Prop) (ρ ρ' : Rho) : Prop := ∀ id p, S id → ρ id = some p → ρ' (r id) = some p

/-! Names that occur. -/

def caNames : List (Nat × Nat × Nat × Nat) → List Nat
  | [] => []
  | (id, _) :: l => id :: caNames l
def svNames : SV → List Nat
  | .ptr id _ _ _ => [id]
  | .sl id _ _ _ _ _ => [id]
  | .su id _ _ _ _ => [id]
  | .so id _ _ k => [id, k]
  | .fn _ caps => caNames caps
  | _ => []
def lNames : List SV → List Nat
  | [] => []
  | s :: l => svNames s ++ lNames l
def ptNames : Pt → List Nat
  | .one s => svNames s
  | .agg l => lNames l
def pNames : List Pt → List Nat
  | [] => []
  | s :: l => ptNames s ++ pNames l
def avNames : AV → List Nat
  | .one s => svNames s
  | .agg l => lNames l
  | .tup l => pNames l
  | .tie i j => [i, j]
  | _ => []
def asNames : List AV → List Nat
  | [] => []
  | s :: l => avNames s ++ asNames l

section
variable {r : Nat → Nat} {S : Nat → Prop} {ρ ρ' : Rho}

theorem rnCaps_rel (h : Rho.via r S ρ ρ') : ∀ {l : List (Nat × Nat × Nat × Nat)} {vs : List Value}, (∀ id ∈ caNames l, S id) → capsRel ρ l vs → capsRel ρ' (rnCaps r l) vs
  | [], [], _, _ => trivial
  | (id, _, _, _) :: _, _ :: _, hs, ⟨⟨b, o, h1, h2⟩, h3⟩ => ⟨⟨b, o, h _ _ (hs id (List.Mem.head _)) h1, h2⟩, rnCaps_rel h (fun x hx => hs x (List.Mem.tail _ hx)) h3⟩

theorem rn_rel (h : Rho.via r S ρ ρ') {s : SV} {v : Value} (hs : ∀ id ∈ svNames s, S id) (hr : s.rel ρ v) : (s.rn r).rel ρ' v := by
  cases s <;> first
    | exact hr
    | (obtain ⟨b, o, h1, h2⟩ := hr; exact ⟨b, o, h _ _ (hs _ (List.Mem.head _)) h1, h2⟩)
    | (obtain ⟨vs, h1, h2⟩ := hr; exact ⟨vs, h1, rnCaps_rel h hs h2⟩)
    | (obtain ⟨b, cap, h1, h2, h3, h4⟩ := hr; exact ⟨b, cap, h _ _ (hs _ (List.Mem.head _)) h1, h _ _ (hs _ (List.Mem.tail _ (List.Mem.head _))) h2, h3, h4⟩)
    | (obtain ⟨a, cap, h1, h2, h3⟩ := hr; exact ⟨a, cap, h1, h2, fun hl => by obtain ⟨b, o, k1, k2⟩ := h3 hl; exact ⟨b, o, h _ _ (hs _ (List.Mem.head _)) k1, k2⟩⟩)

theorem rnL_rel (h : Rho.via r S ρ ρ') : ∀ {l : List SV} {vs : List Value}, (∀ id ∈ lNames l, S id) → RelL ρ l vs → RelL ρ' (rnL r l) vs
  | [], [], _, _ => trivial
  | _ :: _, _ :: _, hs, ⟨h1, h2⟩ => ⟨rn_rel h (fun x hx => hs x (List.mem_append_left _ hx)) h1, rnL_rel h (fun x hx => hs x (List.mem_append_right _ hx)) h2⟩

theorem rnPt_rel (h : Rho.via r S ρ ρ') {s : Pt} {v : Value} (hs : ∀ id ∈ ptNames s, S id) (hr : s.rel ρ v) : (s.rn r).rel ρ' v := by
  cases s with
  | one s => exact rn_rel h hs hr
  | agg l => obtain ⟨cs, h1, h2⟩ := hr; exact ⟨cs, h1, rnL_rel h hs h2⟩

theorem rnP_rel (h : Rho.via r S ρ ρ') : ∀ {l : List Pt} {vs : List Value}, (∀ id ∈ pNames l, S id) → RelP ρ l vs → RelP ρ' (rnP r l) vs
  | [], [], _, _ => trivial
  | _ :: _, _ :: _, hs, ⟨h1, h2⟩ => ⟨rnPt_rel h (fun x hx => hs x (List.mem_append_left _ hx)) h1, rnP_rel h (fun x hx => hs x (List.mem_append_right _ hx)) h2⟩

theorem rnA_rel (h : Rho.via r S ρ ρ') {s : AV} {v : Value} (hs : ∀ id ∈ avNames s, S id) (hr : s.rel ρ v) : (s.rn r).rel ρ' v := by
  cases s with
  | one s => exact rn_rel h hs hr
  | agg l => obtain ⟨cs, h1, h2⟩ := hr; exact ⟨cs, h1, rnL_rel h hs h2⟩
  | tup l => obtain ⟨cs, h1, h2⟩ := hr; exact ⟨cs, h1, rnP_rel h hs h2⟩
  | und => exact hr
  | any => trivial
  | tie i j => obtain ⟨p, h1, h2⟩ := hr; exact ⟨p, h _ _ (hs _ (List.Mem.head _)) h1, h _ _ (hs _ (List.Mem.tail _ (List.Mem.head _))) h2⟩

theorem rnAs_rel (h : Rho.via r S ρ ρ') : ∀ {l : List AV} {vs : List Value}, (∀ id ∈ asNames l, S id) → RelA ρ l vs → RelA ρ' (rnAs r l) vs
  | [], [], _, _ => trivial
  | _ :: _, _ :: _, hs, ⟨h1, h2⟩ => ⟨rnA_rel h (fun x hx => hs x (List.mem_append_left _ hx)) h1, rnAs_rel h (fun x hx => hs x (List.mem_append_right _ hx)) h2⟩

theorem rnL_get : ∀ (l : List SV) (j : Nat) (s : SV), l[j]? = some s → (rnL r l)[j]? = some (s.rn r)
  | [], j, s, h => by simp at h
  | x :: l, 0, s, h => by simp at h; subst h; rfl
  | x :: l, j + 1, s, h => by simpa [rnL] using rnL_get l j s (by simpa using h)

theorem rnL_length : ∀ (l : List SV), (rnL r l).length = l.length
  | [] => rfl
  | _ :: l => congrArg (· + 1) (rnL_length l)

theorem rn_cols (r : Nat → Nat) : ∀ (cs : List Col) (i : Nat), rnL r (colsAt cs i) = colsAt cs i
  | [], _ => rfl
  | c :: cs, i => by
    have h : (c.at i).rn r = c.at i := by cases c <;> rfl
    show (c.at i).rn r :: rnL r (colsAt cs i) = c.at i :: colsAt cs i
    rw [h, rn_cols r cs i]

theorem rnB_at (h : Rho.via r (fun _ => True) ρ ρ') {w : World} {b o : Nat} {B : Blk} (hb : BlkAt ρ w b o B) : BlkAt ρ' w b o (B.rn r) := by
  obtain ⟨c, e, fz, h1, h2, h3⟩ := hb
  have hx : (B.rn r).ext ρ' o c e fz := by
    cases B with
    | grow n cs k t => obtain ⟨q1, cap, q2, q3⟩ := h3; exact ⟨q1, cap, h _ _ trivial q2, q3⟩
    | _ => trivial
  refine ⟨c, e, fz, h1, fun i hi j hj => ?_, hx⟩
  have hn : (B.rn r).n = B.n := by cases B <;> rfl
  have hs : (B.rn r).sz = B.sz := by
    cases B with
    | box l => exact rnL_length l
    | row => rfl
    | cols => rfl
    | grow => rfl
  have hg : (B.rn r).get i = rnL r (B.get i) := by
    cases B <;> try rfl
    · exact (rn_cols r _ i).symm
    · exact (rn_cols r _ i).symm
  rw [hn] at hi
  rw [hs] at hj ⊢
  obtain ⟨v, s, a1, a2, a3⟩ := h2 i hi j hj
  exact ⟨v, s.rn r, a1, by rw [hg]; exact rnL_get _ _ _ a2, rn_rel h (fun _ _ => trivial) a3⟩

theorem rnM_length : ∀ (m : Mem), (rnM r m).length = m.length
  | [] => rfl
  | none :: l => congrArg (· + 1) (rnM_length l)
  | some _ :: l => congrArg (· + 1) (rnM_length l)

theorem rnM_get : ∀ (m : Mem) (i : Nat) (C : Blk), (rnM r m)[i]? = some (some C) → ∃ B, m[i]? = some (some B) ∧ C = B.rn r
  | [], i, C, h => by simp [rnM] at h
  | none :: l, i, C, h => by
    cases i with
    | zero => simp [rnM] at h
    | succ i => simpa using rnM_get l i C (by simpa [rnM] using h)
  | some B :: l, i, C, h => by
    cases i with
    | zero => simp [rnM] at h; exact ⟨B, rfl, h.symm⟩
    | succ i => simpa using rnM_get l i C (by simpa [rnM] using h)
end

/-! ### A part of the memory, whose pointers are forgotten -/

def fgL : List SV → List SV
  | [] => []
  | s :: l => (match svPtr s with | true => .top | false => s) :: fgL l

def Blk.fg : Blk → Blk
  | .box l => .box (fgL l)
  | .row n sz g => .row n sz fun i => fgL (g i)
  | .cols n cs => .cols n cs
  | .grow n cs _ _ => .cols n cs

theorem fgL_length : ∀ (l : List SV), (fgL l).length = l.length
  | [] => rfl
  | _ :: l => congrArg (· + 1) (fgL_length l)

theorem fgL_get : ∀ (l : List SV) (j : Nat) (s : SV), l[j]? = some s → (fgL l)[j]? = some (match svPtr s with | true => .top | false => s)
  | [], j, s, h => by simp at h
  | x :: l, 0, s, h => by simp at h; subst h; rfl
  | x :: l, j + 1, s, h => by simpa [fgL] using fgL_get l j s (by simpa using h)

theorem fg_cols : ∀ (cs : List Col) (i : Nat), fgL (colsAt cs i) = colsAt cs i
  | [], _ => rfl
  | c :: cs, i => by
    have h : (match svPtr (c.at i) with | true => SV.top | false => c.at i) = c.at i := by cases c <;> rfl
    show (match svPtr (c.at i) with | true => SV.top | false => c.at i) :: fgL (colsAt cs i) = c.at i :: colsAt cs i
    rw [h, fg_cols cs i]

theorem fgB_at {ρ ρ' : Rho} {w : World} {b o : Nat} {B : Blk} (hb : BlkAt ρ w b o B) : BlkAt ρ' w b o B.fg := by
  obtain ⟨c, e, fz, h1, h2, h3⟩ := hb
  have hx : B.fg.ext ρ' o c e fz := by cases B <;> trivial
  refine ⟨c, e, fz, h1, fun i hi j hj => ?_, hx⟩
  have hn : B.fg.n = B.n := by cases B <;> rfl
  have hs : B.fg.sz = B.sz := by
    cases B with
    | box l => exact fgL_length l
    | row => rfl
    | cols => rfl
    | grow => rfl
  have hg : B.fg.get i = fgL (B.get i) := by
    cases B <;> try rfl
    · exact (fg_cols _ i).symm
    · exact (fg_cols _ i).symm
  rw [hn] at hi
  rw [hs] at hj ⊢
  obtain ⟨v, s, a1, a2, a3⟩ := h2 i hi j hj
  refine ⟨v, _, a1, by rw [hg]; exact fgL_get _ _ _ a2, ?_⟩
  cases hp : svPtr s with
  | true => exact SV.rel_one a3
  | false => exact svPtr_rel hp a3

def subM (mem : Mem) : List Nat → Mem
  | [] => []
  | id :: l => (match mem[id]? with | some (some B) => some B.fg | _ => none) :: subM mem l

theorem subM_length (mem : Mem) : ∀ (l : List Nat), (subM mem l).length = l.length
  | [] => rfl
  | _ :: l => congrArg (· + 1) (subM_length mem l)

theorem subM_get (mem : Mem) : ∀ (l : List Nat) (k : Nat) (C : Blk), (subM mem l)[k]? = some (some C) → ∃ id B, l[k]? = some id ∧ mem[id]? = some (some B) ∧ C = B.fg
  | [], k, C, h => by simp [subM] at h
  | id :: l, 0, C, h => by
    simp only [subM, List.getElem?_cons_zero, Option.some.injEq] at h
    split at h
    · rename_i B hB; cases h; exact ⟨id, B, rfl, hB, rfl⟩
    · cases h
  | id :: l, k + 1, C, h => by simpa using subM_get mem l k C (by simpa [subM] using h)

def posOf : List Nat → Nat → Nat
  | [], _ => 0
  | x :: l, id => if x = id then 0 else posOf l id + 1

theorem posOf_get : ∀ {l : List Nat} {id : Nat}, id ∈ l → l[posOf l id]? = some id
  | x :: l, id, h => by
    unfold posOf
    split
    · rename_i e; subst e; rfl
    · rename_i e
      have : id ∈ l := by
        rcases List.mem_cons.1 h with h | h
        · exact absurd h.symm e
        · exact h
      simpa using posOf_get this

/-- The names behind the call: what came in, what is new. -/
def backOf (L : List Nat) (N : Nat) (k : Nat) : Nat :=
  match L[k]? with
  | some id => id
  | none => N + (k - L.length)

def bkRes (L : List Nat) (N : Nat) (r : Res) : T Res := .leaf (r.1.rn (backOf L N), rnM (backOf L N) r.2)

/-- The contract that is used: by names of its own. -/
def Ctr.own {P : Program} (C : Ctr P) : Ctr P where
  f := C.f
  run := fun args mem => let L := asNames args
    (C.run (rnAs (posOf L) args) (subM mem L)).bind (bkRes L mem.length)
  ok := by
    intro args mem ρ w vals hm ha o a K Q h
    have h : ((C.run (rnAs (posOf (asNames args)) args) (subM mem (asNames args))).bind (bkRes (asNames args) mem.length)).holds _ := h
    generalize hL : asNames args = L at h
    let ρ1 : Rho := fun k => (L[k]?).bind ρ
    have hv1 : Rho.via (posOf L) (fun id => id ∈ L) ρ ρ1 := by
      intro id p hid e
      show (L[posOf L id]?).bind ρ = some p
      rw [posOf_get hid]; exact e
    have hm1 : MemOK ρ1 w (subM mem L) := by
      refine ⟨fun k hk => ?_, fun k C hC => ?_⟩
      · rw [subM_length] at hk
        show (L[k]?).bind ρ = none
        rw [List.getElem?_eq_none hk]; rfl
      · obtain ⟨id, B, h1, h2, rfl⟩ := subM_get mem L k C hC
        obtain ⟨b, o, k1, k2⟩ := hm.blk id B h2
        refine ⟨b, o, ?_, fgB_at k2⟩
        show (L[k]?).bind ρ = _
        rw [h1]; exact k1
    refine C.ok _ _ ρ1 w vals hm1 (rnAs_rel hv1 (fun id hid => by rw [hL] at hid; exact hid) ha) o a K Q (T.holds_mono (T.holds_bind h) fun r hh ρ2 w' v hn hv => ?_)
    obtain ⟨x, m⟩ := r
    have hn : New ρ1 ρ2 w w' (subM mem L).length m := hn
    rw [subM_length] at hn
    let ρ3 : Rho := fun id => if id < mem.length then ρ id else ρ2 (id - mem.length + L.length)
    have hlow : ∀ id p, ρ id = some p → id < mem.length := by
      intro id p e
      rcases Nat.lt_or_ge id mem.length with h | h
      · exact h
      · rw [hm.dom id h] at e; cases e
    have hsh : Rho.via (backOf L mem.length) (fun _ => True) ρ2 ρ3 := by
      intro k p _ e
      show (if backOf L mem.length k < mem.length then ρ (backOf L mem.length k) else ρ2 (backOf L mem.length k - mem.length + L.length)) = some p
      unfold backOf
      by_cases hk : k < L.length
      · rw [hn.keep k hk] at e
        have e' : (L[k]?).bind ρ = some p := e
        rw [List.getElem?_eq_getElem hk] at e' ⊢
        have e2 : ρ L[k] = some p := e'
        simp only []
        rw [if_pos (hlow _ _ e2)]; exact e2
      · rw [List.getElem?_eq_none (Nat.le_of_not_lt hk)]
        simp only []
        rw [if_neg (by omega), show mem.length + (k - L.length) - mem.length + L.length = k by omega]; exact e
    have hnew : ∀ i, backOf L mem.length (L.length + i) = mem.length + i := by
      intro i
      unfold backOf
      rw [List.getElem?_eq_none (by omega)]
      simp only []
      omega
    have hρ3 : ∀ i, ρ3 (mem.length + i) = ρ2 (L.length + i) := by
      intro i
      show (if mem.length + i < mem.length then ρ (mem.length + i) else ρ2 (mem.length + i - mem.length + L.length)) = _
      rw [if_neg (by omega)]
      congr 1
      omega
    refine hh ρ3 w' v ⟨fun id hid => if_pos hid, fun id hid => ?_, hn.below, fun i B hB => ?_, fun i j b ob b' ob' hij hi hj h1 h2 => ?_⟩ (rnA_rel hsh (fun _ _ => trivial) hv)
    · have hid' : mem.length + (rnM (backOf L mem.length) m).length ≤ id := hid
      rw [rnM_length] at hid'
      show (if id < mem.length then ρ id else ρ2 (id - mem.length + L.length)) = none
      rw [if_neg (by omega)]
      exact hn.dom _ (by omega)
    · obtain ⟨B', hB', rfl⟩ := rnM_get m i B hB
      obtain ⟨b, k1, k2, k3, k4⟩ := hn.blk i B' hB'
      exact ⟨b, by rw [hρ3]; exact k1, k2, rnB_at hsh k3, k4⟩
    · obtain ⟨B1, hB1⟩ := hi
      obtain ⟨B2, hB2⟩ := hj
      obtain ⟨C1, hC1, _⟩ := rnM_get m i B1 hB1
      obtain ⟨C2, hC2, _⟩ := rnM_get m j B2 hB2
      rw [hρ3] at h1 h2
      exact hn.inj i j b ob b' ob' hij ⟨C1, hC1⟩ ⟨C2, hC2⟩ h1 h2

/-- A contract out of a function's body, every region walked. -/
def mkC (P : Program) (hmix : P.follows .mixedOrders = true) (env : List (Ctr P)) (f : FuncId) (fn : Func) (root : Code) (hf : P.funcs[f]? = some fn) (hname : (fn.name == "runtime.NumGoroutine") = false)
    (hb : fn.body = some root) (ss : List (Sum P root)) : Ctr P :=
  (mkCtr P env (fun m0 => evDraw P env m0) (fun m0 => evDraw_ok hmix env m0) f fn root hf hname hb ss).own

end Go.Proofs.Ytdmcpgbnomhahaa
