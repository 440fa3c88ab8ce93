/-
  A symbolic walk of the model's code, reckoned by the kernel, and the proof that it is right: values up to the bits of a NaN, own memory by names. No conditions.
-/
import Derived.Test.YtdmcpgbnomhahaaFl
import Derived.WalkKit
namespace Go.Proofs.Ytdmcpgbnomhahaa
set_option linter.unusedVariables false
set_option linter.unusedSimpArgs false
open Go.RowKit

/-! ### Values -/

/-- One cell's value: numerals that are known ('int', 'tt') and ones that are not ('num', 'bo'); a pointer and a slice by the name of the block, the size of an element and its index. -/
inductive SV where
  | fl (k : FloatKind) (x : Nat)
  | int (k : IntKind) (n : Int)
  | num (k : IntKind) (n : Int)
  | tt (b : Bool)
  | bo (b : Bool)
  | str (s : ByteArray)
  | ptr (id sz i j : Nat)
  | sl (id sz i len cap : Nat) (known : Bool)
  | su (id sz i len : Nat) (known : Bool)
  | so (id sz len k : Nat)
  | fn (f : FuncId) (caps : List (Nat × Nat × Nat × Nat))
  | bt (k : FloatKind) (x : Nat)
  | val (v : Value)
  | top

/-- The whole numbers that hold a float's bits. -/
def bitKind : FloatKind → IntKind
  | .f32 => .u32
  | .f64 => .u64

inductive Pt where
  | one (s : SV)
  | agg (l : List SV)

inductive AV where
  | one (s : SV)
  | agg (l : List SV)
  | tup (l : List Pt)
  | und
  | any
  | tie (i j : Nat)

/-- Where a block lies: its number, and the cell at which its first element begins. -/
abbrev Rho := Nat → Option (Nat × Nat)

def ptrRel (ρ : Rho) (id sz i j : Nat) (v : Value) : Prop := ∃ b o, ρ id = some (b, o) ∧ v = .pointer (some ⟨b, o + (i * sz + j), none⟩)

def capsRel (ρ : Rho) : List (Nat × Nat × Nat × Nat) → List Value → Prop
  | [], [] => True
  | (id, sz, i, j) :: l, v :: vs => ptrRel ρ id sz i j v ∧ capsRel ρ l vs
  | _, _ => False

def SV.rel (ρ : Rho) : SV → Value → Prop
  | .fl k x, v => ∃ b, v = .float k b ∧ FlIs k b x
  | .int k n, v => v = .int k n
  | .num k n, v => v = .int k n
  | .tt b, v => v = .bool b
  | .bo b, v => v = .bool b
  | .str s, v => v = .string s
  | .ptr id sz i j, v => ptrRel ρ id sz i j v
  | .sl id sz i len cap _, v => ∃ b o, ρ id = some (b, o) ∧ v = .slice (some ⟨b, o + i * sz, none⟩) len cap
  | .su id sz i len _, v => ∃ a cap, v = .slice a len cap ∧ len ≤ cap ∧ (0 < len → ∃ b o, ρ id = some (b, o) ∧ a = some ⟨b, o + i * sz, none⟩)
  | .so id _ len k, v => ∃ b cap, ρ id = some (b, 0) ∧ ρ k = some (cap, 0) ∧ len ≤ cap ∧ v = .slice (some ⟨b, 0, none⟩) len cap
  | .fn f caps, v => ∃ vs, v = .func (.func f) #[] vs ∧ capsRel ρ caps vs.toList
  | .bt k x, v => ∃ b : Nat, v = .int (bitKind k) b ∧ FlIs k b x
  | .val u, v => v = u ∧ u.oneCell' = true
  | .top, v => v.oneCell' = true

def RelL (ρ : Rho) : List SV → List Value → Prop
  | [], [] => True
  | s :: l, v :: vs => s.rel ρ v ∧ RelL ρ l vs
  | _, _ => False

def Pt.rel (ρ : Rho) : Pt → Value → Prop
  | .one s, v => s.rel ρ v
  | .agg l, v => ∃ cs, v = .agg cs ∧ RelL ρ l cs.toList

def RelP (ρ : Rho) : List Pt → List Value → Prop
  | [], [] => True
  | s :: l, v :: vs => s.rel ρ v ∧ RelP ρ l vs
  | _, _ => False

def AV.rel (ρ : Rho) : AV → Value → Prop
  | .one s, v => s.rel ρ v
  | .agg l, v => ∃ cs, v = .agg cs ∧ RelL ρ l cs.toList
  | .tup l, v => ∃ vs, v = .tuple vs ∧ RelP ρ l vs.toList
  | .und, v => v = undef
  | .any, _ => True
  | .tie i j, _ => ∃ p, ρ i = some p ∧ ρ j = some p

def RelA (ρ : Rho) : List AV → List Value → Prop
  | [], [] => True
  | s :: l, v :: vs => s.rel ρ v ∧ RelA ρ l vs
  | _, _ => False

theorem SV.rel_one {ρ : Rho} {s : SV} {v : Value} (h : s.rel ρ v) : v.oneCell' = true := by
  cases s <;> simp only [SV.rel, ptrRel] at h
  case fl => obtain ⟨b, rfl, _⟩ := h; rfl
  case int => subst h; rfl
  case num => subst h; rfl
  case tt => subst h; rfl
  case bo => subst h; rfl
  case str => subst h; rfl
  case ptr => obtain ⟨b, o, _, rfl⟩ := h; rfl
  case sl => obtain ⟨b, o, _, rfl⟩ := h; rfl
  case su => obtain ⟨a, cap, rfl, _⟩ := h; rfl
  case so => obtain ⟨b, cap, _, _, _, rfl⟩ := h; rfl
  case fn => obtain ⟨b, rfl, _⟩ := h; rfl
  case bt => obtain ⟨b, rfl, _⟩ := h; rfl
  case val => rw [h.1]; exact h.2
  case top => exact h

theorem SV.rel_cells {ρ : Rho} {s : SV} {v : Value} (h : s.rel ρ v) : v.cells = #[v] := by
  have := SV.rel_one h
  cases v <;> first | rfl | (simp [Value.oneCell'] at this)

/-- More is known of where blocks lie. -/
def Rho.le (ρ ρ' : Rho) : Prop := ∀ id p, ρ id = some p → ρ' id = some p

theorem Rho.le_refl (ρ : Rho) : ρ.le ρ := fun _ _ h => h
theorem Rho.le_trans {a b c : Rho} (h : a.le b) (k : b.le c) : a.le c := fun id p e => k id p (h id p e)

theorem capsRel_mono {ρ ρ' : Rho} (hle : ρ.le ρ') : ∀ {l : List (Nat × Nat × Nat × Nat)} {vs : List Value}, capsRel ρ l vs → capsRel ρ' l vs
  | [], [], _ => trivial
  | (_, _, _, _) :: _, _ :: _, ⟨⟨b, o, h1, h2⟩, h3⟩ => ⟨⟨b, o, hle _ _ h1, h2⟩, capsRel_mono hle h3⟩

theorem SV.rel_mono {ρ ρ' : Rho} (hle : ρ.le ρ') {s : SV} {v : Value} (h : s.rel ρ v) : s.rel ρ' v := by
  cases s <;> simp only [SV.rel, ptrRel] at h ⊢
  case ptr => obtain ⟨b, o, h1, h2⟩ := h; exact ⟨b, o, hle _ _ h1, h2⟩
  case sl => obtain ⟨b, o, h1, h2⟩ := h; exact ⟨b, o, hle _ _ h1, h2⟩
  case su => obtain ⟨a, cap, h1, h2, h3⟩ := h; exact ⟨a, cap, h1, h2, fun hl => by obtain ⟨b, o, k1, k2⟩ := h3 hl; exact ⟨b, o, hle _ _ k1, k2⟩⟩
  case so => obtain ⟨b, cap, h1, h2, h3, h4⟩ := h; exact ⟨b, cap, hle _ _ h1, hle _ _ h2, h3, h4⟩
  case fn => obtain ⟨vs, h1, h2⟩ := h; exact ⟨vs, h1, capsRel_mono hle h2⟩
  all_goals exact h

theorem RelL.mono {ρ ρ' : Rho} (hle : ρ.le ρ') : ∀ {l : List SV} {vs : List Value}, RelL ρ l vs → RelL ρ' l vs
  | [], [], _ => trivial
  | _ :: _, _ :: _, ⟨h1, h2⟩ => ⟨SV.rel_mono hle h1, RelL.mono hle h2⟩

theorem Pt.rel_mono {ρ ρ' : Rho} (hle : ρ.le ρ') {s : Pt} {v : Value} (h : s.rel ρ v) : s.rel ρ' v := by
  cases s
  · exact SV.rel_mono hle h
  · obtain ⟨cs, e, h⟩ := h; exact ⟨cs, e, h.mono hle⟩

theorem RelP.mono {ρ ρ' : Rho} (hle : ρ.le ρ') : ∀ {l : List Pt} {vs : List Value}, RelP ρ l vs → RelP ρ' l vs
  | [], [], _ => trivial
  | _ :: _, _ :: _, ⟨h1, h2⟩ => ⟨Pt.rel_mono hle h1, RelP.mono hle h2⟩

theorem AV.rel_mono {ρ ρ' : Rho} (hle : ρ.le ρ') {s : AV} {v : Value} (h : s.rel ρ v) : s.rel ρ' v := by
  cases s
  · exact SV.rel_mono hle h
  · obtain ⟨cs, e, h⟩ := h; exact ⟨cs, e, h.mono hle⟩
  · obtain ⟨cs, e, h⟩ := h; exact ⟨cs, e, h.mono hle⟩
  · exact h
  · trivial
  · obtain ⟨p, h1, h2⟩ := h; exact ⟨p, hle _ _ h1, hle _ _ h2⟩

theorem RelA.mono {ρ ρ' : Rho} (hle : ρ.le ρ') : ∀ {l : List AV} {vs : List Value}, RelA ρ l vs → RelA ρ' l vs
  | [], [], _ => trivial
  | _ :: _, _ :: _, ⟨h1, h2⟩ => ⟨AV.rel_mono hle h1, RelA.mono hle h2⟩

theorem RelL.length {ρ : Rho} : ∀ {l : List SV} {vs : List Value}, RelL ρ l vs → l.length = vs.length
  | [], [], _ => rfl
  | _ :: _, _ :: _, ⟨_, h2⟩ => congrArg (· + 1) (RelL.length h2)

theorem RelL.one {ρ : Rho} : ∀ {l : List SV} {vs : List Value}, RelL ρ l vs → ∀ v ∈ vs, v.oneCell' = true
  | [], [], _, _, hv => by cases hv
  | _ :: _, _ :: _, ⟨h1, h2⟩, v, hv => by
    cases hv with
    | head => exact SV.rel_one h1
    | tail _ hv => exact RelL.one h2 v hv

theorem RelL.get {ρ : Rho} : ∀ {l : List SV} {vs : List Value}, RelL ρ l vs → ∀ (i : Nat) (s : SV), l[i]? = some s → ∃ v, vs[i]? = some v ∧ s.rel ρ v
  | [], [], _, i, s, h => by simp at h
  | _ :: _, _ :: _, ⟨h1, h2⟩, i, s, h => by
    cases i with
    | zero => simp at h; subst h; exact ⟨_, rfl, h1⟩
    | succ i => simpa using RelL.get h2 i s (by simpa using h)

theorem RelL.mk {ρ : Rho} : ∀ {l : List SV} {vs : List Value}, l.length = vs.length → (∀ (i : Nat) (s : SV) (v : Value), l[i]? = some s → vs[i]? = some v → s.rel ρ v) → RelL ρ l vs
  | [], [], _, _ => trivial
  | [], _ :: _, h, _ => by simp at h
  | _ :: _, [], h, _ => by simp at h
  | s :: l, v :: vs, h, hh => ⟨hh 0 s v rfl rfl, RelL.mk (by simpa using h) (fun i s v h1 h2 => hh (i + 1) s v (by simpa using h1) (by simpa using h2))⟩

theorem RelL.take {ρ : Rho} {l : List SV} {vs : List Value} (h : RelL ρ l vs) (n : Nat) : RelL ρ (l.take n) (vs.take n) := by
  refine RelL.mk (by simp [h.length]) fun i s v h1 h2 => ?_
  simp only [List.getElem?_take] at h1 h2
  split at h1
  · rename_i hlt
    rw [if_pos hlt] at h2
    obtain ⟨u, hu, hr⟩ := h.get i s h1
    rw [h2] at hu; cases hu; exact hr
  · cases h1

theorem RelL.drop {ρ : Rho} {l : List SV} {vs : List Value} (h : RelL ρ l vs) (n : Nat) : RelL ρ (l.drop n) (vs.drop n) := by
  refine RelL.mk (by simp [h.length]) fun i s v h1 h2 => ?_
  simp only [List.getElem?_drop] at h1 h2
  obtain ⟨u, hu, hr⟩ := h.get _ s h1
  rw [h2] at hu; cases hu; exact hr

theorem RelL.append {ρ : Rho} : ∀ {l m : List SV} {vs us : List Value}, RelL ρ l vs → RelL ρ m us → RelL ρ (l ++ m) (vs ++ us)
  | [], _, [], _, _, h => h
  | _ :: _, _, _ :: _, _, ⟨h1, h2⟩, h => ⟨h1, RelL.append h2 h⟩

/-! ### Memory -/

/-- The cells of one place in all of a row's elements. -/
inductive Col where
  | fl (k : FloatKind) (f : Nat → Nat)
  | num (k : IntKind) (f : Nat → Int)
  | bo (f : Nat → Bool)
  | str (f : Nat → ByteArray)

def Col.at : Col → Nat → SV
  | .fl k f, i => .fl k (f i)
  | .num k f, i => .num k (f i)
  | .bo f, i => .bo (f i)
  | .str f, i => .str (f i)

def colsAt : List Col → Nat → List SV
  | [], _ => []
  | c :: l, i => c.at i :: colsAt l i

theorem colsAt_length : ∀ (l : List Col) (i : Nat), (colsAt l i).length = l.length
  | [], _ => rfl
  | _ :: l, i => congrArg (· + 1) (colsAt_length l i)

/-- One element; or a row of 'n' elements of 'sz' cells each; or a row whose cells' kinds are known. -/
inductive Blk where
  | box (l : List SV)
  | row (n sz : Nat) (get : Nat → List SV)
  | cols (n : Nat) (cs : List Col)
  | grow (n : Nat) (cs : List Col) (k : Nat) (e : TypeId)

def Blk.n : Blk → Nat
  | .box _ => 1
  | .row n _ _ => n
  | .cols n _ => n
  | .grow n _ _ _ => n
def Blk.sz : Blk → Nat
  | .box l => l.length
  | .row _ sz _ => sz
  | .cols _ cs => cs.length
  | .grow _ cs _ _ => cs.length
def Blk.get : Blk → Nat → List SV
  | .box l, _ => l
  | .row _ _ g, i => g i
  | .cols _ cs, i => colsAt cs i
  | .grow _ cs _ _, i => colsAt cs i

/-- A row that grows: how many elements its block has room for stands under a name of its own. -/
def Blk.ext (ρ : Rho) (o : Nat) (c : Array Value) (e : TypeId) (fz : Nat × Nat) : Blk → Prop
  | .grow n cs k t => (e = t ∧ fz = (0, 0)) ∧ ∃ cap, ρ k = some (cap, 0) ∧ c.size = o + cap * cs.length ∧ n ≤ cap ∧ cap ≤ maxLen
  | _ => True

theorem Blk.ext_mono {ρ ρ' : Rho} {o : Nat} {c : Array Value} {e : TypeId} {fz : Nat × Nat} {B : Blk} (h : ∀ k p, ρ k = some p → ρ' k = some p) (hb : B.ext ρ o c e fz) : B.ext ρ' o c e fz := by
  cases B with
  | grow n cs k t => obtain ⟨h1, cap, h2, h3⟩ := hb; exact ⟨h1, cap, h _ _ h2, h3⟩
  | _ => trivial

abbrev Mem := List (Option Blk)

/-- What lies at a block. -/
def BlkAt (ρ : Rho) (w : World) (b o : Nat) (B : Blk) : Prop :=
  ∃ c e fz, w.heap[b]? = some (.cells c e fz) ∧ (∀ i, i < B.n → ∀ j, j < B.sz → ∃ v s, c[o + (i * B.sz + j)]? = some v ∧ (B.get i)[j]? = some s ∧ s.rel ρ v) ∧ B.ext ρ o c e fz

/-- A block of one's own: no cell of it is frozen (a conversion's mark lies behind its end). -/
def OwnAt (w : World) (b : Nat) : Prop := ∃ c e fz, w.heap[b]? = some (.cells c e fz) ∧ (fz = (0, 0) ∨ c.size ≤ fz.1)

theorem OwnAt.mk0 {w : World} {b : Nat} {c : Array Value} {e : TypeId} (h : w.heap[b]? = some (.cells c e (0, 0))) : OwnAt w b := ⟨c, e, _, h, .inl rfl⟩
theorem OwnAt.of {w w' : World} {b : Nat} (h : OwnAt w b) (hb : w'.heap[b]? = w.heap[b]?) : OwnAt w' b := by
  obtain ⟨c, e, fz, h1, h2⟩ := h
  exact ⟨c, e, fz, by rw [hb, h1], h2⟩
theorem OwnAt.lt {w : World} {b : Nat} (h : OwnAt w b) : b < w.heap.size := by
  obtain ⟨c, e, fz, h1, _⟩ := h
  exact (Array.getElem?_eq_some_iff.1 h1).1

theorem BlkAt.mono {ρ ρ' : Rho} (hle : ρ.le ρ') {w w' : World} {b o : Nat} {B : Blk} (h : BlkAt ρ w b o B) (hb : w'.heap[b]? = w.heap[b]?) : BlkAt ρ' w' b o B := by
  obtain ⟨c, e, fz, h1, h2⟩ := h
  refine ⟨c, e, fz, by rw [hb, h1], fun i hi j hj => ?_, Blk.ext_mono hle h2.2⟩
  obtain ⟨v, s, a1, a2, a3⟩ := h2.1 i hi j hj
  exact ⟨v, s, a1, a2, SV.rel_mono hle a3⟩

theorem BlkAt.lt {ρ : Rho} {w : World} {b o : Nat} {B : Blk} (h : BlkAt ρ w b o B) : b < w.heap.size := by
  obtain ⟨c, e, fz, h1, _⟩ := h
  exact (Array.getElem?_eq_some_iff.1 h1).1

structure MemOK (ρ : Rho) (w : World) (mem : Mem) : Prop where
  dom : ∀ id, mem.length ≤ id → ρ id = none
  blk : ∀ id B, mem[id]? = some (some B) → ∃ b o, ρ id = some (b, o) ∧ BlkAt ρ w b o B

/-- What a quiet step has laid: new blocks, under the next names. -/
structure New (ρ ρ' : Rho) (w w' : World) (N : Nat) (new : Mem) : Prop where
  keep : ∀ id, id < N → ρ' id = ρ id
  dom : ∀ id, N + new.length ≤ id → ρ' id = none
  below : Below w.heap.size w w'
  blk : ∀ i B, new[i]? = some (some B) → ∃ b, ρ' (N + i) = some (b, 0) ∧ w.heap.size ≤ b ∧ BlkAt ρ' w' b 0 B ∧ OwnAt w' b
  inj : ∀ i j b o b' o', i ≠ j → (∃ B, new[i]? = some (some B)) → (∃ B, new[j]? = some (some B)) → ρ' (N + i) = some (b, o) → ρ' (N + j) = some (b', o') → b ≠ b'

theorem New.le {ρ ρ' : Rho} {w w' : World} {mem new : Mem} (hm : MemOK ρ w mem) (h : New ρ ρ' w w' mem.length new) : ρ.le ρ' := by
  intro id p e
  by_cases hid : id < mem.length
  · rw [h.keep id hid]; exact e
  · rw [hm.dom id (by omega)] at e; cases e

theorem New.refl (ρ : Rho) (w w' : World) (N : Nat) (hd : ∀ id, N ≤ id → ρ id = none) (hb : Below w.heap.size w w') : New ρ ρ w w' N [] :=
  ⟨fun _ _ => rfl, fun id h => hd id (by simpa using h), hb, fun i B h => by simp at h, fun i j b o b' o' _ h => by simp at h⟩

theorem MemOK.step {ρ ρ' : Rho} {w w' : World} {mem new : Mem} (hm : MemOK ρ w mem) (h : New ρ ρ' w w' mem.length new) : MemOK ρ' w' (mem ++ new) := by
  refine ⟨fun id hid => h.dom id (by simpa using hid), fun id B hB => ?_⟩
  by_cases hid : id < mem.length
  · rw [List.getElem?_append_left hid] at hB
    obtain ⟨b, o, h1, h2⟩ := hm.blk id B hB
    exact ⟨b, o, by rw [h.keep id hid]; exact h1, h2.mono (h.le hm) (h.below.block b h2.lt)⟩
  · rw [List.getElem?_append_right (by omega)] at hB
    obtain ⟨b, h1, _, h2, _⟩ := h.blk _ B hB
    exact ⟨b, 0, by rw [← h1]; congr 1; omega, h2⟩

/-! ### Trees of tests -/

inductive T (α : Type) where
  | leaf (a : α)
  | ite (c : Bool) (t e : T α)
  | need (c : Bool) (t : T α)
  | fail
  | all (f : Nat → T α)

namespace T
variable {α β : Type}

def bind : T α → (α → T β) → T β
  | .leaf a, f => f a
  | .ite c t e, f => .ite c (t.bind f) (e.bind f)
  | .need c t, f => .need c (t.bind f)
  | .fail, _ => .fail
  | .all g, f => .all fun x => (g x).bind f

def holds : T α → (α → Prop) → Prop
  | .leaf a, Φ => Φ a
  | .ite c t e, Φ => (c = true → t.holds Φ) ∧ (c = false → e.holds Φ)
  | .need c t, Φ => c = true ∧ t.holds Φ
  | .fail, _ => False
  | .all g, Φ => ∀ x, (g x).holds Φ

theorem holds_mono {Φ Ψ : α → Prop} : ∀ {t : T α}, t.holds Φ → (∀ a, Φ a → Ψ a) → t.holds Ψ
  | .leaf _, h, hi => hi _ h
  | .ite _ _ _, h, hi => ⟨fun e => holds_mono (h.1 e) hi, fun e => holds_mono (h.2 e) hi⟩
  | .need _ _, h, hi => ⟨h.1, holds_mono h.2 hi⟩
  | .fail, h, _ => h
  | .all _, h, hi => fun x => holds_mono (h x) hi

theorem holds_bind {f : α → T β} {Φ : β → Prop} : ∀ {t : T α}, (t.bind f).holds Φ → t.holds fun a => (f a).holds Φ
  | .leaf _, h => h
  | .ite _ _ _, h => ⟨fun e => holds_bind (h.1 e), fun e => holds_bind (h.2 e)⟩
  | .need _ _, h => ⟨h.1, holds_bind h.2⟩
  | .fail, h => h
  | .all _, h => fun x => holds_bind (h x)

theorem bind_holds {f : α → T β} {Φ : β → Prop} : ∀ {t : T α}, (t.holds fun a => (f a).holds Φ) → (t.bind f).holds Φ
  | .leaf _, h => h
  | .ite _ _ _, h => ⟨fun e => bind_holds (h.1 e), fun e => bind_holds (h.2 e)⟩
  | .need _ _, h => ⟨h.1, bind_holds h.2⟩
  | .fail, h => h
  | .all _, h => fun x => bind_holds (h x)

def map (f : α → β) (t : T α) : T β := t.bind fun a => .leaf (f a)

theorem holds_map {f : α → β} {Φ : β → Prop} {t : T α} (h : (t.map f).holds Φ) : t.holds fun a => Φ (f a) := holds_bind h

/-- The one leaf that the tests lead to. -/
theorem holds_find {Φ : α → Prop} : ∀ {t : T α}, t.holds Φ → ∃ a, Φ a ∧ ∀ Ψ : α → Prop, t.holds Ψ → Ψ a
  | .leaf a, h => ⟨a, h, fun _ k => k⟩
  | .ite c t e, h => by
    cases hc : c with
    | true => obtain ⟨a, h1, h2⟩ := holds_find (h.1 hc); exact ⟨a, h1, fun Ψ k => h2 Ψ (k.1 rfl)⟩
    | false => obtain ⟨a, h1, h2⟩ := holds_find (h.2 hc); exact ⟨a, h1, fun Ψ k => h2 Ψ (k.2 rfl)⟩
  | .need c t, h => by obtain ⟨a, h1, h2⟩ := holds_find h.2; exact ⟨a, h1, fun Ψ k => h2 Ψ k.2⟩
  | .fail, h => h.elim
  | .all g, h => by obtain ⟨a, h1, h2⟩ := holds_find (h 0); exact ⟨a, h1, fun Ψ k => h2 Ψ (k 0)⟩
end T

end Go.Proofs.Ytdmcpgbnomhahaa
