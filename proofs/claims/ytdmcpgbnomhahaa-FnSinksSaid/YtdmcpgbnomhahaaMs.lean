/-
  The walk that makes the states behind a test one. No conditions.
-/
import Derived.Test.YtdmcpgbnomhahaaLp
namespace Go.Proofs.Ytdmcpgbnomhahaa
set_option linter.unusedVariables false
set_option linter.unusedSimpArgs false
open Go.RowKit

/-! ### Two values, with addresses -/

/-- Values of which none is lost; where an end has nothing there, nothing is known. -/
def mgV (bx : Nat → Bool) (c : Bool) (a b : AV) : Option AV :=
  match a, b with
  | .any, _ => some .any
  | _, .any => some .any
  | .und, .und => some .und
  | .und, _ => some .any
  | _, .und => some .any
  | .one (.ptr id sz i j), .one (.ptr id' sz' i' j') => if bx id = true then (if id = id' then (if sz = sz' then (if i = i' then (if j = j' then some (.one (.ptr id sz i j)) else none) else none) else none) else none) else some .any
  | .one (.sl id sz i len cap kn), .one (.sl id' sz' i' len' cap' kn') =>
    if id = id' then (if sz = sz' then (match kn && kn' with
      | true => if i = i' then (if len = len' then (if cap = cap' then some (.one (.sl id sz i len cap true)) else none) else none) else none
      | false => some (.one (.sl id sz (cond c i i') (cond c len len') (cond c cap cap') false))) else none) else none
  | .one (.su id sz i len kn), .one (.su id' sz' i' len' kn') =>
    if id = id' then (if sz = sz' then (match kn && kn' with
      | true => if i = i' then (if len = len' then some (.one (.su id sz i len true)) else none) else none
      | false => some (.one (.su id sz (cond c i i') (cond c len len') false))) else none) else none
  | .one (.so id sz len k), .one (.so id' sz' len' k') => if id = id' then (if sz = sz' then (if k = k' then some (.one (.so id sz (cond c len len') k)) else none) else none) else none
  | .one (.fn f []), .one (.fn g []) => if f = g then some (.one (.fn f [])) else none
  | .tie i j, .tie i' j' => if i = i' then (if j = j' then some (.tie i j) else none) else none
  | .one (.val _), .one (.val _) => none
  | a, b => mgA c a b

theorem mgV_ok {bx : Nat → Bool} {c : Bool} {a b u : AV} (h : mgV bx c a b = some u) (ρ : Rho) (v : Value) : (c = true → a.rel ρ v → u.rel ρ v) ∧ (c = false → b.rel ρ v → u.rel ρ v) := by
  unfold mgV at h
  split at h
  · cases h; exact ⟨fun _ _ => trivial, fun _ _ => trivial⟩
  · cases h; exact ⟨fun _ _ => trivial, fun _ _ => trivial⟩
  · cases h; exact ⟨fun _ h => h, fun _ h => h⟩
  · cases h; exact ⟨fun _ _ => trivial, fun _ _ => trivial⟩
  · cases h; exact ⟨fun _ _ => trivial, fun _ _ => trivial⟩
  · split at h
    · split at h <;> try (cases h; done)
      split at h <;> try (cases h; done)
      split at h <;> try (cases h; done)
      split at h <;> try (cases h; done)
      rename_i h1 h2 h3 h4
      subst h1; subst h2; subst h3; subst h4
      cases h; exact ⟨fun _ h => h, fun _ h => h⟩
    · cases h; exact ⟨fun _ _ => trivial, fun _ _ => trivial⟩
  · split at h <;> try (cases h; done)
    split at h <;> try (cases h; done)
    rename_i h1 h2
    subst h1; subst h2
    split at h
    · split at h <;> try (cases h; done)
      split at h <;> try (cases h; done)
      split at h <;> try (cases h; done)
      rename_i h3 h4 h5
      subst h3; subst h4; subst h5
      cases h
      exact ⟨fun _ h => h, fun _ h => h⟩
    · cases h
      exact ⟨fun e h => by subst e; exact h, fun e h => by subst e; exact h⟩
  · split at h <;> try (cases h; done)
    split at h <;> try (cases h; done)
    rename_i h1 h2
    subst h1; subst h2
    split at h
    · split at h <;> try (cases h; done)
      split at h <;> try (cases h; done)
      rename_i h3 h4
      subst h3; subst h4
      cases h
      exact ⟨fun _ h => h, fun _ h => h⟩
    · cases h
      exact ⟨fun e h => by subst e; exact h, fun e h => by subst e; exact h⟩
  · split at h <;> try (cases h; done)
    split at h <;> try (cases h; done)
    split at h <;> try (cases h; done)
    rename_i h1 h2 h3
    subst h1; subst h2; subst h3
    cases h
    exact ⟨fun e h => by subst e; exact h, fun e h => by subst e; exact h⟩
  · split at h <;> try (cases h; done)
    rename_i h1
    subst h1
    cases h; exact ⟨fun _ h => h, fun _ h => h⟩
  · split at h <;> try (cases h; done)
    split at h <;> try (cases h; done)
    rename_i h1 h2
    subst h1; subst h2
    cases h; exact ⟨fun _ h => h, fun _ h => h⟩
  · cases h
  · exact mgA_ok h ρ v

def mgVs (bx : Nat → Bool) (c : Bool) : List AV → List AV → Option (List AV)
  | [], [] => some []
  | a :: l, b :: m => match mgV bx c a b with
    | some x => match mgVs bx c l m with
      | some r => some (x :: r)
      | none => none
    | none => none
  | _, _ => none

theorem mgVs_ok {bx : Nat → Bool} {c : Bool} : ∀ {l m r : List AV}, mgVs bx c l m = some r → (c = true → SlLe l r) ∧ (c = false → SlLe m r)
  | [], [], r, h => by cases h; exact ⟨fun _ => trivial, fun _ => trivial⟩
  | a :: l, b :: m, r, h => by
    unfold mgVs at h
    split at h
    · rename_i x hx
      split at h
      · rename_i r' hr
        cases h
        exact ⟨fun e => ⟨fun ρ v => (mgV_ok hx ρ v).1 e, (mgVs_ok hr).1 e⟩, fun e => ⟨fun ρ v => (mgV_ok hx ρ v).2 e, (mgVs_ok hr).2 e⟩⟩
      · cases h
    · cases h

/-- Only some slots are kept (their numbers rise); of the others nothing is known. -/
def mgVsK (bx : Nat → Bool) (c : Bool) : Nat → List Nat → List AV → List AV → Option (List AV)
  | _, _, [], [] => some []
  | t, [], _ :: l, _ :: m => match mgVsK bx c (t + 1) [] l m with
    | some r => some (.any :: r)
    | none => none
  | t, k :: ks, a :: l, b :: m => match Nat.beq t k with
    | true => match mgV bx c a b with
      | some x => match mgVsK bx c (t + 1) ks l m with
        | some r => some (x :: r)
        | none => none
      | none => none
    | false => match mgVsK bx c (t + 1) (k :: ks) l m with
      | some r => some (.any :: r)
      | none => none
  | _, _, _, _ => none

theorem mgVsK_ok {bx : Nat → Bool} {c : Bool} : ∀ {l m r : List AV} {t : Nat} {ks : List Nat}, mgVsK bx c t ks l m = some r → (c = true → SlLe l r) ∧ (c = false → SlLe m r)
  | [], [], r, t, ks, h => by
    have : r = [] := by unfold mgVsK at h; cases h; rfl
    subst this
    exact ⟨fun _ => trivial, fun _ => trivial⟩
  | a :: l, b :: m, r, t, [], h => by
    unfold mgVsK at h
    split at h
    · rename_i r' hr
      cases h
      exact ⟨fun e => ⟨AvLe.any a, (mgVsK_ok hr).1 e⟩, fun e => ⟨AvLe.any b, (mgVsK_ok hr).2 e⟩⟩
    · cases h
  | a :: l, b :: m, r, t, k :: ks, h => by
    unfold mgVsK at h
    split at h
    · split at h
      · rename_i x hx
        split at h
        · rename_i r' hr
          cases h
          exact ⟨fun e => ⟨fun ρ v => (mgV_ok hx ρ v).1 e, (mgVsK_ok hr).1 e⟩, fun e => ⟨fun ρ v => (mgV_ok hx ρ v).2 e, (mgVsK_ok hr).2 e⟩⟩
        · cases h
      · cases h
    · split at h
      · rename_i r' hr
        cases h
        exact ⟨fun e => ⟨AvLe.any a, (mgVsK_ok hr).1 e⟩, fun e => ⟨AvLe.any b, (mgVsK_ok hr).2 e⟩⟩
      · cases h
  | [], _ :: _, r, t, ks, h => by cases ks <;> simp [mgVsK] at h
  | _ :: _, [], r, t, ks, h => by cases ks <;> simp [mgVsK] at h

/-! ### Two blocks -/

/-- Two cells, with addresses. -/
def mgC (bx : Nat → Bool) (c : Bool) (a b : SV) : Option SV :=
  match mgV bx c (.one a) (.one b) with
  | some (.one s) => some s
  | _ => none

theorem mgC_ok {bx : Nat → Bool} {c : Bool} {a b u : SV} (h : mgC bx c a b = some u) (ρ : Rho) (v : Value) : (c = true → a.rel ρ v → u.rel ρ v) ∧ (c = false → b.rel ρ v → u.rel ρ v) := by
  unfold mgC at h
  split at h
  · rename_i s hs; cases h; exact mgV_ok hs ρ v
  · cases h

def mgCs (bx : Nat → Bool) (c : Bool) : List SV → List SV → Option (List SV)
  | [], [] => some []
  | a :: l, b :: m => match mgC bx c a b with
    | some x => match mgCs bx c l m with
      | some r => some (x :: r)
      | none => none
    | none => none
  | _, _ => none

theorem mgCs_ok {bx : Nat → Bool} {c : Bool} : ∀ {l m r : List SV}, mgCs bx c l m = some r → l.length = r.length ∧ m.length = r.length ∧ ∀ (j : Nat) (u : SV), r[j]? = some u →
    (c = true → ∃ s, l[j]? = some s ∧ ∀ ρ v, s.rel ρ v → u.rel ρ v) ∧ (c = false → ∃ s, m[j]? = some s ∧ ∀ ρ v, s.rel ρ v → u.rel ρ v)
  | [], [], r, h => by cases h; exact ⟨rfl, rfl, fun j u hu => by simp at hu⟩
  | a :: l, b :: m, r, h => by
    unfold mgCs at h
    split at h
    · rename_i x hx
      split at h
      · rename_i r' hr
        cases h
        obtain ⟨k1, k2, k3⟩ := mgCs_ok hr
        refine ⟨by simp [k1], by simp [k2], fun j u hu => ?_⟩
        cases j with
        | zero =>
          simp at hu; subst hu
          exact ⟨fun e => ⟨a, rfl, fun ρ v => (mgC_ok hx ρ v).1 e⟩, fun e => ⟨b, rfl, fun ρ v => (mgC_ok hx ρ v).2 e⟩⟩
        | succ j => simpa using k3 j u (by simpa using hu)
      · cases h
    · cases h

def mgCol (c : Bool) : Col → Col → Option Col
  | .fl k f, .fl k' g => if k = k' then some (.fl k fun j => cond c (f j) (g j)) else none
  | .num k f, .num k' g => if k = k' then some (.num k fun j => cond c (f j) (g j)) else none
  | .bo f, .bo g => some (.bo fun j => cond c (f j) (g j))
  | .str f, .str g => some (.str fun j => cond c (f j) (g j))
  | _, _ => none

theorem mgCol_ok {c : Bool} {a b e : Col} (h : mgCol c a b = some e) (j : Nat) : (c = true → e.at j = a.at j) ∧ (c = false → e.at j = b.at j) := by
  unfold mgCol at h
  split at h
  · split at h
    · rename_i hk; subst hk; cases h; exact ⟨fun hc => by subst hc; rfl, fun hc => by subst hc; rfl⟩
    · cases h
  · split at h
    · rename_i hk; subst hk; cases h; exact ⟨fun hc => by subst hc; rfl, fun hc => by subst hc; rfl⟩
    · cases h
  · cases h; exact ⟨fun hc => by subst hc; rfl, fun hc => by subst hc; rfl⟩
  · cases h; exact ⟨fun hc => by subst hc; rfl, fun hc => by subst hc; rfl⟩
  · cases h

def mgCols (c : Bool) : List Col → List Col → Option (List Col)
  | [], [] => some []
  | a :: l, b :: m => match mgCol c a b, mgCols c l m with
    | some e, some r => some (e :: r)
    | _, _ => none
  | _, _ => none

theorem mgCols_ok {c : Bool} : ∀ {l m r : List Col}, mgCols c l m = some r → r.length = l.length ∧ r.length = m.length ∧ ∀ j, (c = true → colsAt r j = colsAt l j) ∧ (c = false → colsAt r j = colsAt m j)
  | [], [], r, h => by cases h; exact ⟨rfl, rfl, fun j => ⟨fun _ => rfl, fun _ => rfl⟩⟩
  | a :: l, b :: m, r, h => by
    unfold mgCols at h
    split at h
    · rename_i e r' h1 h2
      cases h
      obtain ⟨k1, k2, k3⟩ := mgCols_ok h2
      refine ⟨by simp [k1], by simp [k2], fun j => ⟨fun hc => ?_, fun hc => ?_⟩⟩
      · simp only [colsAt, (mgCol_ok h1 j).1 hc, (k3 j).1 hc]
      · simp only [colsAt, (mgCol_ok h1 j).2 hc, (k3 j).2 hc]
    · cases h
  | [], _ :: _, r, h => by simp [mgCols] at h
  | _ :: _, [], r, h => by simp [mgCols] at h

theorem BlLe.grow_eq {n : Nat} {cs es : List Col} {k : Nat} {t : TypeId} (hl : es.length = cs.length) (h : ∀ j, colsAt es j = colsAt cs j) : BlLe (.grow n cs k t) (.grow n es k t) := by
  intro ρ w b o hb
  obtain ⟨c, e, fz, k1, k2, k3, cap, k4, k5, k6⟩ := hb
  have e1 : Blk.sz (.grow n es k t) = Blk.sz (.grow n cs k t) := hl
  refine ⟨c, e, fz, k1, fun i hi j hj => ?_, k3, cap, k4, by rw [hl]; exact k5, k6⟩
  rw [e1] at hj ⊢
  obtain ⟨v, s, a1, a2, a3⟩ := k2 i hi j hj
  exact ⟨v, s, a1, (by show (colsAt es i)[j]? = _; rw [h]; exact a2), a3⟩

def mgBl (bx : Nat → Bool) (c : Bool) : Blk → Blk → Option Blk
  | .box l, .box m => match mgCs bx c l m with
    | some r => some (.box r)
    | none => none
  | .grow n cs k e, .grow n' cs' k' e' => if k = k' then (if e = e' then (match mgCols c cs cs' with
    | some es => some (.grow (cond c n n') es k e)
    | none => none) else none) else none
  | _, _ => none

theorem mgBl_ok {bx : Nat → Bool} {c : Bool} {B C D : Blk} (h : mgBl bx c B C = some D) : (c = true → BlLe B D) ∧ (c = false → BlLe C D) := by
  unfold mgBl at h
  split at h
  · rename_i l m
    split at h
    · rename_i r hr
      cases h
      obtain ⟨k1, k2, k3⟩ := mgCs_ok hr
      refine ⟨fun e => BlLe.mk (Nat.le_refl _) k1.symm fun i _ j hj => ?_, fun e => BlLe.mk (Nat.le_refl _) k2.symm fun i _ j hj => ?_⟩
      · have hj : j < r.length := hj
        obtain ⟨s, h1, h2⟩ := (k3 j r[j] (by simp)).1 e
        exact ⟨s, r[j], h1, by simp [Blk.get], h2⟩
      · have hj : j < r.length := hj
        obtain ⟨s, h1, h2⟩ := (k3 j r[j] (by simp)).2 e
        exact ⟨s, r[j], h1, by simp [Blk.get], h2⟩
    · cases h
  · split at h
    · rename_i hk
      subst hk
      split at h
      · rename_i he
        subst he
        split at h
        · rename_i es hes
          cases h
          obtain ⟨k1, k2, k3⟩ := mgCols_ok hes
          exact ⟨fun hc => by subst hc; exact BlLe.grow_eq k1 fun j => (k3 j).1 rfl, fun hc => by subst hc; exact BlLe.grow_eq k2 fun j => (k3 j).2 rfl⟩
        · cases h
      · cases h
    · cases h
  · cases h

/-! ### Two states -/

/-- The blocks that are still named. -/
def mgMem (lv : Nat → Bool) (bx : Nat → Bool) (c : Bool) : Nat → Mem → Mem → Option Mem
  | _, [], [] => some []
  | k, x :: l, y :: m => match lv k with
    | false => match mgMem lv bx c (k + 1) l m with
      | some r => some (none :: r)
      | none => none
    | true => match x, y with
      | some B, some C => match mgBl bx c B C with
        | some D => match mgMem lv bx c (k + 1) l m with
          | some r => some (some D :: r)
          | none => none
        | none => none
      | _, _ => match mgMem lv bx c (k + 1) l m with
        | some r => some (none :: r)
        | none => none
  | _, _, _ => none

theorem memLe_none {x : Option Blk} {l m : Mem} (h : MemLe l m) : MemLe (x :: l) (none :: m) := by cases x <;> exact h

theorem mgMem_ok {lv bx : Nat → Bool} {c : Bool} : ∀ {l m r : Mem} {k : Nat}, mgMem lv bx c k l m = some r → (c = true → MemLe l r) ∧ (c = false → MemLe m r)
  | [], [], r, k, h => by
    have : r = [] := by unfold mgMem at h; cases h; rfl
    subst this
    exact ⟨fun _ => trivial, fun _ => trivial⟩
  | x :: l, y :: m, r, k, h => by
    unfold mgMem at h
    split at h
    · split at h
      · rename_i r' hr
        cases h
        exact ⟨fun e => memLe_none ((mgMem_ok hr).1 e), fun e => memLe_none ((mgMem_ok hr).2 e)⟩
      · cases h
    · split at h
      · split at h
        · rename_i D hD
          split at h
          · rename_i r' hr
            cases h
            exact ⟨fun e => ⟨(mgBl_ok hD).1 e, (mgMem_ok hr).1 e⟩, fun e => ⟨(mgBl_ok hD).2 e, (mgMem_ok hr).2 e⟩⟩
          · cases h
        · cases h
      · split at h
        · rename_i r' hr
          cases h
          exact ⟨fun e => memLe_none ((mgMem_ok hr).1 e), fun e => memLe_none ((mgMem_ok hr).2 e)⟩
        · cases h
  | [], _ :: _, r, k, h => by simp [mgMem] at h
  | _ :: _, [], r, k, h => by simp [mgMem] at h

/-- The names in blocks that are named. -/
def blNames : Blk → List Nat
  | .box l => lNames l
  | .row n _ g => (List.range n).foldr (fun i acc => lNames (g i) ++ acc) []
  | .cols _ _ => []
  | .grow _ _ k _ => [k]
def moreNames (mem : Mem) : List Nat → List Nat
  | [] => []
  | id :: l => (match mem[id]? with | some (some B) => blNames B | _ => []) ++ moreNames mem l
def liveN (mem : Mem) (sl : List AV) : List Nat :=
  let a := asNames sl
  let b := moreNames mem a
  a ++ (b ++ moreNames mem b)
def inNs : Nat → List Nat → Bool
  | _, [] => false
  | k, x :: l => match Nat.beq k x with | true => true | false => inNs k l

def isBx (m : Mem) (id : Nat) : Bool := match m[id]? with
  | some (some (.box _)) => true
  | _ => false

/-- The caller's blocks as they came. -/
structure Base (B : Nat → Prop) (w0 : World) (ρ0 : Rho) (base : Mem) : Prop where
  dom : ∀ id, base.length ≤ id → ρ0 id = none
  blk : ∀ id C, base[id]? = some (some C) → ∃ b o, ρ0 id = some (b, o) ∧ BlkAt ρ0 w0 b o C ∧ B b

/-- A state that says less of its own, and of the caller's blocks what was known at first. -/
structure StLeB (base : Mem) (s t : St) : Prop where
  sl : SlLe s.sl t.sl
  mem : ∃ um, t.mem = base ++ um ∧ MemLe (s.mem.drop base.length) um

theorem Conc.leB {B : Nat → Prop} {w0 : World} {ρ0 ρ : Rho} {a : Act} {w : World} {base : Mem} {s t : St} (hb : Base B w0 ρ0 base) (h : Conc B base.length w0 ρ0 ρ a w s) (hl : StLeB base s t) : Conc B base.length w0 ρ0 ρ a w t := by
  obtain ⟨um, hm, hle⟩ := hl.mem
  have hlen := hle.length
  have hsl := h.len
  rw [List.length_drop] at hlen
  have htl : t.mem.length = s.mem.length := by rw [hm, List.length_append]; omega
  have hle0 : ρ0.le ρ := by
    intro id p e
    by_cases hid : id < base.length
    · rw [h.keep id hid]; exact e
    · rw [hb.dom id (by omega)] at e; cases e
  have low : ∀ id C, id < base.length → t.mem[id]? = some (some C) → ∃ b o, ρ id = some (b, o) ∧ BlkAt ρ w b o C ∧ B b := by
    intro id C hid hC
    rw [hm, List.getElem?_append_left hid] at hC
    obtain ⟨b, o, h1, h2, h3⟩ := hb.blk id C hC
    exact ⟨b, o, hle0 _ _ h1, h2.mono hle0 (h.below.block b h3), h3⟩
  have high : ∀ id C, base.length ≤ id → t.mem[id]? = some (some C) → ∃ D, s.mem[id]? = some (some D) ∧ BlLe D C := by
    intro id C hid hC
    rw [hm, List.getElem?_append_right hid] at hC
    obtain ⟨D, hD, hle2⟩ := hle.get _ C hC
    rw [List.getElem?_drop, show base.length + (id - base.length) = id by omega] at hD
    exact ⟨D, hD, hle2⟩
  refine ⟨h.defers, ⟨by rw [← hl.sl.length]; exact h.slots.1, fun u => hl.sl.get u _ _ (h.slots.2 u)⟩, ⟨fun id hid => h.mem.dom id (by omega), fun id C hC => ?_⟩, ⟨fun id C hid hC => ?_, fun i j bi oi bj oj hi hij hCi hCj h1 h2 => ?_⟩, h.below, h.size, h.keep, by omega⟩
  · by_cases hid : id < base.length
    · obtain ⟨b, o, h1, h2, _⟩ := low id C hid hC
      exact ⟨b, o, h1, h2⟩
    · obtain ⟨D, hD, hle2⟩ := high id C (by omega) hC
      obtain ⟨b, o, h1, h2⟩ := h.mem.blk id D hD
      exact ⟨b, o, h1, hle2 _ _ _ _ h2⟩
  · obtain ⟨D, hD, _⟩ := high id C hid hC
    exact h.own.low id D hid hD
  · obtain ⟨Ci, hCi⟩ := hCi
    obtain ⟨Cj, hCj⟩ := hCj
    obtain ⟨Di, hDi, _⟩ := high i Ci hi hCi
    by_cases hj : j < base.length
    · obtain ⟨b, o, k1, _, k3⟩ := low j Cj hj hCj
      obtain ⟨b', k4, k5, _⟩ := h.own.low i Di hi hDi
      rw [k4] at h1; cases h1
      rw [k1] at h2; cases h2
      exact fun e => k5 (e ▸ k3)
    · obtain ⟨Dj, hDj, _⟩ := high j Cj (by omega) hCj
      exact h.own.inj i j bi oi bj oj hi hij ⟨Di, hDi⟩ ⟨Dj, hDj⟩ h1 h2

def mgSt (base : Mem) (ks : List Nat) (c : Bool) (s t : St) : Option St :=
  match mgVsK (isBx s.mem) c 0 ks s.sl t.sl with
  | some sl => match mgMem (fun k => inNs k (liveN s.mem sl)) (isBx s.mem) c base.length (s.mem.drop base.length) (t.mem.drop base.length) with
    | some m => some ⟨sl, base ++ m⟩
    | none => none
  | none => none

theorem mgSt_ok {base : Mem} {ks : List Nat} {c : Bool} {s t u : St} (h : mgSt base ks c s t = some u) : (c = true → StLeB base s u) ∧ (c = false → StLeB base t u) := by
  unfold mgSt at h
  split at h
  · rename_i sl hs
    split at h
    · rename_i m hm
      cases h
      exact ⟨fun e => ⟨(mgVsK_ok hs).1 e, m, rfl, (mgMem_ok hm).1 e⟩, fun e => ⟨(mgVsK_ok hs).2 e, m, rfl, (mgMem_ok hm).2 e⟩⟩
    · cases h
  · cases h

/-! ### Trees of states -/

structure WkS (base : Mem) (t' t : T (EX × St)) : Prop where
  out : ∀ Φ : EX × St → Prop, (∀ e s u, StLeB base s u → Φ (e, u) → Φ (e, s)) → t'.holds Φ → t.holds Φ

def mgE (base : Mem) (ks : List Nat) (c : Bool) (t e : T (EX × St)) : T (EX × St) :=
  match t, e with
  | .leaf (.normal, s), .leaf (.normal, u) => match mgSt base ks c s u with
    | some x => .leaf (.normal, x)
    | none => .ite c t e
  | _, _ => .ite c t e

theorem mgE_ok (base : Mem) (ks : List Nat) (c : Bool) (t e : T (EX × St)) : WkS base (mgE base ks c t e) (.ite c t e) := by
  unfold mgE
  split
  · rename_i s u
    split
    · rename_i x hx
      constructor
      intro Φ hΦ h
      exact ⟨fun hc => hΦ .normal s x ((mgSt_ok hx).1 hc) h, fun hc => hΦ .normal u x ((mgSt_ok hx).2 hc) h⟩
    · exact ⟨fun _ _ h => h⟩
  · exact ⟨fun _ _ h => h⟩

def mrg (base : Mem) (ks : List Nat) : T (EX × St) → T (EX × St)
  | .leaf a => .leaf a
  | .ite c t e =>
    let t' := mrg base ks t
    let e' := mrg base ks e
    T.needs (mapB c true t'.pre) (T.needs (mapE c true e'.pre) (mgE base ks c t'.body e'.body))
  | .need c t => .need c (mrg base ks t)
  | .fail => .fail
  | .all f => .all fun x => mrg base ks (f x)

theorem mrg_ok (base : Mem) (ks : List Nat) : ∀ (t : T (EX × St)), WkS base (mrg base ks t) t
  | .leaf _ => ⟨fun _ _ h => h⟩
  | .fail => ⟨fun _ _ h => h⟩
  | .need c t => ⟨fun Φ hΦ h => ⟨h.1, (mrg_ok base ks t).out Φ hΦ h.2⟩⟩
  | .all f => ⟨fun Φ hΦ h x => (mrg_ok base ks (f x)).out Φ hΦ (h x)⟩
  | .ite c t e => by
    constructor
    intro Φ hΦ h
    have h : (T.needs (mapB c true (mrg base ks t).pre) (T.needs (mapE c true (mrg base ks e).pre) (mgE base ks c (mrg base ks t).body (mrg base ks e).body))).holds Φ := h
    obtain ⟨h1, h2⟩ := T.needs_holds h
    obtain ⟨h3, h4⟩ := T.needs_holds h2
    have h5 := (mgE_ok _ _ _ _ _).out Φ hΦ h4
    exact ⟨fun hc => (mrg_ok base ks t).out Φ hΦ (T.pre_body (mapB_all hc h1) (h5.1 hc)), fun hc => (mrg_ok base ks e).out Φ hΦ (T.pre_body (mapE_all hc h3) (h5.2 hc))⟩

/-! ### The walk -/

def evCodeM (P : Program) (env : List (Ctr P)) (root : Code) (ss : List (Sum P root)) (base : Mem) (ks : List Nat) (draw : Array Oper → St → T St) : Code → List Nat → St → T (EX × St)
  | .skip, _, st => .leaf (.normal, st)
  | .region _ ops d, _, st => mrg base ks (tidy ((if d then draw ops st else evOps P env base.length ops ops.toList st).bind fun st' => .leaf (.normal, st')))
  | .seq a b, p, st => (evCodeM P env root ss base ks draw a (0 :: p) st).bind fun r =>
    match r.1 with
    | .normal => evCodeM P env root ss base ks draw b (1 :: p) r.2
    | e => .leaf (e, r.2)
  | .cond c t e, p, st =>
    match evOpd st.sl c with
    | .one (.tt true) => evCodeM P env root ss base ks draw t (0 :: p) st
    | .one (.tt false) => evCodeM P env root ss base ks draw e (1 :: p) st
    | .one (.bo c) => mrg base ks (.ite c (evCodeM P env root ss base ks draw t (0 :: p) st) (evCodeM P env root ss base ks draw e (1 :: p) st))
    | _ => .fail
  | .block id body, p, st =>
    match lookS ss p with
    | some s => s.run base.length st
    | none => mrg base ks ((evCodeM P env root ss base ks draw body (0 :: p) st).bind fun r =>
      match r.1 with
      | .exit id' => if id' = id then .leaf (.normal, r.2) else .leaf (.exit id', r.2)
      | e => .leaf (e, r.2))
  | .loop body, p, st => evLoop (evCodeM P env root ss base ks draw body (0 :: p)) 80 st
  | .ret, _, st => .leaf (.ret, st)
  | .exit id, _, st => .leaf (.exit id, st)
  | _, _, _ => .fail

theorem evCodeM_ok {P : Program} {env : List (Ctr P)} {root : Code} {ss : List (Sum P root)} {base : Mem} {ks : List Nat} {draw : Array Oper → St → T St} (hd : DrawOK P base.length draw) : ∀ (c : Code) (p : List Nat), subR root p = some c →
    ∀ (B : Nat → Prop) (w0 : World) (ρ0 ρ : Rho) (a : Act) (w : World) (st : St), Base B w0 ρ0 base → Conc B base.length w0 ρ0 ρ a w st → ∀ Q : Exit → Act → World → Prop,
    ((evCodeM P env root ss base ks draw c p st).holds fun r => ∀ ρ' a' w', Conc B base.length w0 ρ0 ρ' a' w' r.2 → Q r.1.ex a' w') → c.wp P Q a w := by
  intro c
  have weak : ∀ {B : Nat → Prop} {w0 : World} {ρ0 : Rho} {Q : Exit → Act → World → Prop} {t : T (EX × St)}, Base B w0 ρ0 base → ((mrg base ks t).holds fun r => ∀ ρ' a' w', Conc B base.length w0 ρ0 ρ' a' w' r.2 → Q r.1.ex a' w') → t.holds fun r => ∀ ρ' a' w', Conc B base.length w0 ρ0 ρ' a' w' r.2 → Q r.1.ex a' w' :=
    fun {B w0 ρ0 Q t} hb h => (mrg_ok base ks t).out _ (fun e s u hle hu ρ' a' w' hc => hu ρ' a' w' (hc.leB hb hle)) h
  induction c with
  | skip => intro p _ B w0 ρ0 ρ a w st hb hc Q h; exact wp_skip (h ρ a w hc)
  | region id ops d =>
    intro p _ B w0 ρ0 ρ a w st hb hc Q h
    unfold evCodeM at h
    have h := T.holds_bind (tidy_holds (weak hb h))
    cases d with
    | true => exact hd B w0 ρ0 ρ a w st hc id ops Q h
    | false => exact wp_region_list (evOps_ok ops.toList hc h)
  | seq x y ihx ihy =>
    intro p hp B w0 ρ0 ρ a w st hb hc Q h
    unfold evCodeM at h
    refine wp_seq (ihx (0 :: p) (by simp [subR, hp, Code.child]) B w0 ρ0 ρ a w st hb hc _ (T.holds_mono (T.holds_bind h) fun r hh ρ' a' w' hc' => ?_))
    obtain ⟨e, st'⟩ := r
    cases e with
    | normal => exact ihy (1 :: p) (by simp [subR, hp, Code.child]) B w0 ρ0 ρ' a' w' st' hb hc' Q hh
    | ret => exact hh ρ' a' w' hc'
    | exit id => exact hh ρ' a' w' hc'
  | cond x t e iht ihe =>
    intro p hp B w0 ρ0 ρ a w st hb hc Q h
    unfold evCodeM at h
    have hx := evOpd_ok hc.slots x
    split at h
    · rename_i hbx; rw [hbx] at hx
      exact wp_cond_true hx (iht (0 :: p) (by simp [subR, hp, Code.child]) B w0 ρ0 ρ a w st hb hc Q h)
    · rename_i hbx; rw [hbx] at hx
      exact wp_cond_false hx (ihe (1 :: p) (by simp [subR, hp, Code.child]) B w0 ρ0 ρ a w st hb hc Q h)
    · rename_i q hbx; rw [hbx] at hx
      have h := weak hb h
      refine wp_cond_split (t := q) hx (fun hq => ?_) (fun hq => ?_)
      · exact iht (0 :: p) (by simp [subR, hp, Code.child]) B w0 ρ0 ρ a w st hb hc Q (h.1 hq)
      · exact ihe (1 :: p) (by simp [subR, hp, Code.child]) B w0 ρ0 ρ a w st hb hc Q (h.2 hq)
    · exact h.elim
  | block id body ih =>
    intro p hp B w0 ρ0 ρ a w st hb hc Q h
    unfold evCodeM at h
    split at h
    · rename_i s hs
      have hpath := lookS_path hs
      exact s.ok _ (by rw [hpath]; exact hp) B base.length w0 ρ0 ρ a w st hc Q h
    · refine wp_block (ih (0 :: p) (by simp [subR, hp, Code.child]) B w0 ρ0 ρ a w st hb hc _ (T.holds_mono (T.holds_bind (weak hb h)) fun r hh ρ' a' w' hc' => ?_))
      obtain ⟨e, st'⟩ := r
      cases e with
      | normal => exact hh ρ' a' w' hc'
      | ret => exact hh ρ' a' w' hc'
      | exit id' =>
        show (if id' = id then Q .normal a' w' else Q (.exit id') a' w')
        simp only [] at hh
        split at hh
        · rename_i he; rw [if_pos he]; exact hh ρ' a' w' hc'
        · rename_i he; rw [if_neg he]; exact hh ρ' a' w' hc'
  | loop body ih =>
    intro p hp B w0 ρ0 ρ a w st hb hc Q h
    unfold evCodeM at h
    exact wp_loop_rounds 80 (evLoop_ok (fun ρ a w st hc Q h => ih (0 :: p) (by simp [subR, hp, Code.child]) B w0 ρ0 ρ a w st hb hc Q h) 80 ρ a w st hc h)
  | ret => intro p _ B w0 ρ0 ρ a w st hb hc Q h; exact wp_ret (h ρ a w hc)
  | exit id => intro p _ B w0 ρ0 ρ a w st hb hc Q h; exact wp_exit (h ρ a w hc)
  | _ => intros; rename_i h; exact h.elim

/-- A CONTRACT OUT OF A FUNCTION's BODY, walked some way that knows the caller's blocks. -/
def mkCtrB (P : Program) (walk : Mem → St → T (EX × St)) (f : FuncId) (fn : Func) (root : Code) (hf : P.funcs[f]? = some fn) (hname : (fn.name == "runtime.NumGoroutine") = false)
    (hb : fn.body = some root) (hwalk : ∀ (base : Mem) (B : Nat → Prop) (w0 : World) (ρ0 ρ : Rho) (a : Act) (w : World) (st : St), Base B w0 ρ0 base → Conc B base.length w0 ρ0 ρ a w st → ∀ Q : Exit → Act → World → Prop,
      ((walk base st).holds fun r => ∀ ρ' a' w', Conc B base.length w0 ρ0 ρ' a' w' r.2 → Q r.1.ex a' w') → root.wp P Q a w) : Ctr P where
  f := f
  run := fun args mem => evFun P fn (fun _ => walk mem) args mem
  ok := by
    intro args mem ρ w vals hm ha o a K Q h
    have hcall : (callFunc f vals).run P w = .ok (.enter f vals) w := by
      have h1 : fn.name ≠ "runtime.NumGoroutine" := by simpa using hname
      simp [callFunc, hf, h1, hb]
    rw [hcall]
    show Calls P f vals w _
    refine calls_of_wp hf hb ?_
    have hbase : Base (fun k => k < w.heap.size) w ρ mem := ⟨hm.dom, fun id C hC => by
      obtain ⟨b, q, h1, h2⟩ := hm.blk id C hC
      exact ⟨b, q, h1, h2, h2.lt⟩⟩
    have hc : Conc (fun k => k < w.heap.size) mem.length w ρ ρ { tmps := vals ++ Array.replicate (fn.ntmps - vals.size) undef, defers := [] } w { sl := args ++ List.replicate (fn.ntmps - args.length) .und, mem := mem } := by
      have hlt : ∀ (id : Nat) (C : Blk), mem[id]? = some (some C) → id < mem.length := fun id C h => (List.getElem?_eq_some_iff.1 h).1
      refine ⟨rfl, start_slots ha fn.ntmps, hm, ⟨fun id C hid hC => ?_, fun i j bi oi bj oj hi _ hC => ?_⟩, Bel.refl _ _, fun _ h => h, fun _ _ => rfl, Nat.le_refl _⟩
      · have := hlt id C hC
        omega
      · obtain ⟨C, hC⟩ := hC
        have := hlt i C hC
        omega
    refine hwalk mem _ _ ρ ρ _ w _ hbase hc _ (T.holds_mono (T.holds_bind h) fun r hh ρ' a' w' hc' => ?_)
    obtain ⟨e, st⟩ := r
    have fin : (((evResL P st fn.results.toList).bind fun ps => T.leaf (packRes ps, if ptsPtr ps then st.mem.drop mem.length else [])).holds fun r => ∀ ρ' w' v, New ρ ρ' w w' mem.length r.2 → r.1.rel ρ' v → K (a.put o.dst v) w') →
        a'.defers = [] ∧ ∃ v, (results fn a'.tmps).run P w' = .ok v w' ∧ K (a.put o.dst v) w' := by
      intro hh
      obtain ⟨ps, v, h1, h2, h3⟩ := results_ok (P := P) (fn := fn) hc'.slots hc'.mem (T.holds_bind hh)
      refine ⟨hc'.defers, v, h3, ?_⟩
      have h1 : ∀ ρ' w' v, New ρ ρ' w w' mem.length (if ptsPtr ps then st.mem.drop mem.length else []) → (packRes ps).rel ρ' v → K (a.put o.dst v) w' := h1
      by_cases hp : ptsPtr ps = true
      · rw [if_pos hp] at h1
        have hlen : mem.length ≤ st.mem.length := hc'.len
        refine h1 ρ' w' v ?_ (h2 ρ' (.inl rfl))
        refine ⟨fun id hid => hc'.keep id hid, fun id hid => ?_, hc'.below.up, fun i C hC => ?_, fun i j b ob b' ob' hij hCi hCj hi hj => ?_⟩
        · refine hc'.mem.dom id ?_
          show st.mem.length ≤ id
          rw [List.length_drop] at hid
          omega
        · rw [List.getElem?_drop] at hC
          obtain ⟨b, k1, k2, k3⟩ := hc'.own.low _ C (by omega) hC
          obtain ⟨b', o', k4, k5⟩ := hc'.mem.blk _ C hC
          rw [k1] at k4; cases k4
          exact ⟨b, k1, Nat.le_of_not_lt k2, k5, k3⟩
        · obtain ⟨C1, hC1⟩ := hCi
          obtain ⟨C2, hC2⟩ := hCj
          rw [List.getElem?_drop] at hC1 hC2
          exact hc'.own.inj _ _ b ob b' ob' (by omega) (by omega) ⟨C1, hC1⟩ ⟨C2, hC2⟩ hi hj
      · have hp' : ptsPtr ps = false := by simpa using hp
        rw [if_neg hp] at h1
        exact h1 ρ w' v (New.refl ρ w w' _ hm.dom hc'.below.up) (h2 ρ (.inr hp'))
    cases e with
    | normal => exact fin hh
    | ret => exact fin hh
    | exit id => exact hh.elim

/-- A contract out of a function's body, walked with states made one. -/
def mkM (P : Program) (hmix : P.follows .mixedOrders = true) (env : List (Ctr P)) (f : FuncId) (fn : Func) (root : Code) (hf : P.funcs[f]? = some fn) (hname : (fn.name == "runtime.NumGoroutine") = false)
    (hb : fn.body = some root) (ss : List (Sum P root)) (ks : List Nat) : Ctr P :=
  (mkCtrB P (fun base st => evCodeM P env root ss base ks (evDraw P env base.length) root [] st) f fn root hf hname hb fun base B w0 ρ0 ρ a w st hbase hc Q h => evCodeM_ok (evDraw_ok hmix env base.length) root [] rfl B w0 ρ0 ρ a w st hbase hc Q h).mg.own

end Go.Proofs.Ytdmcpgbnomhahaa
