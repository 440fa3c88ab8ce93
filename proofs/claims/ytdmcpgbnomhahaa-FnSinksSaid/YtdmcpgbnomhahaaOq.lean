/-
  The symbolic walk, more operations: stores, fields, elements, literals. No conditions.
-/
import Derived.Test.YtdmcpgbnomhahaaOp
import Derived.Laws.CopyRow
import Derived.Great.BuildSlice
namespace Go.Proofs.Ytdmcpgbnomhahaa
set_option linter.unusedVariables false
set_option linter.unusedSimpArgs false
open Go.RowKit

/-! ### store -/

def setR {α : Type} (l : List α) (j : Nat) (vs : List α) : List α := l.take j ++ vs ++ l.drop (j + vs.length)

theorem setR_get {α : Type} (l : List α) (j : Nat) (vs : List α) (h : j + vs.length ≤ l.length) (q : Nat) :
    (setR l j vs)[q]? = if q < j then l[q]? else if q < j + vs.length then vs[q - j]? else l[q]? := by
  unfold setR
  rw [List.append_assoc, List.getElem?_append, List.length_take, Nat.min_eq_left (by omega)]
  split
  · rename_i h1; rw [List.getElem?_take, if_pos h1]
  · rename_i h1
    rw [List.getElem?_append]
    split
    · rename_i h2; rw [if_pos (by omega)]
    · rename_i h2
      rw [if_neg (by omega), List.getElem?_drop]
      congr 1; omega

theorem setR_length {α : Type} (l : List α) (j : Nat) (vs : List α) (h : j + vs.length ≤ l.length) : (setR l j vs).length = l.length := by
  simp [setR]; omega

def Col.set (c : Col) (i : Nat) (s : SV) : Option Col :=
  match c, s with
  | .fl k f, .fl k' x => if k = k' then some (.fl k fun q => if q = i then x else f q) else none
  | .num k f, .num k' x => if k = k' then some (.num k fun q => if q = i then x else f q) else none
  | .bo f, .bo x => some (.bo fun q => if q = i then x else f q)
  | .str f, .str x => some (.str fun q => if q = i then x else f q)
  | _, _ => none

theorem Col.set_at {c c' : Col} {i : Nat} {s : SV} (h : c.set i s = some c') (x : Nat) : c'.at x = if x = i then s else c.at x := by
  unfold Col.set at h
  split at h <;> try (first | cases h; done | skip)
  · split at h <;> cases h
    rename_i hk; subst hk
    simp only [Col.at]; split <;> rfl
  · split at h <;> cases h
    rename_i hk; subst hk
    simp only [Col.at]; split <;> rfl
  · cases h; simp only [Col.at]; split <;> rfl
  · cases h; simp only [Col.at]; split <;> rfl

def setCols (i : Nat) : List Col → Nat → List SV → Option (List Col)
  | cs, _, [] => some cs
  | c :: cs, 0, v :: vs => match c.set i v, setCols i cs 0 vs with
    | some c', some cs' => some (c' :: cs')
    | _, _ => none
  | c :: cs, j + 1, v :: vs => match setCols i cs j (v :: vs) with
    | some cs' => some (c :: cs')
    | none => none
  | [], _, _ :: _ => none

theorem setCols_at {i : Nat} : ∀ {cs : List Col} {j : Nat} {vs : List SV} {cs' : List Col}, setCols i cs j vs = some cs' → ∀ x, colsAt cs' x = if x = i then setR (colsAt cs x) j vs else colsAt cs x
  | cs, j, [], cs', h, x => by
    have h : some cs = some cs' := by cases cs <;> cases j <;> exact h
    cases h
    simp [setR]
  | c :: cs, 0, v :: vs, cs', h, x => by
    unfold setCols at h
    split at h
    · rename_i c1 cs1 h1 h2
      cases h
      have e1 := Col.set_at h1 x
      have e2 := setCols_at h2 x
      simp only [colsAt, e1, e2]
      split
      · simp [setR, Nat.add_comm]
      · rfl
    · cases h
  | c :: cs, j + 1, v :: vs, cs', h, x => by
    unfold setCols at h
    split at h
    · rename_i cs1 h1
      cases h
      have e := setCols_at h1 x
      simp only [colsAt, e]
      split
      · simp only [setR, List.length_cons, List.take_succ_cons, List.cons_append]
        rw [show j + 1 + (vs.length + 1) = (j + (vs.length + 1)) + 1 by omega, List.drop_succ_cons]
      · rfl
    · cases h
  | [], j, _ :: _, cs', h, x => by cases j <;> cases h

theorem setCols_length {i : Nat} {cs : List Col} {j : Nat} {vs : List SV} {cs' : List Col} (h : setCols i cs j vs = some cs') : cs'.length = cs.length := by
  have := congrArg List.length (setCols_at h (i + 1))
  rw [if_neg (by omega), colsAt_length, colsAt_length] at this
  exact this

def Blk.store (B : Blk) (i j : Nat) (vs : List SV) : Blk :=
  match B with
  | .box l => .box (setR l j vs)
  | .row n sz g => .row n sz (fun x => if x = i then setR (g x) j vs else g x)
  | .cols n cs => match setCols i cs j vs with
    | some cs' => .cols n cs'
    | none => .row n cs.length (fun x => if x = i then setR (colsAt cs x) j vs else colsAt cs x)
  | .grow n cs _ _ => .row n cs.length (fun x => if x = i then setR (colsAt cs x) j vs else colsAt cs x)

theorem store_ext (B : Blk) (i j : Nat) (vs : List SV) (ρ : Rho) (o : Nat) (c : Array Value) (e : TypeId) (fz : Nat × Nat) : (B.store i j vs).ext ρ o c e fz := by
  cases B <;> try trivial
  simp only [Blk.store]; split <;> trivial

/-- What was there is as it was, where it must be. -/
structure Bel (B : Nat → Prop) (w w' : World) : Prop where
  os : w'.os = w.os
  tape : w'.tape = w.tape
  output : w'.output = w.output
  size : w.heap.size ≤ w'.heap.size
  block : ∀ k, B k → w'.heap[k]? = w.heap[k]?

theorem Bel.refl (B : Nat → Prop) (w : World) : Bel B w w := ⟨rfl, rfl, rfl, Nat.le_refl _, fun _ _ => rfl⟩
theorem Bel.trans {B : Nat → Prop} {a b c : World} (h : Bel B a b) (k : Bel B b c) : Bel B a c :=
  ⟨k.os.trans h.os, k.tape.trans h.tape, k.output.trans h.output, Nat.le_trans h.size k.size, fun i hi => (k.block i hi).trans (h.block i hi)⟩
theorem Bel.of {B : Nat → Prop} {w w' : World} (h : Below w.heap.size w w') (hB : ∀ k, B k → k < w.heap.size) : Bel B w w' := ⟨h.os, h.tape, h.output, h.size, fun k hk => h.block k (hB k hk)⟩
theorem Bel.up {w w' : World} (h : Bel (fun k => k < w.heap.size) w w') : Below w.heap.size w w' := ⟨h.os, h.tape, h.output, h.size, h.block⟩

/-- Which blocks are the call's own: those from name 'm0' on; they lie at 'B' or above, and apart from all others. -/
structure Own (B : Nat → Prop) (m0 : Nat) (ρ : Rho) (w : World) (mem : Mem) : Prop where
  low : ∀ id C, m0 ≤ id → mem[id]? = some (some C) → ∃ b, ρ id = some (b, 0) ∧ ¬ B b ∧ OwnAt w b
  inj : ∀ i j bi oi bj oj, m0 ≤ i → i ≠ j → (∃ C, mem[i]? = some (some C)) → (∃ C, mem[j]? = some (some C)) → ρ i = some (bi, oi) → ρ j = some (bj, oj) → bi ≠ bj

/-- 'run_storeCells_at', nothing of the row being frozen but what lies behind its end. -/
theorem run_storeCells_atM (P : Program) (g o : Nat) (t : TypeId) (fz : Nat × Nat) : ∀ {sz : Nat} (hz : fz = (0, 0) ∨ sz ≤ fz.1) (vs : List Value) (i : Nat) (cur : Array Value) (w : World), cur.size = sz → w.heap[g]? = some (.cells cur t fz) → o + i + vs.length ≤ cur.size → (∀ v ∈ vs, v.oneCell' = true) →
    (storeCells ⟨g, o, none⟩ vs i).run P w = .ok () (w.setRow g (cur.toList.take (o + i) ++ vs ++ cur.toList.drop (o + i + vs.length)).toArray)
  | sz, hz, [], i, cur, w, hsz, hg, _, _ => by
    simp only [storeCells, List.append_nil, List.length_nil, Nat.add_zero, List.take_append_drop, Array.toArray_toList]
    rw [setRow_self w g cur t fz hg]
    rfl
  | sz, hz, v :: rest, i, cur, w, hsz, hg, hl, h1 => by
    have hi : o + i < cur.size := by simp at hl; omega
    have hadd : (⟨g, o, none⟩ : Addr).add i = ⟨g, o + i, none⟩ := by unfold Addr.add; split <;> simp_all
    have hcell : w.cell? ⟨g, o + i, none⟩ = some cur[o + i] := by simp [World.cell?, hg, hi]
    have hfro : w.frozen? ⟨g, o + i, none⟩ = false := by
      obtain ⟨lo, hi'⟩ := fz
      simp only [World.frozen?, hg, Bool.and_eq_false_iff, decide_eq_false_iff_not]
      rcases hz with hz | hz
      · cases hz; right; omega
      · left; simp only at hz; omega
    have hst : (store ((⟨g, o, none⟩ : Addr).add i) v).run P w = .ok () (w.setRow g (cur.setIfInBounds (o + i) v)) := by
      rw [hadd, run_store P w _ v _ (h1 v (by simp)), hcell]
      simp [hfro, setCell_eq_setRow w g (o + i) cur t fz v hg]
    have ih := run_storeCells_atM P g o t fz hz rest (i + 1) (cur.setIfInBounds (o + i) v) (w.setRow g (cur.setIfInBounds (o + i) v)) (by simpa using hsz) (setRow_heap w g cur _ t _ hg) (by simp at hl ⊢; omega) (fun x hx => h1 x (by simp [hx]))
    simp only [storeCells, Sem.run_bind, hst, Result.andThen_ok, ih, setRow_setRow]
    congr 3
    have e := list_seg_step cur.toList (o + i) v rest (by simp at hl ⊢; omega)
    simpa [Array.toList_setIfInBounds, Nat.add_assoc] using e

def evStore (P : Program) (m0 : Nat) (mem : Mem) (t : TypeId) (p : SV) (cells : List SV) : T Mem :=
  match p with
  | .ptr id sz i j =>
    match mem[id]? with
    | some (some B) =>
      if m0 ≤ id then
        if B.sz = sz then
          match P.info? t with
          | some ti =>
            if cells.length = ti.size then
              if j + cells.length ≤ sz then needI B i (.leaf (mem.set id (some (B.store i j cells)))) else .fail
            else .fail
          | none => .fail
        else .fail
      else .fail
    | _ => .fail
  | _ => .fail

theorem mul_gap {x i sz y j len : Nat} (hy : y < sz) (hj : j + len ≤ sz) : (x = i ∧ j ≤ y ∧ y < j + len) ↔ (i * sz + j ≤ x * sz + y ∧ x * sz + y < i * sz + j + len) := by
  constructor
  · rintro ⟨rfl, h1, h2⟩; omega
  · rintro ⟨h1, h2⟩
    have hx : x = i := by
      rcases Nat.lt_trichotomy x i with h | h | h
      · have := Nat.mul_le_mul_right sz (show x + 1 ≤ i from h)
        rw [Nat.add_mul, Nat.one_mul] at this
        omega
      · exact h
      · have := Nat.mul_le_mul_right sz (show i + 1 ≤ x from h)
        rw [Nat.add_mul, Nat.one_mul] at this
        omega
    subst hx
    exact ⟨rfl, by omega, by omega⟩

theorem store_get (B : Blk) (i j : Nat) (vs : List SV) (x : Nat) (hx : x < B.n) (hi : i < B.n) : (B.store i j vs).get x = if x = i then setR (B.get x) j vs else B.get x := by
  cases B with
  | box l =>
    have h1 : x < 1 := hx
    have h2 : i < 1 := hi
    rw [if_pos (by omega)]; rfl
  | row n sz g => rfl
  | cols n cs =>
    simp only [Blk.store]
    split
    · rename_i cs' h; exact setCols_at h x
    · rfl
  | grow n cs k t => rfl

theorem store_n (B : Blk) (i j : Nat) (vs : List SV) : (B.store i j vs).n = B.n := by
  cases B <;> try rfl
  simp only [Blk.store]; split <;> rfl
theorem store_sz (B : Blk) (i j : Nat) (vs : List SV) (h : j + vs.length ≤ B.sz) : (B.store i j vs).sz = B.sz := by
  cases B with
  | box l => exact setR_length l j vs h
  | row n sz g => rfl
  | cols n cs =>
    simp only [Blk.store]
    split
    · rename_i cs' h; exact setCols_length h
    · rfl
  | grow n cs k t => rfl

theorem evStore_ok {P : Program} {ρ : Rho} {w : World} {mem : Mem} {B0 : Nat → Prop} {m0 : Nat} (hm : MemOK ρ w mem) (ho : Own B0 m0 ρ w mem) (t : TypeId) {p : SV} {cells : List SV} {u v : Value} (hp : p.rel ρ u) (hv : RelL ρ cells v.cells.toList)
    (next : World → Prop) (h : (evStore P m0 mem t p cells).holds fun mem' => ∀ w', MemOK ρ w' mem' → Own B0 m0 ρ w' mem' → Bel B0 w w' → w'.heap.size = w.heap.size → mem'.length = mem.length → next w') :
    ∃ w', (Instr.storeAt t u v).run P w = .ok () w' ∧ next w' := by
  unfold evStore at h
  split at h <;> try exact h.elim
  rename_i id sz i j
  split at h <;> try exact h.elim
  rename_i B hB
  split at h <;> try exact h.elim
  rename_i hm0
  split at h <;> try exact h.elim
  rename_i hsz
  split at h <;> try exact h.elim
  rename_i ti hti
  split at h <;> try exact h.elim
  rename_i hlen
  split at h <;> try exact h.elim
  rename_i hjl
  obtain ⟨hi', h⟩ := needI_holds h
  obtain ⟨b, o, hρ, rfl⟩ := hp
  obtain ⟨b', hρ', hB0, c, e, fz, hheap, hfz⟩ := ho.low id B hm0 hB
  rw [hρ] at hρ'; cases hρ'
  obtain ⟨b', o', hρ', c', e', fz', hheap', hcell, _⟩ := hm.blk id B hB
  rw [hρ] at hρ'; cases hρ'
  rw [hheap] at hheap'; cases hheap'
  have hvl : v.cells.toList.length = cells.length := hv.length.symm
  -- the last cell lies in the block
  have hfit : 0 + (i * sz + j) + 0 + v.cells.toList.length ≤ c.size := by
    rw [hvl]
    by_cases hz : cells.length = 0
    · -- nothing is stored: the address may lie at the end
      by_cases hsz0 : sz = 0
      · have : j = 0 := by omega
        subst hsz0; subst this; simp [hz]
      · obtain ⟨v1, s1, a1, _⟩ := hcell i hi' 0 (by omega)
        have := (Array.getElem?_eq_some_iff.1 a1).1
        by_cases hj : j < sz
        · obtain ⟨v2, s2, a2, _⟩ := hcell i hi' j (by omega)
          have := (Array.getElem?_eq_some_iff.1 a2).1
          rw [hsz] at this; omega
        · obtain ⟨v2, s2, a2, _⟩ := hcell i hi' (sz - 1) (by omega)
          have := (Array.getElem?_eq_some_iff.1 a2).1
          rw [hsz] at this; omega
    · obtain ⟨v2, s2, a2, _⟩ := hcell i hi' (j + cells.length - 1) (by omega)
      have := (Array.getElem?_eq_some_iff.1 a2).1
      rw [hsz] at this; omega
  have hrun := run_storeCells_atM P b (0 + (i * sz + j)) e fz hfz v.cells.toList 0 c w rfl hheap hfit hv.one
  have hstore : (Instr.storeAt t (.pointer (some ⟨b, 0 + (i * sz + j), none⟩)) v).run P w = .ok () (w.setRow b (setR c.toList (0 + (i * sz + j) + 0) v.cells.toList).toArray) := by
    have hne : ¬ (v.cells.size ≠ ti.size) := by
      have : v.cells.size = v.cells.toList.length := by simp
      rw [this, hvl, hlen]; simp
    have h1 : (Instr.storeAt t (.pointer (some ⟨b, 0 + (i * sz + j), none⟩)) v).run P w = (storeCells ⟨b, 0 + (i * sz + j), none⟩ v.cells.toList).run P w := by
      simp only [Instr.storeAt, Instr.sureAddr, storeVar, Sem.run_bind, Sem.run_pure, Result.andThen_ok, run_sizeOf' hti]
      rw [if_neg hne]
    rw [h1]; exact hrun
  refine ⟨_, hstore, h _ ?_ ?_ ?_ (by simp) (by simp)⟩
  · -- memory
    refine ⟨fun id' hid => hm.dom id' (by simpa using hid), fun id' C hC => ?_⟩
    by_cases hid : id' = id
    · subst hid
      have hlt : id' < mem.length := (List.getElem?_eq_some_iff.1 hB).1
      rw [List.getElem?_set_self hlt] at hC
      cases hC
      refine ⟨b, 0, hρ, _, e, fz, setRow_heap w b c _ e fz hheap, fun x hx y hy => ?_, store_ext _ _ _ _ _ _ _ _ _⟩
      rw [store_n] at hx
      have hst := store_sz B i j cells (by omega)
      rw [hst] at hy ⊢
      obtain ⟨v1, s1, a1, a2, a3⟩ := hcell x hx y hy
      have hfit' : 0 + (i * sz + j) + 0 + v.cells.toList.length ≤ c.toList.length := by simpa using hfit
      rw [store_get B i j cells x hx hi']
      have hidx : (setR c.toList (0 + (i * sz + j) + 0) v.cells.toList).toArray[0 + (x * B.sz + y)]? = (setR c.toList (0 + (i * sz + j) + 0) v.cells.toList)[0 + (x * B.sz + y)]? := by simp
      rw [hidx, setR_get _ _ _ hfit']
      rw [hsz] at a1 ⊢
      have hgap := mul_gap (x := x) (i := i) (sz := sz) (y := y) (j := j) (len := cells.length) (by omega) hjl
      have hlen1 : j + cells.length ≤ (B.get i).length := by
        by_cases hz : j + cells.length = 0
        · omega
        · obtain ⟨_, s2, _, b2, _⟩ := hcell i hi' (j + cells.length - 1) (by omega)
          have := (List.getElem?_eq_some_iff.1 b2).1
          omega
      by_cases hin : x = i ∧ j ≤ y ∧ y < j + cells.length
      · have hg := hgap.1 hin
        obtain ⟨hxi, hy1, hy2⟩ := hin
        subst hxi
        rw [if_neg (by omega), if_pos (by rw [hvl]; omega), if_pos rfl, setR_get _ _ _ hlen1, if_neg (by omega), if_pos hy2]
        have hs : ∃ s, cells[y - j]? = some s := ⟨cells[y - j], by simp⟩
        obtain ⟨s, hs⟩ := hs
        obtain ⟨v3, c1, c2⟩ := hv.get _ s hs
        refine ⟨v3, s, ?_, hs, c2⟩
        rw [← c1]; congr 1; omega
      · have hg : ¬ (i * sz + j ≤ x * sz + y ∧ x * sz + y < i * sz + j + cells.length) := fun hh => hin (hgap.2 hh)
        refine ⟨v1, s1, ?_, ?_, a3⟩
        · by_cases hlt : 0 + (x * sz + y) < 0 + (i * sz + j) + 0
          · rw [if_pos hlt]; simpa using a1
          · rw [if_neg hlt, if_neg (by rw [hvl]; omega)]; simpa using a1
        · by_cases hxi : x = i
          · subst hxi
            rw [if_pos rfl, setR_get _ _ _ hlen1]
            by_cases h1 : y < j
            · rw [if_pos h1]; exact a2
            · rw [if_neg h1, if_neg (fun h2 => hin ⟨rfl, by omega, h2⟩)]; exact a2
          · rw [if_neg hxi]; exact a2
    · rw [List.getElem?_set_ne (fun e => hid e.symm)] at hC
      obtain ⟨b2, o2, h1, h2⟩ := hm.blk id' C hC
      refine ⟨b2, o2, h1, h2.mono (Rho.le_refl ρ) ?_⟩
      exact setRow_other w b b2 _ (fun e => ho.inj id id' b 0 b2 o2 hm0 (fun e => hid e.symm) ⟨B, hB⟩ ⟨C, hC⟩ hρ h1 e.symm)
  · -- the call's own
    have hsame : ∀ (id' : Nat) (C : Blk), (mem.set id (some (B.store i j cells)))[id']? = some (some C) → ∃ C' : Blk, mem[id']? = some (some C') := by
      intro id' C hC
      by_cases hid : id' = id
      · subst hid; exact ⟨B, hB⟩
      · rw [List.getElem?_set_ne (fun e => hid e.symm)] at hC; exact ⟨C, hC⟩
    refine ⟨fun id' C hid' hC => ?_, fun i1 j1 bi oi bj oj h1 h2 h3 h4 h5 h6 => ?_⟩
    · obtain ⟨C', hC'⟩ := hsame id' C hC
      obtain ⟨b2, h1, h2, h3⟩ := ho.low id' C' hid' hC'
      refine ⟨b2, h1, h2, ?_⟩
      by_cases hb : b2 = b
      · subst hb
        refine ⟨_, _, fz, setRow_heap w b2 c _ e fz hheap, hfz.imp_right fun h => ?_⟩
        have h0 := setR_length c.toList (0 + (i * sz + j) + 0) v.cells.toList (by simpa using hfit)
        simp only [List.size_toArray, h0, Array.length_toList]; exact h
      · exact h3.of (setRow_other w b b2 _ hb)
    · obtain ⟨C1, hC1⟩ := h3
      obtain ⟨C2, hC2⟩ := h4
      exact ho.inj i1 j1 bi oi bj oj h1 h2 (hsame i1 C1 hC1) (hsame j1 C2 hC2) h5 h6
  · exact ⟨rfl, rfl, rfl, by simp, fun k hk => setRow_other w b k _ (fun e => hB0 (e ▸ hk))⟩

/-! ### Fields, elements, parts -/

def evFieldAddr (P : Program) (t : TypeId) (p : SV) (f : Nat) : T AV :=
  match p, P.underlying t with
  | .ptr id sz i j, some (.struct fs) =>
    match fs[f]? with
    | some fd =>
      match P.info? fd.type with
      | some ti => if ti.size = 0 then .fail else .leaf (.one (.ptr id sz i (j + fd.offset)))
      | none => .fail
    | none => .fail
  | _, _ => .fail

theorem evFieldAddr_ok {P : Program} {ρ : Rho} {w : World} (t : TypeId) {p : SV} {u : Value} (hp : p.rel ρ u) (f : Nat) : PureOK P ρ w (Instr.fieldAt t u f) (evFieldAddr P t p f) := by
  unfold evFieldAddr
  split <;> try exact .fail
  rename_i id sz i j fs hfs
  split <;> try exact .fail
  rename_i fd hfd
  split <;> try exact .fail
  rename_i ti hti
  split <;> try exact .fail
  rename_i hz
  obtain ⟨b, o, hρ, rfl⟩ := hp
  refine .leaf (v := .pointer (some ⟨b, o + (i * sz + j) + fd.offset, none⟩)) ?_ ⟨b, o, hρ, by rw [Nat.add_assoc, Nat.add_assoc]⟩
  simp [Instr.fieldAt, run_underlying hfs, hfd, Instr.sureAddr, fieldPlace, run_sizeOf' hti, hz, Addr.add_lit]

def evPart (P : Program) (t : TypeId) (l : List SV) (off : Nat) : T AV :=
  match P.info? t, P.underlying t with
  | some ti, some d =>
    if isAggD d then .leaf (.agg ((l.drop off).take ti.size))
    else match l[off]? with
      | some s => .leaf (.one s)
      | none => .fail
  | _, _ => .fail

theorem evPart_ok {P : Program} {ρ : Rho} {w : World} (t : TypeId) {l : List SV} {cs : Array Value} (hl : RelL ρ l cs.toList) (off : Nat) : PureOK P ρ w (part t cs off) (evPart P t l off) := by
  unfold evPart
  split <;> try exact .fail
  rename_i ti d hti hd
  split
  · rename_i ha
    refine .leaf (v := .agg (cs.extract off (off + ti.size))) ?_ ⟨_, rfl, ?_⟩
    · simp [part, run_isAgg hd, ha, run_sizeOf' hti]
    · have e : (cs.extract off (off + ti.size)).toList = (cs.toList.drop off).take ti.size := by
        rw [Array.toList_extract, List.extract_eq_take_drop]
        congr 1; omega
      rw [e]; exact (hl.drop off).take ti.size
  · rename_i ha
    split <;> try exact .fail
    rename_i s hs
    obtain ⟨v, h1, h2⟩ := hl.get off s hs
    refine .leaf (v := v) ?_ h2
    have h1' : cs[off]? = some v := by simpa using h1
    have ha' : isAggD d = false := by simpa using ha
    simp [part, run_isAgg hd, ha', h1']

def evField (P : Program) (t : TypeId) (x : AV) (f : Nat) : T AV :=
  match x, P.underlying t with
  | .agg l, some (.struct fs) =>
    match fs[f]? with
    | some fd => evPart P fd.type l fd.offset
    | none => .fail
  | _, _ => .fail

theorem evField_ok {P : Program} {ρ : Rho} {w : World} (t : TypeId) {x : AV} {u : Value} (hx : x.rel ρ u) (f : Nat) : PureOK P ρ w (Instr.field t u f) (evField P t x f) := by
  unfold evField
  split <;> try exact .fail
  rename_i l fs hfs
  split <;> try exact .fail
  rename_i fd hfd
  obtain ⟨cs, rfl, hl⟩ := hx
  have h := evPart_ok (P := P) (w := w) fd.type hl fd.offset
  intro next hn
  obtain ⟨v, w', h1, h2⟩ := h next hn
  refine ⟨v, w', ?_, h2⟩
  simp [Instr.field, run_underlying hfs, hfd, asAgg, h1]

def Pt.av : Pt → AV
  | .one s => .one s
  | .agg l => .agg l

theorem Pt.av_rel {ρ : Rho} {p : Pt} {v : Value} (h : p.rel ρ v) : p.av.rel ρ v := by cases p <;> exact h

theorem RelP.get {ρ : Rho} : ∀ {l : List Pt} {vs : List Value}, RelP ρ l vs → ∀ (i : Nat) (s : Pt), l[i]? = some s → ∃ v, vs[i]? = some v ∧ s.rel ρ v
  | [], [], _, i, s, h => by simp at h
  | _ :: _, _ :: _, ⟨h1, h2⟩, i, s, h => by
    cases i with
    | zero => simp at h; subst h; exact ⟨_, rfl, h1⟩
    | succ i => simpa using RelP.get h2 i s (by simpa using h)

def evExtract (x : AV) (i : Nat) : T AV :=
  match x with
  | .tup l => match l[i]? with
    | some p => .leaf p.av
    | none => .fail
  | _ => .fail

theorem evExtract_ok {P : Program} {ρ : Rho} {w : World} {x : AV} {u : Value} (hx : x.rel ρ u) (i : Nat) : PureOK P ρ w (Instr.extract u i) (evExtract x i) := by
  unfold evExtract
  split <;> try exact .fail
  split <;> try exact .fail
  rename_i l p hp
  obtain ⟨vs, rfl, hl⟩ := hx
  obtain ⟨v, h1, h2⟩ := hl.get i p hp
  refine .leaf (v := v) ?_ (Pt.av_rel h2)
  have h1' : vs[i]? = some v := by simpa using h1
  simp [Instr.extract, h1']

/-- The address of an element: of a slice; of an array behind its address. -/
def evIndexAddr (P : Program) (t : TypeId) (x i : SV) : T AV :=
  match i.int?, x, P.underlying t with
  | some (_, m, _), .sl id sz i0 len _ _, some (.slice e) =>
    match P.info? e with
    | some ti => if ti.size = sz then .need (decide (0 ≤ m) && decide (m < len)) (.leaf (.one (.ptr id sz (m.toNat + i0) 0))) else .fail
    | none => .fail
  | some (_, m, _), .su id sz i0 len _, some (.slice e) =>
    match P.info? e with
    | some ti => if ti.size = sz then .need (decide (0 ≤ m) && decide (m < len)) (.leaf (.one (.ptr id sz (m.toNat + i0) 0))) else .fail
    | none => .fail
  | some (_, m, _), .so id sz len k, some (.slice e) =>
    match P.info? e with
    | some ti => if ti.size = sz then .need (decide (0 ≤ m) && decide (m < len)) (.leaf (.one (.ptr id sz m.toNat 0))) else .fail
    | none => .fail
  | some (_, m, _), .ptr id sz i0 j, some (.array n e) =>
    match P.info? e with
    | some ti => .need (decide (0 ≤ m) && decide (m < n)) (.leaf (.one (.ptr id sz i0 (j + m.toNat * ti.size))))
    | none => .fail
  | _, _, _ => .fail

theorem evIndexAddr_ok {P : Program} {ρ : Rho} {w : World} (t : TypeId) {x i : SV} {u v : Value} (hx : x.rel ρ u) (hi : i.rel ρ v) : PureOK P ρ w (Instr.indexAt t u v) (evIndexAddr P t x i) := by
  unfold evIndexAddr
  split <;> try exact .fail
  · rename_i k m kn id sz i0 len cap kn' e hint hu
    split <;> try exact .fail
    rename_i ti hti
    split <;> try exact .fail
    rename_i hsz
    refine .need fun h => ?_
    have e1 := int?_rel hint hi; subst e1
    obtain ⟨b, o, hρ, rfl⟩ := hx
    have h' : 0 ≤ m ∧ m < (len : Int) := by simpa using h
    refine .leaf (v := .pointer (some ⟨b, o + i0 * sz + m.toNat * sz, none⟩)) ?_ ⟨b, o, hρ, ?_⟩
    · simp [Instr.indexAt, asIntOf, run_underlying hu, h'.1, h'.2, run_sizeOf' hti, Addr.add_lit, hsz]
    · rw [Nat.add_mul, Nat.add_zero, Nat.add_assoc, Nat.add_comm (i0 * sz)]
  · rename_i k m kn id sz i0 len kn' e hint hu
    split <;> try exact .fail
    rename_i ti hti
    split <;> try exact .fail
    rename_i hsz
    refine .need fun h => ?_
    have e1 := int?_rel hint hi; subst e1
    obtain ⟨a, cap, rfl, hlc, ha⟩ := hx
    have h' : 0 ≤ m ∧ m < (len : Int) := by simpa using h
    obtain ⟨b, o, hρ, rfl⟩ := ha (by omega)
    refine .leaf (v := .pointer (some ⟨b, o + i0 * sz + m.toNat * sz, none⟩)) ?_ ⟨b, o, hρ, ?_⟩
    · simp [Instr.indexAt, asIntOf, run_underlying hu, h'.1, h'.2, run_sizeOf' hti, Addr.add_lit, hsz]
    · rw [Nat.add_mul, Nat.add_zero, Nat.add_assoc, Nat.add_comm (i0 * sz)]
  · rename_i k m kn id sz len k2 e hint hu
    split <;> try exact .fail
    rename_i ti hti
    split <;> try exact .fail
    rename_i hsz
    refine .need fun h => ?_
    have e1 := int?_rel hint hi; subst e1
    obtain ⟨b, cap, hρ, _, hlc, rfl⟩ := hx
    have h' : 0 ≤ m ∧ m < (len : Int) := by simpa using h
    refine .leaf (v := .pointer (some ⟨b, 0 + m.toNat * sz, none⟩)) ?_ ⟨b, 0, hρ, ?_⟩
    · simp [Instr.indexAt, asIntOf, run_underlying hu, h'.1, h'.2, run_sizeOf' hti, Addr.add_lit, hsz]
    · rfl
  · rename_i k m kn id sz i0 j n e hint hu
    split <;> try exact .fail
    rename_i ti hti
    refine .need fun h => ?_
    have e1 := int?_rel hint hi; subst e1
    obtain ⟨b, o, hρ, rfl⟩ := hx
    have h' : 0 ≤ m ∧ m < (n : Int) := by simpa using h
    refine .leaf (v := .pointer (some ⟨b, o + (i0 * sz + j) + m.toNat * ti.size, none⟩)) ?_ ⟨b, o, hρ, by rw [Nat.add_assoc, Nat.add_assoc]⟩
    simp [Instr.indexAt, asIntOf, run_underlying hu, h'.1, h'.2, run_sizeOf' hti, Addr.add_lit, Instr.sureAddr]

/-! ### Literals -/

def evFill (place : Nat → Option (Nat × Nat)) (cells : List SV) : List (Nat × AV) → Option (List SV)
  | [] => some cells
  | (i, v) :: rest =>
    match place i, v.cells with
    | some (off, size), some vs => if vs.length = size ∧ off + vs.length ≤ cells.length then evFill place (setR cells off vs) rest else none
    | _, _ => none

def RelF (ρ : Rho) : List (Nat × AV) → List (Nat × Value) → Prop
  | [], [] => True
  | (i, x) :: l, (j, v) :: vs => i = j ∧ x.rel ρ v ∧ RelF ρ l vs
  | _, _ => False

theorem foldl_set (off : Nat) : ∀ (l : List Value) (k : Nat) (arr : Array Value), off + k + l.length ≤ arr.size →
    ((l.zipIdx k).foldl (fun (cs : Array Value) (x : Value × Nat) => cs.setIfInBounds (off + x.2) x.1) arr).toList = setR arr.toList (off + k) l
  | [], k, arr, _ => by simp [setR]
  | v :: l, k, arr, h => by
    simp only [List.length_cons] at h
    rw [List.zipIdx_cons, List.foldl_cons, foldl_set off l (k + 1) _ (by simp; omega)]
    apply List.ext_getElem?
    intro q
    rw [setR_get _ _ _ (by simp; omega), setR_get _ _ _ (by simp; omega), Array.toList_setIfInBounds, List.getElem?_set]
    simp only [List.length_cons, Array.length_toList]
    by_cases h1 : q < off + k
    · rw [if_pos (by omega), if_neg (by omega), if_pos h1]
    · by_cases h2 : q = off + k
      · subst h2
        rw [if_pos (by omega), if_pos rfl, if_pos (by omega), if_neg h1, if_pos (by omega)]
        simp
      · rw [if_neg (by omega), if_neg h1]
        by_cases h3 : q < off + k + (l.length + 1)
        · rw [if_pos (by omega), if_pos h3, show q - (off + k) = q - (off + (k + 1)) + 1 by omega]; rfl
        · rw [if_neg (by omega), if_neg h3, if_neg (by omega)]

theorem evFill_ok {ρ : Rho} (place : Nat → Option (Nat × Nat)) : ∀ {ps : List (Nat × AV)} {vs : List (Nat × Value)} {l r : List SV} {cells : Array Value}, RelF ρ ps vs → RelL ρ l cells.toList → evFill place l ps = some r →
    ∃ cells', Instr.fill place cells vs = some cells' ∧ RelL ρ r cells'.toList
  | [], [], l, r, cells, _, hl, h => by cases h; exact ⟨cells, rfl, hl⟩
  | (i, x) :: ps, (j, v) :: vs, l, r, cells, hps, hl, h => by
    obtain ⟨rfl, hx, hps⟩ := hps
    unfold evFill at h
    split at h <;> try (cases h; done)
    rename_i off size ws hpl hws
    split at h <;> try (cases h; done)
    rename_i hcond
    have hw := AV.cells_ok hws hx
    have hwl := hw.length
    have hcl := hl.length
    simp only [Array.length_toList] at hwl hcl
    have hfold : (v.cells.zipIdx.foldl (fun cs (x : Value × Nat) => cs.setIfInBounds (off + x.2) x.1) cells).toList = setR cells.toList off v.cells.toList := by
      have h0 := foldl_set off v.cells.toList 0 cells (by simp; omega)
      rw [Nat.add_zero] at h0
      rw [← h0, ← Array.foldl_toList, Array.toList_zipIdx]
    have hrel : RelL ρ (setR l off ws) (v.cells.zipIdx.foldl (fun cs (x : Value × Nat) => cs.setIfInBounds (off + x.2) x.1) cells).toList := by
      rw [hfold]
      unfold setR
      rw [hw.length]
      exact ((hl.take off).append hw).append (hl.drop _)
    obtain ⟨cells', h1, h2⟩ := evFill_ok place hps hrel h
    refine ⟨cells', ?_, h2⟩
    unfold Instr.fill
    rw [hpl]
    have hc : ¬ (v.cells.size ≠ size ∨ off + v.cells.size > cells.size) := by omega
    simp only [ne_eq] at hc
    simp only [ne_eq, decide_not, Bool.or_eq_true, Bool.not_eq_eq_eq_not, Bool.not_true, decide_eq_false_iff_not, decide_eq_true_eq, gt_iff_lt]
    first
      | (rw [if_neg hc]; exact h1)
      | (split
         · rename_i hcc; exact absurd hcc hc
         · exact h1)

def evBuild (P : Program) (t : TypeId) (ps : List (Nat × AV)) : T AV :=
  match zeroCells P t, P.underlying t with
  | some z, some (.struct fs) =>
    match fs.toList.mapM (fun f => (P.info? f.type).map fun i => (f.offset, i.size)) with
    | some places => match evFill (places.toArray[·]?) z ps with
      | some l => .leaf (.agg l)
      | none => .fail
    | none => .fail
  | some z, some (.array _ e) =>
    match P.info? e with
    | some ie => match evFill (fun i => some (i * ie.size, ie.size)) z ps with
      | some l => .leaf (.agg l)
      | none => .fail
    | none => .fail
  | _, _ => .fail

theorem zero_of {P : Program} {ρ : Rho} {t : TypeId} {r : List SV} (h : zeroCells P t = some r) : ∃ i z, P.info? t = some i ∧ i.zero = some z ∧ RelL ρ r z.cells.toList := by
  unfold zeroCells at h
  split at h
  · rename_i i hi
    split at h
    · rename_i z hz; exact ⟨i, z, hi, hz, zeroGo_ok h⟩
    · cases h
  · cases h

theorem evBuild_ok {P : Program} {ρ : Rho} {w : World} (t : TypeId) {ps : List (Nat × AV)} {vs : Array (Nat × Value)} (hps : RelF ρ ps vs.toList) : PureOK P ρ w (Instr.build t vs) (evBuild P t ps) := by
  unfold evBuild
  split
  · rename_i z fs hz hu
    split <;> try exact .fail
    rename_i places hpl
    split <;> try exact .fail
    rename_i l hl
    obtain ⟨it, zv, hit, hzv, hzr⟩ := zero_of (ρ := ρ) hz
    obtain ⟨cells', h1, h2⟩ := evFill_ok _ hps hzr hl
    refine .leaf (run_build w t vs cells' ?_) ⟨_, rfl, h2⟩
    unfold Program.built
    simp only [hit, hu, hzv, hpl]; exact h1
  · rename_i z n e hz hu
    split <;> try exact .fail
    rename_i ie hie
    split <;> try exact .fail
    rename_i l hl
    obtain ⟨it, zv, hit, hzv, hzr⟩ := zero_of (ρ := ρ) hz
    obtain ⟨cells', h1, h2⟩ := evFill_ok _ hps hzr hl
    refine .leaf (run_build w t vs cells' ?_) ⟨_, rfl, h2⟩
    unfold Program.built
    simp only [hit, hu, hzv, hie]; exact h1
  · exact .fail

end Go.Proofs.Ytdmcpgbnomhahaa
