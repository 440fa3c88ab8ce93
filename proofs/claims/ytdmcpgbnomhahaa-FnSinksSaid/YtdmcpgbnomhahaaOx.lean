/-
  The symbolic walk: calls by contract, lists of operations, code, functions. No conditions.
-/
import Derived.Test.YtdmcpgbnomhahaaOq
namespace Go.Proofs.Ytdmcpgbnomhahaa
set_option linter.unusedVariables false
set_option linter.unusedSimpArgs false
open Go.RowKit

/-! ### Contracts -/

/-- What a call of function 'f' does to a row of the caller's own, that the first argument names: by the name 1; 0 tells where it lies. -/
structure Wr (P : Program) (f : FuncId) where
  run : List AV → Blk → T (AV × Blk)
  ok : ∀ (args : List AV) (C : Blk) (ρ : Rho) (w : World) (vals : Array Value) (b : Nat), MemOK ρ w [none, some C] → ρ 0 = some (b, 0) → ρ 1 = some (b, 0) → OwnAt w b → RelA ρ args vals.toList →
    ∀ (o : Oper) (a : Act) (K : Act → World → Prop) (Q : Exit → Act → World → Prop),
      (run args C).holds (fun r => ∀ ρ' w' v, BlkAt ρ' w' b 0 r.2 → OwnAt w' b → Bel (fun k => k < w.heap.size ∧ k ≠ b) w w' → r.1.rel ρ' v → K (a.put o.dst v) w') → Oper.upon P o a K Q ((callFunc f vals).run P w)

/-- What a call of function 'f' does to a box of the caller's own, to which the first argument points: by the name 2; 0 tells where it lies; 1 is a row that the box names and that is only read. -/
structure Wq (P : Program) (f : FuncId) where
  run : List AV → Option (Nat × List Col) → Blk → T (AV × Blk)
  ok : ∀ (args : List AV) (E : Option (Nat × List Col)) (C : Blk) (ρ : Rho) (w : World) (vals : Array Value) (b : Nat), MemOK ρ w [none, E.map fun p => .cols p.1 p.2, some C] → ρ 0 = some (b, 0) → ρ 2 = some (b, 0) →
    (∀ b' o', E ≠ none → ρ 1 = some (b', o') → b' ≠ b) → OwnAt w b → RelA ρ args vals.toList →
    ∀ (o : Oper) (a : Act) (K : Act → World → Prop) (Q : Exit → Act → World → Prop),
      (run args E C).holds (fun r => ∀ ρ' w' v, ρ' 1 = ρ 1 → BlkAt ρ' w' b 0 r.2 → OwnAt w' b → Bel (fun k => k < w.heap.size ∧ k ≠ b) w w' → r.1.rel ρ' v → K (a.put o.dst v) w') → Oper.upon P o a K Q ((callFunc f vals).run P w)

/-- What a call of function 'f' is known to give: a tree of results, each with the new blocks that it lays; nothing that lay before turns. -/
structure Ctr (P : Program) where
  f : FuncId
  run : List AV → Mem → T (AV × Mem)
  ok : ∀ (args : List AV) (mem : Mem) (ρ : Rho) (w : World) (vals : Array Value), MemOK ρ w mem → RelA ρ args vals.toList →
    ∀ (o : Oper) (a : Act) (K : Act → World → Prop) (Q : Exit → Act → World → Prop),
      (run args mem).holds (fun r => ∀ ρ' w' v, New ρ ρ' w w' mem.length r.2 → r.1.rel ρ' v → K (a.put o.dst v) w') → Oper.upon P o a K Q ((callFunc f vals).run P w)
  wr : Option (Wr P f) := none
  wq : Option (Wq P f) := none

/-- A contract for a function that writes. -/
def Ctr.withW {P : Program} (C : Ctr P) (W : Wr P C.f) : Ctr P := { f := C.f, run := C.run, ok := C.ok, wr := some W }

/-- A contract for a function that writes into a box. -/
def Ctr.withQ {P : Program} (C : Ctr P) (W : Wq P C.f) : Ctr P := { f := C.f, run := C.run, ok := C.ok, wq := some W }

def look {P : Program} : List (Ctr P) → FuncId → Option (Ctr P)
  | [], _ => none
  | c :: r, f => if c.f = f then some c else look r f

theorem look_f {P : Program} : ∀ {env : List (Ctr P)} {f : FuncId} {c : Ctr P}, look env f = some c → c.f = f
  | [], _, _, h => by cases h
  | d :: r, f, c, h => by
    unfold look at h
    split at h
    · cases h; assumption
    · exact look_f h

def capsAV (caps : List (Nat × Nat × Nat × Nat)) : List AV := caps.map fun x => .one (.ptr x.1 x.2.1 x.2.2.1 x.2.2.2)

theorem capsAV_ok {ρ : Rho} : ∀ {caps : List (Nat × Nat × Nat × Nat)} {vs : List Value}, capsRel ρ caps vs → RelA ρ (capsAV caps) vs
  | [], [], _ => trivial
  | (_, _, _, _) :: _, _ :: _, ⟨h1, h2⟩ => ⟨h1, capsAV_ok h2⟩

theorem RelA.append {ρ : Rho} : ∀ {l m : List AV} {vs us : List Value}, RelA ρ l vs → RelA ρ m us → RelA ρ (l ++ m) (vs ++ us)
  | [], _, [], _, _, h => h
  | _ :: _, _, _ :: _, _, ⟨h1, h2⟩, h => ⟨h1, RelA.append h2 h⟩

theorem opds_ok {ρ : Rho} {sl : List AV} {a : Act} (h : SlotsOK ρ sl a.tmps) : ∀ (xs : List Operand), RelA ρ (xs.map (evOpd sl)) (xs.map a.eval)
  | [] => trivial
  | x :: xs => ⟨evOpd_ok h x, opds_ok h xs⟩

/-! ### make, slice literals -/

def rowBlk (n sz : Nat) (l : List SV) : Blk := .row n sz fun i => (l.drop (i * sz)).take sz

def evBuildSlice (P : Program) (mem : Mem) (t : TypeId) (len : Nat) (ps : List (Nat × AV)) : T (AV × Mem) :=
  match P.underlying t with
  | some (.slice e) =>
    match P.info? e with
    | some ie =>
      if ie.size = 0 then .fail
      else if len = 0 then
        match ps with
        | [] => .leaf (.one (.sl mem.length ie.size 0 0 0 true), [some (.row 0 ie.size fun _ => [])])
        | _ => .fail
      else if 2 ^ 24 < len * ie.size then .fail
      else
        match zeroCells P e with
        | some z =>
          if z.length = ie.size then
            match evFill (fun i => some (i * ie.size, ie.size)) ((List.range (len * ie.size)).map fun i => z.getD (i % z.length) (.tt true)) ps with
            | some l => if l.length = len * ie.size then .leaf (.one (.sl mem.length ie.size 0 len len true), [some (rowBlk len ie.size l)]) else .fail
            | none => .fail
          else .fail
        | none => .fail
    | none => .fail
  | _ => .fail

theorem SemOK.fail {P : Program} {ρ : Rho} {w : World} {N : Nat} {m : Sem Value} : SemOK P ρ w N m .fail := fun _ h => h.elim
theorem SemOK.need {P : Program} {ρ : Rho} {w : World} {N : Nat} {m : Sem Value} {c : Bool} {t : T (AV × Mem)} (h : c = true → SemOK P ρ w N m t) : SemOK P ρ w N m (.need c t) := fun n hn => h hn.1 n hn.2

theorem bang {cs : Array Value} {k : Nat} {u : Value} (h : cs[k]? = some u) : cs[k]! = u := by
  rw [getElem!_def, h]

theorem row_index {n sz i j : Nat} (hi : i < n) (hj : j < sz) : i * sz + j < n * sz := by
  have h := Nat.mul_le_mul_right sz (show i + 1 ≤ n from hi)
  rw [Nat.add_mul, Nat.one_mul] at h
  omega

theorem evBuildSlice_ok {P : Program} {ρ : Rho} {w : World} {mem : Mem} (hm : MemOK ρ w mem) (t : TypeId) (len : Nat) {ps : List (Nat × AV)} {vs : Array (Nat × Value)} (hps : RelF ρ ps vs.toList) :
    SemOK P ρ w mem.length (Instr.buildSlice t len vs) (evBuildSlice P mem t len ps) := by
  unfold evBuildSlice
  split <;> try exact .fail
  rename_i e hu
  split <;> try exact .fail
  rename_i ie hie
  split <;> try exact .fail
  rename_i hz0
  split
  · rename_i hlen
    subst hlen
    split <;> try exact .fail
    intro next h
    obtain ⟨ρ', hn, hρ⟩ := new_row hm #[] e (.row 0 ie.size fun _ => []) (fun _ _ i hi => by have : i < 0 := hi
                                                                                             omega) (fun _ _ _ _ _ => trivial)
    have hvs : vs.toList = [] := by
      cases hv : vs.toList with
      | nil => rfl
      | cons x l => rw [hv] at hps; exact hps.elim
    refine ⟨.slice (some ⟨w.heap.size, 0, none⟩) 0 0, _, ?_, h ρ' _ _ hn ⟨w.heap.size, 0, hρ, by simp⟩⟩
    have hz : (Array.map (fun (_ : Nat) => (default : Value)) (Array.range 0)) = #[] := by simp
    simp [Instr.buildSlice, run_underlying hu, run_sizeOf' hie, hvs, Instr.fill, newRow, hz]
  · rename_i hlen
    split <;> try exact .fail
    rename_i hbig
    split <;> try exact .fail
    rename_i z hz
    split <;> try exact .fail
    rename_i hzl
    split <;> try exact .fail
    rename_i l hl
    split <;> try exact .fail
    rename_i hll
    obtain ⟨ie', zv, hie', hzv, hzr⟩ := zero_of (ρ := ρ) hz
    rw [hie] at hie'; cases hie'
    have hzs : z.length = zv.cells.size := by simpa using hzr.length
    have hstart : RelL ρ ((List.range (len * ie.size)).map fun i => z.getD (i % z.length) (.tt true)) ((Array.range (len * ie.size)).map (zv.cells[· % zv.cells.size]!)).toList := by
      refine RelL.mk (by simp) fun i s v h1 h2 => ?_
      have hi : i < len * ie.size := by
        have := (List.getElem?_eq_some_iff.1 h1).1
        simpa using this
      have hpos : 0 < z.length := by omega
      have hlt : i % z.length < z.length := Nat.mod_lt _ hpos
      simp [hi] at h1 h2
      have hs : z[i % z.length]? = some s := by
        rw [List.getElem?_eq_getElem hlt] at h1 ⊢
        simpa using h1
      obtain ⟨u, hu1, hu2⟩ := hzr.get _ s hs
      have hv : v = u := by
        have hu1' : zv.cells[i % z.length]? = some u := by simpa using hu1
        rw [← h2, ← hzs]
        exact bang hu1'
      rw [hv]; exact hu2
    obtain ⟨cells', h1, h2⟩ := evFill_ok _ hps hstart hl
    intro next h
    obtain ⟨ρ', hn, hρ⟩ := new_row hm cells' e (rowBlk len ie.size l) (fun ρ' hle i hi j hj => by
      have hi' : i < len := hi
      have hj' : j < ie.size := hj
      have hlt := row_index hi' hj'
      obtain ⟨s, hs⟩ : ∃ s, l[i * ie.size + j]? = some s := ⟨l[i * ie.size + j], by simp [hll, hlt]⟩
      obtain ⟨v, hv1, hv2⟩ := h2.get _ s hs
      have hv1' : cells'[i * ie.size + j]? = some v := by simpa using hv1
      refine ⟨v, s, hv1', ?_, SV.rel_mono hle hv2⟩
      show ((l.drop (i * ie.size)).take ie.size)[j]? = _
      rw [List.getElem?_take, if_pos hj', List.getElem?_drop]; exact hs) (fun _ _ _ _ _ => trivial)
    refine ⟨.slice (some ⟨w.heap.size, 0, none⟩) len len, _, ?_, h ρ' _ _ hn ⟨w.heap.size, 0, hρ, by simp⟩⟩
    exact run_buildSlice w t e len vs cells' ie zv hu hie hzv (by omega) (by
      intro h0
      rcases Nat.mul_eq_zero.1 h0 with h0 | h0 <;> omega) h1

def zeroCol : SV → Option Col
  | .fl k x => some (.fl k fun _ => x)
  | .int k x => some (.num k fun _ => x)
  | .tt b => some (.bo fun _ => b)
  | .str s => some (.str fun _ => s)
  | _ => none

def zeroCols : List SV → Option (List Col)
  | [] => some []
  | s :: l => match zeroCol s, zeroCols l with
    | some c, some r => some (c :: r)
    | _, _ => none

theorem zeroCols_ok : ∀ {z : List SV} {cs : List Col}, zeroCols z = some cs → cs.length = z.length ∧ ∀ (i j : Nat) (s : SV), z[j]? = some s → ∃ t, (colsAt cs i)[j]? = some t ∧ ∀ ρ v, s.rel ρ v → t.rel ρ v
  | [], cs, h => by cases h; exact ⟨rfl, fun i j s h => by simp at h⟩
  | s :: l, cs, h => by
    unfold zeroCols at h
    split at h
    · rename_i c r h1 h2
      cases h
      obtain ⟨k1, k2⟩ := zeroCols_ok h2
      refine ⟨by simp [k1], fun i j u hu => ?_⟩
      cases j with
      | zero =>
        simp at hu; subst hu
        refine ⟨c.at i, rfl, fun ρ v hv => ?_⟩
        unfold zeroCol at h1
        split at h1 <;> cases h1 <;> exact hv
      | succ j => simpa [colsAt] using k2 i j u (by simpa using hu)
    · cases h

/-- A row of zeros. -/
def zeroBlk (n sz : Nat) (z : List SV) : Blk :=
  match zeroCols z with
  | some cs => .cols n cs
  | none => .row n sz fun _ => z

theorem zeroBlk_n (n sz : Nat) (z : List SV) : (zeroBlk n sz z).n = n := by unfold zeroBlk; split <;> rfl
theorem zeroBlk_ext (n sz : Nat) (z : List SV) (ρ : Rho) (o : Nat) (c : Array Value) (e : TypeId) (fz : Nat × Nat) : (zeroBlk n sz z).ext ρ o c e fz := by unfold zeroBlk; split <;> trivial
theorem zeroBlk_sz {n sz : Nat} {z : List SV} (h : sz = z.length) : (zeroBlk n sz z).sz = sz := by
  unfold zeroBlk
  split
  · rename_i cs hc; rw [h]; exact (zeroCols_ok hc).1
  · rfl
theorem zeroBlk_get {n sz : Nat} {z : List SV} (i j : Nat) (s : SV) (h : z[j]? = some s) : ∃ t, ((zeroBlk n sz z).get i)[j]? = some t ∧ ∀ ρ v, s.rel ρ v → t.rel ρ v := by
  unfold zeroBlk
  split
  · rename_i cs hc; exact (zeroCols_ok hc).2 i j s h
  · exact ⟨s, h, fun _ _ hv => hv⟩

def evMakeSlice (P : Program) (mem : Mem) (t : TypeId) (x y : SV) : T (AV × Mem) :=
  match P.underlying t, x.int?, y.int? with
  | some (.slice e), some (_, n, kn), some (_, m, _) =>
    match P.info? e, zeroCells P e with
    | some ie, some z =>
      if ie.size = z.length ∧ 0 < z.length ∧ ie.bytes ≤ 2 ^ 16 then
        .need (decide (0 ≤ n ∧ n ≤ 2 ^ 30 ∧ m = n)) (.leaf (.one (.sl mem.length ie.size 0 n.toNat n.toNat kn), [some (zeroBlk n.toNat ie.size z)]))
      else .fail
    | _, _ => .fail
  | _, _, _ => .fail

theorem evMakeSlice_ok {P : Program} {ρ : Rho} {w : World} {mem : Mem} (hm : MemOK ρ w mem) (t : TypeId) {x y : SV} {u v : Value} (hx : x.rel ρ u) (hy : y.rel ρ v) :
    SemOK P ρ w mem.length (Instr.makeSlice t u v) (evMakeSlice P mem t x y) := by
  unfold evMakeSlice
  split <;> try exact .fail
  rename_i e k n kn k' m km hu h1 h2
  have e1 := int?_rel h1 hx; subst e1
  have e2 := int?_rel h2 hy; subst e2
  split <;> try exact .fail
  rename_i ie z hie hz
  split <;> try exact .fail
  rename_i hc
  refine .need fun hd => ?_
  obtain ⟨hn0, hn1, rfl⟩ : 0 ≤ n ∧ n ≤ 2 ^ 30 ∧ m = n := by simpa using hd
  obtain ⟨ie', zv, hie', hzv, hzr⟩ := zero_of (ρ := ρ) hz
  rw [hie] at hie'; cases hie'
  have hzs : z.length = zv.cells.size := by simpa using hzr.length
  obtain ⟨q, rfl⟩ := Int.eq_ofNat_of_zero_le hn0
  have hq : q ≤ 2 ^ 30 := by omega
  have hw : IntKind.i64.wrap (q : Int) = q := IntWalk.i64_in _ (by omega)
  have hb : ie.bytes * q ≤ 2 ^ 16 * 2 ^ 30 := Nat.mul_le_mul hc.2.2 hq
  intro next h
  obtain ⟨ρ', hn, hρ⟩ := new_row hm ((Array.range (q * ie.size)).map (zv.cells[· % zv.cells.size]!)) e (zeroBlk q ie.size z) (fun ρ' hle i hi j hj => by
    have hi' : i < q := by rw [zeroBlk_n] at hi; exact hi
    rw [zeroBlk_sz hc.1] at hj ⊢
    have hj' : j < ie.size := hj
    have hlt := row_index hi' hj'
    have hmod : (i * ie.size + j) % zv.cells.size = j := by
      rw [← hzs, ← hc.1, Nat.mul_comm, Nat.mul_add_mod, Nat.mod_eq_of_lt hj']
    obtain ⟨s, hs⟩ : ∃ s, z[j]? = some s := ⟨z[j]'(by omega), by simp⟩
    obtain ⟨v, hv1, hv2⟩ := hzr.get j s hs
    obtain ⟨t', ht1, ht2⟩ := zeroBlk_get (n := q) (sz := ie.size) i j s hs
    refine ⟨v, t', ?_, ht1, ht2 _ _ (SV.rel_mono hle hv2)⟩
    have hv1' : zv.cells[j]? = some v := by simpa using hv1
    show ((Array.range (q * ie.size)).map (zv.cells[· % zv.cells.size]!))[i * ie.size + j]? = some v
    simp [hlt, hmod, bang hv1']) (zeroBlk_ext _ _ _)
  have hrow : ((q : Int).toNat) = q := by simp
  rw [hrow] at h
  refine ⟨.slice (some ⟨w.heap.size, 0, none⟩) q q, _, ?_, h ρ' _ _ hn ⟨w.heap.size, 0, hρ, by simp⟩⟩
  have ht : ¬ ((q : Int) < 0) := by omega
  have hb2 : ¬ (((ie.bytes : Int)) * (q : Int) > 2 ^ 48) := by
    have : ((ie.bytes * q : Nat) : Int) ≤ ((2 ^ 16 * 2 ^ 30 : Nat) : Int) := Int.ofNat_le.2 hb
    rw [Int.natCast_mul] at this
    omega
  by_cases hq0 : q = 0
  · subst hq0
    have hw0 : IntKind.i64.wrap 0 = 0 := by decide
    have hz : (Array.map (fun x => zv.cells[x % zv.cells.size]!) (Array.range (0 * ie.size)) : Array Value) = #[] := by simp
    have hz2 : (Array.map (fun (_ : Nat) => (default : Value)) (Array.range 0)) = #[] := by simp
    rw [hz]
    simp [hw0, hz2, Instr.makeSlice, run_underlying hu, asInt, asIntOf, run_typeInfo' hie, run_sizeOf' hie, newRow]
  · have hne : ¬ (q * ie.size = 0) := by
      intro h0
      rcases Nat.mul_eq_zero.1 h0 with h0 | h0 <;> omega
    simp [Instr.makeSlice, run_underlying hu, asInt, asIntOf, run_typeInfo' hie, run_sizeOf' hie, hw, ht, run_zero' hie hzv, newRow, hne]
    omega

end Go.Proofs.Ytdmcpgbnomhahaa
