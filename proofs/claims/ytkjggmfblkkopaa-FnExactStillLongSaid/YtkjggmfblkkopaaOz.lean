/-
  The symbolic walk: one operation, a list of operations, code, a function. No conditions.
-/
import Derived.Test.YtkjggmfblkkopaaOx
namespace Go.Proofs.Ytkjggmfblkkopaa
set_option linter.unusedVariables false
set_option linter.unusedSimpArgs false
open Go.RowKit

structure St where
  sl : List AV
  mem : Mem

/-! ### One operation -/

def isPlain : SV → Bool
  | .val _ => false
  | .top => false
  | _ => true

theorem plain_rel {ρ : Rho} {s : SV} {v : Value} (hs : isPlain s = true) (h : s.rel ρ v) : v ≠ .nilIface := by
  cases s <;> simp only [SV.rel, ptrRel] at h
  case fl => obtain ⟨b, rfl, _⟩ := h; simp
  case ptr => obtain ⟨b, o, _, rfl⟩ := h; simp
  case sl => obtain ⟨b, o, _, rfl⟩ := h; simp
  case su => obtain ⟨a, cap, rfl, _⟩ := h; simp
  case so => obtain ⟨b, cap, _, _, _, rfl⟩ := h; simp
  case fn => obtain ⟨b, rfl, _⟩ := h; simp
  case bt => obtain ⟨b, rfl, _⟩ := h; simp
  case val => simp [isPlain] at hs
  case top => simp [isPlain] at hs
  all_goals (subst h; simp)

def capOf : AV → Option (Nat × Nat × Nat × Nat)
  | .one (.ptr id sz i j) => some (id, sz, i, j)
  | _ => none

def capsOf : List AV → Option (List (Nat × Nat × Nat × Nat))
  | [] => some []
  | x :: r => match capOf x, capsOf r with
    | some c, some l => some (c :: l)
    | _, _ => none

theorem capsOf_ok {ρ : Rho} : ∀ {l : List AV} {vs : List Value} {cs : List (Nat × Nat × Nat × Nat)}, capsOf l = some cs → RelA ρ l vs → capsRel ρ cs vs
  | [], [], cs, h, _ => by cases h; trivial
  | x :: l, v :: vs, cs, h, ⟨h1, h2⟩ => by
    unfold capsOf at h
    split at h
    · rename_i c l' hc hl
      cases h
      refine ⟨?_, capsOf_ok hl h2⟩
      unfold capOf at hc
      split at hc
      · cases hc; exact h1
      · cases hc
    · cases h

/-- 'len'. -/
def evLen (P : Program) (t : TypeId) (x : AV) : T AV :=
  match P.underlying t, x with
  | some (.slice _), .one (.sl _ _ _ len _ kn) => .leaf (.one (mkInt kn .i64 len))
  | some (.slice _), .one (.su _ _ _ len kn) => .leaf (.one (mkInt kn .i64 len))
  | some (.slice _), .one (.so _ _ len _) => .leaf (.one (.num .i64 len))
  | some (.slice _), .one (.val (.slice _ n _)) => .leaf (.one (.int .i64 n))
  | some .string, .one (.str s) => .leaf (.one (.num .i64 s.size))
  | some (.array n _), _ => .leaf (.one (.int .i64 n))
  | _, _ => .fail

theorem evLen_ok {P : Program} {ρ : Rho} {w : World} (t ty : TypeId) {x : AV} {u : Value} (hx : x.rel ρ u) : PureOK P ρ w (Builtin.len_ #[t] ty #[u]) (evLen P t x) := by
  unfold evLen
  split <;> try exact .fail
  · rename_i hu
    obtain ⟨b, o, _, rfl⟩ := hx
    exact .leaf (by simp [Builtin.len_, run_underlying hu, goInt]) mkInt_rel
  · rename_i hu
    obtain ⟨b, o, rfl, _⟩ := hx
    exact .leaf (by simp [Builtin.len_, run_underlying hu, goInt]) mkInt_rel
  · rename_i hu
    obtain ⟨b, o, _, _, _, rfl⟩ := hx
    exact .leaf (by simp [Builtin.len_, run_underlying hu, goInt]) rfl
  · rename_i hu
    obtain ⟨rfl, _⟩ := hx
    exact .leaf (by simp [Builtin.len_, run_underlying hu, goInt]) rfl
  · rename_i hu
    cases hx
    exact .leaf (by simp [Builtin.len_, run_underlying hu, goInt]) rfl
  · rename_i hu
    exact .leaf (by simp [Builtin.len_, run_underlying hu, goInt]) rfl

def byteAt (s : ByteArray) (i : Nat) : Int := match s[i]? with
  | some b => b.toNat
  | none => 0

/-- An element of an array's value; a byte of a string. -/
def evIndex (P : Program) (t : TypeId) (x : AV) (i : SV) : T AV :=
  match P.underlying t, x, i.int? with
  | some (.array n e), .agg l, some (_, m, _) =>
    match P.info? e with
    | some ti => .need (decide (0 ≤ m ∧ m < n)) (evPart P e l (m.toNat * ti.size))
    | none => .fail
  | some .string, .one (.str s), some (_, m, _) => .need (decide (0 ≤ m ∧ m < (s.size : Int))) (.leaf (.one (.num .u8 (byteAt s m.toNat))))
  | _, _, _ => .fail

theorem evIndex_ok {P : Program} {ρ : Rho} {w : World} (t : TypeId) {x : AV} {i : SV} {u v : Value} (hx : x.rel ρ u) (hi : i.rel ρ v) : PureOK P ρ w (Instr.index t u v) (evIndex P t x i) := by
  unfold evIndex
  split <;> try exact .fail
  · rename_i n e l k m kn hu hint
    split <;> try exact .fail
    rename_i ti hti
    refine .need fun hd => ?_
    have e1 := int?_rel hint hi; subst e1
    obtain ⟨cs, rfl, hl⟩ := hx
    have hd' : 0 ≤ m ∧ m < (n : Int) := by simpa using hd
    intro next hn
    obtain ⟨v, w', h1, h2⟩ := evPart_ok (P := P) (w := w) e hl (m.toNat * ti.size) next hn
    refine ⟨v, w', ?_, h2⟩
    simp [Instr.index, asIntOf, run_underlying hu, hd'.1, hd'.2, run_sizeOf' hti, h1]
  · rename_i s k m kn hu hint
    refine .need fun hd => ?_
    have e1 := int?_rel hint hi; subst e1
    have hx : u = .string s := hx
    subst hx
    have hd' : 0 ≤ m ∧ m < (s.size : Int) := by simpa using hd
    have hlt : m.toNat < s.size := by omega
    refine .leaf (v := .int .u8 (byteAt s m.toNat)) ?_ rfl
    have hg : s[m.toNat]? = some s[m.toNat] := by simp [hlt]
    simp only [byteAt, hg]
    simp [Instr.index, asIntOf, run_underlying hu, hd'.1, hlt]

/-- A bound that may stand or not. -/
def bdInt : Option AV → Option (Option (Int × Bool))
  | none => some none
  | some (.one s) => match s.int? with
    | some (_, n, kn) => some (some (n, kn))
    | none => none
  | some _ => none

def bdOf (d : Nat) : Option (Int × Bool) → Int
  | none => d
  | some (n, _) => n
def bdKn : Option (Int × Bool) → Bool
  | none => true
  | some (_, kn) => kn

/-- Bounds that hold. -/
def bdNeed {α : Type} (l h m : Int) (c : Nat) (t : T α) : T α := .need (decide (0 ≤ m ∧ m ≤ c)) (.need (decide (0 ≤ h ∧ h ≤ m)) (.need (decide (0 ≤ l ∧ l ≤ h)) t))

/-- 's[a:b:c]'. -/
def evSlice (P : Program) (t : TypeId) (x : AV) (lo hi mx : Option AV) : T AV :=
  match bdInt lo, bdInt hi, bdInt mx with
  | some l, some h, some m =>
    match P.underlying t, x with
    | some (.slice e), .one (.sl id sz i len cap kn) =>
      match P.info? e with
      | some ti => if ti.size = sz then
          bdNeed (bdOf 0 l) (bdOf len h) (bdOf cap m) cap (.leaf (.one (.sl id sz (cond (Nat.beq (bdOf cap m).toNat (bdOf 0 l).toNat) i (i + (bdOf 0 l).toNat)) ((bdOf len h).toNat - (bdOf 0 l).toNat) ((bdOf cap m).toNat - (bdOf 0 l).toNat) (kn && bdKn l && bdKn h && bdKn m))))
        else .fail
      | none => .fail
    | some (.slice e), .one (.su id sz i len kn) =>
      match P.info? e, m with
      | some ti, none => if ti.size = sz then
          bdNeed (bdOf 0 l) (bdOf len h) len len (.leaf (.one (.su id sz (i + (bdOf 0 l).toNat) ((bdOf len h).toNat - (bdOf 0 l).toNat) (kn && bdKn l && bdKn h))))
        else .fail
      | _, _ => .fail
    | some (.slice e), .one (.val (.slice none 0 0)) =>
      match P.info? e with
      | some _ => bdNeed (bdOf 0 l) (bdOf 0 h) (bdOf 0 m) 0 (.leaf (.one (.val (.slice none 0 0))))
      | none => .fail
    | some .string, .one (.str s) =>
      match m with
      | none => bdNeed (bdOf 0 l) (bdOf s.size h) s.size s.size (.leaf (.one (.str (s.extract (bdOf 0 l).toNat (bdOf s.size h).toNat))))
      | some _ => .fail
    | _, _ => .fail
  | _, _, _ => .fail

def OptRel (ρ : Rho) : Option AV → Option Value → Prop
  | none, none => True
  | some a, some u => a.rel ρ u
  | _, _ => False
def BdRel : Option (Int × Bool) → Option Value → Prop
  | none, none => True
  | some (n, _), some u => ∃ k, u = .int k n
  | _, _ => False

theorem bdInt_rel {ρ : Rho} {x : Option AV} {r : Option (Int × Bool)} (h : bdInt x = some r) {v : Option Value} (hr : OptRel ρ x v) : BdRel r v := by
  cases x with
  | none =>
    cases v with
    | none => cases h; trivial
    | some u => exact hr.elim
  | some a =>
    cases v with
    | none => exact hr.elim
    | some u =>
      cases a with
      | one s =>
        simp only [bdInt] at h
        cases hs : s.int? with
        | none => rw [hs] at h; cases h
        | some p =>
          obtain ⟨k, n, kn⟩ := p
          rw [hs] at h; cases h
          exact ⟨k, int?_rel hs hr⟩
      | _ => cases h

theorem run_bound {P : Program} {w : World} {k : IntKind} {n : Int} {y : Nat} {c : BoundsCode} (h : 0 ≤ n ∧ n ≤ y) : (Instr.sliceBound (.int k n) y c).run P w = .ok n.toNat w := by
  simp [Instr.sliceBound, asIntOf, h.1, h.2]

theorem run_bounds {P : Program} {w : World} {b : Bool} {len cap : Nat} {l h m : Option (Int × Bool)} {lv hv mv : Option Value}
    (hl : BdRel l lv) (hh : BdRel h hv)
    (hm : BdRel m mv) (hmax : m = none ∨ h ≠ none) (h1 : 0 ≤ bdOf cap m ∧ bdOf cap m ≤ cap) (h2 : 0 ≤ bdOf len h ∧ bdOf len h ≤ bdOf cap m) (h3 : 0 ≤ bdOf 0 l ∧ bdOf 0 l ≤ bdOf len h) :
    (Instr.sliceBounds b len cap lv hv mv).run P w = .ok ((bdOf 0 l).toNat, (bdOf len h).toNat, (bdOf cap m).toNat) w := by
  unfold Instr.sliceBounds
  have e0 : (((bdOf cap m).toNat : Nat) : Int) = bdOf cap m := Int.toNat_of_nonneg h1.1
  have e1 : (((bdOf len h).toNat : Nat) : Int) = bdOf len h := Int.toNat_of_nonneg h2.1
  cases mv with
  | none =>
    cases m with
    | some p => exact hm.elim
    | none =>
      have c0 : bdOf cap (none : Option (Int × Bool)) = (cap : Int) := rfl
      cases hv with
      | none =>
        cases h with
        | some p => exact hh.elim
        | none =>
          have c1 : bdOf len (none : Option (Int × Bool)) = (len : Int) := rfl
          cases lv with
          | none =>
            cases l with
            | some p => exact hl.elim
            | none => simp [bdOf]
          | some u =>
            cases l with
            | none => exact hl.elim
            | some p =>
              obtain ⟨n, kn⟩ := p
              obtain ⟨k, rfl⟩ := hl
              have := run_bound (P := P) (w := w) (k := k) (n := n) (y := len) (c := .sliceB) (by rw [c1] at h3; exact h3)
              simp [this, bdOf]
      | some u =>
        cases h with
        | none => exact hh.elim
        | some p =>
          obtain ⟨n, kn⟩ := p
          obtain ⟨k, rfl⟩ := hh
          have hb : 0 ≤ n ∧ n ≤ (cap : Int) := by rw [c0] at h2; exact h2
          have r1 : ∀ c, (Instr.sliceBound (.int k n) cap c).run P w = .ok n.toNat w := fun c => run_bound hb
          cases lv with
          | none =>
            cases l with
            | some p => exact hl.elim
            | none => simp [r1, bdOf]
          | some u =>
            cases l with
            | none => exact hl.elim
            | some q =>
              obtain ⟨n', kn'⟩ := q
              obtain ⟨k', rfl⟩ := hl
              have := run_bound (P := P) (w := w) (k := k') (n := n') (y := n.toNat) (c := .sliceB) (by rw [Int.toNat_of_nonneg hb.1]; exact h3)
              simp [r1, this, bdOf]
  | some mu =>
    cases m with
    | none => exact hm.elim
    | some pm =>
      obtain ⟨nm, knm⟩ := pm
      obtain ⟨km, rfl⟩ := hm
      have hbm : 0 ≤ nm ∧ nm ≤ (cap : Int) := h1
      have r0 : ∀ c, (Instr.sliceBound (.int km nm) cap c).run P w = .ok nm.toNat w := fun c => run_bound hbm
      cases hv with
      | none =>
        cases h with
        | some p => exact hh.elim
        | none =>
          rcases hmax with e | e
          · cases e
          · exact absurd rfl e
      | some u =>
        cases h with
        | none => exact hh.elim
        | some p =>
          obtain ⟨n, kn⟩ := p
          obtain ⟨k, rfl⟩ := hh
          have hb : 0 ≤ n ∧ n ≤ nm := h2
          have r1 : ∀ c, (Instr.sliceBound (.int k n) nm.toNat c).run P w = .ok n.toNat w := fun c => run_bound (by rw [Int.toNat_of_nonneg hbm.1]; exact hb)
          cases lv with
          | none =>
            cases l with
            | some p => exact hl.elim
            | none => simp [r0, r1, bdOf]
          | some u =>
            cases l with
            | none => exact hl.elim
            | some q =>
              obtain ⟨n', kn'⟩ := q
              obtain ⟨k', rfl⟩ := hl
              have r2 : ∀ c, (Instr.sliceBound (.int k' n') n.toNat c).run P w = .ok n'.toNat w := fun c => run_bound (by rw [Int.toNat_of_nonneg hb.1]; exact h3)
              simp [r0, r1, r2, bdOf]

theorem bdNeed_ok {P : Program} {ρ : Rho} {w : World} {s : Sem Value} {l h m : Int} {c : Nat} {t : T AV} (k : (0 ≤ m ∧ m ≤ c) → (0 ≤ h ∧ h ≤ m) → (0 ≤ l ∧ l ≤ h) → PureOK P ρ w s t) : PureOK P ρ w s (bdNeed l h m c t) :=
  .need fun h1 => .need fun h2 => .need fun h3 => k (of_decide_eq_true h1) (of_decide_eq_true h2) (of_decide_eq_true h3)

theorem evSlice_ok {P : Program} {ρ : Rho} {w : World} (t : TypeId) {x : AV} {lo hi mx : Option AV} {u : Value} {lv hv mv : Option Value} (hx : x.rel ρ u)
    (hl : OptRel ρ lo lv) (hh : OptRel ρ hi hv)
    (hm : OptRel ρ mx mv) (hmax : mx = none ∨ hi ≠ none) : PureOK P ρ w (Instr.sliceAt t u lv hv mv) (evSlice P t x lo hi mx) := by
  unfold evSlice
  split <;> try exact .fail
  rename_i l h m h1 h2 h3
  have k1 := bdInt_rel h1 hl
  have k2 := bdInt_rel h2 hh
  have k3 := bdInt_rel h3 hm
  have hmx : m = none ∨ h ≠ none := by
    rcases hmax with e | e
    · subst e; cases h3; exact .inl rfl
    · refine .inr fun e2 => ?_
      subst e2
      cases hi with
      | none => exact e rfl
      | some a =>
        cases a with
        | one s =>
          simp only [bdInt] at h2
          cases hs : s.int? with
          | none => rw [hs] at h2; cases h2
          | some p => rw [hs] at h2; cases h2
        | _ => cases h2
  split
  · rename_i e id sz i len cap kn hu
    split <;> try exact .fail
    rename_i ti hti
    split <;> try exact .fail
    rename_i hsz
    obtain ⟨b, o, hρ, rfl⟩ := hx
    refine bdNeed_ok fun n1 n2 n3 => ?_
    have hr := run_bounds (P := P) (w := w) (b := true) k1 k2 k3 hmx n1 n2 n3
    refine .leaf (v := .slice (if (bdOf cap m).toNat = (bdOf 0 l).toNat then some ⟨b, o + i * sz, none⟩ else some ⟨b, o + i * sz + (bdOf 0 l).toNat * sz, none⟩) ((bdOf len h).toNat - (bdOf 0 l).toNat) ((bdOf cap m).toNat - (bdOf 0 l).toNat)) ?_ ⟨b, o, hρ, ?_⟩
    · simp [Instr.sliceAt, Instr.slice, run_underlying hu, hr, run_sizeOf' hti, hsz, Addr.add_lit]
    · by_cases he : (bdOf cap m).toNat = (bdOf 0 l).toNat
      · rw [if_pos he, show Nat.beq (bdOf cap m).toNat (bdOf 0 l).toNat = true by rw [he]; exact Nat.beq_refl _]; rfl
      · have hb : Nat.beq (bdOf cap m).toNat (bdOf 0 l).toNat = false := by
          cases hbb : Nat.beq (bdOf cap m).toNat (bdOf 0 l).toNat with
          | false => rfl
          | true => exact absurd (Nat.eq_of_beq_eq_true hbb) he
        rw [if_neg he, hb]
        show _ = Value.slice (some ⟨b, o + (i + (bdOf 0 l).toNat) * sz, none⟩) _ _
        rw [Nat.add_mul, Nat.add_assoc]
  · rename_i e id sz i len kn hu
    split <;> try exact .fail
    rename_i ti hti
    split <;> try exact .fail
    rename_i hsz
    obtain ⟨ad, cap, rfl, hlc, had⟩ := hx
    refine bdNeed_ok fun n1 n2 n3 => ?_
    have hmn : mv = none := by
      cases mv with
      | none => rfl
      | some q => exact k3.elim
    subst hmn
    have hr := run_bounds (P := P) (w := w) (b := true) (len := len) (cap := cap) k1 k2 (m := none) (mv := none) trivial (.inl rfl) ⟨by show (0 : Int) ≤ (cap : Int); omega, by show (cap : Int) ≤ cap; omega⟩ ⟨n2.1, by show _ ≤ (cap : Int); omega⟩ n3
    have hc : bdOf cap (none : Option (Int × Bool)) = (cap : Int) := rfl
    rw [hc, Int.toNat_natCast] at hr
    refine .leaf (v := .slice (if cap = (bdOf 0 l).toNat then ad else ad.map (·.add ((bdOf 0 l).toNat * sz))) ((bdOf len h).toNat - (bdOf 0 l).toNat) (cap - (bdOf 0 l).toNat)) ?_ ⟨_, _, rfl, by omega, fun hpos => ?_⟩
    · simp [Instr.sliceAt, Instr.slice, run_underlying hu, hr, run_sizeOf' hti, hsz]
    · obtain ⟨b, o, q1, rfl⟩ := had (by omega)
      refine ⟨b, o, q1, ?_⟩
      rw [if_neg (by omega), Nat.add_mul, ← Nat.add_assoc]
      simp [Addr.add_lit]
  · rename_i e hu
    split <;> try exact .fail
    rename_i ti hti
    obtain ⟨rfl, _⟩ := hx
    refine bdNeed_ok fun n1 n2 n3 => ?_
    have hr := run_bounds (P := P) (w := w) (b := true) (len := 0) (cap := 0) k1 k2 k3 hmx n1 n2 n3
    have z1 : (bdOf 0 m).toNat = 0 := by omega
    have z2 : (bdOf 0 h).toNat = 0 := by omega
    have z3 : (bdOf 0 l).toNat = 0 := by omega
    refine .leaf (v := .slice none 0 0) ?_ ⟨rfl, rfl⟩
    simp [Instr.sliceAt, Instr.slice, run_underlying hu, hr, run_sizeOf' hti, z1, z2, z3]
  · rename_i s hu
    split <;> try exact .fail
    cases hx
    refine bdNeed_ok fun n1 n2 n3 => ?_
    have hmn : mv = none := by
      cases mv with
      | none => rfl
      | some q => exact k3.elim
    subst hmn
    have hr := run_bounds (P := P) (w := w) (b := false) (len := s.size) (cap := s.size) k1 k2 (m := none) (mv := none) trivial (.inl rfl) n1 n2 n3
    refine .leaf (v := .string (s.extract (bdOf 0 l).toNat (bdOf s.size h).toNat)) ?_ rfl
    simp [Instr.sliceAt, Instr.slice, run_underlying hu, hr]
  · exact .fail

def evQ (P : Program) (env : List (Ctr P)) (lk : Operand → AV) (mem : Mem) (op : Op) : T (AV × Mem) :=
  match op with
  | .move x => .leaf (lk x, [])
  | .assign x => .leaf (lk x, [])
  | .pick c a b =>
    match lk c with
    | .one (.tt true) => .leaf (lk a, [])
    | .one (.tt false) => .leaf (lk b, [])
    | .one (.bo c) => .ite c (.leaf (lk a, [])) (.leaf (lk b, []))
    | _ => .fail
  | .alloc t =>
    match zeroCells P t with
    | some l => evBox mem l
    | none => .fail
  | .box _ x =>
    match (lk x).cells with
    | some l => evBox mem l
    | none => .fail
  | .load t x =>
    match lk x with
    | .one p => pureT (evLoad P mem t p)
    | _ => .fail
  | .binOp op t x y _ =>
    match lk x, lk y with
    | .one a, .one b => if isPlain a then pureT (evBin P op t a b) else .fail
    | _, _ => .fail
  | .unOp op _ x =>
    match lk x with
    | .one a => pureT (evUn op a)
    | _ => .fail
  | .convert src dst x =>
    match lk x with
    | .one a => pureT (evConv P src dst a)
    | _ => .fail
  | .fieldAddr t x f =>
    match lk x with
    | .one a => pureT (evFieldAddr P t a f)
    | _ => .fail
  | .field t x f => pureT (evField P t (lk x) f)
  | .extract x i => pureT (evExtract (lk x) i)
  | .indexAddr t x i =>
    match lk x, lk i with
    | .one a, .one b => pureT (evIndexAddr P t a b)
    | _, _ => .fail
  | .index t x i =>
    match lk i with
    | .one b => pureT (evIndex P t (lk x) b)
    | _ => .fail
  | .build t ps => pureT (evBuild P t (ps.toList.map fun p => (p.1, lk p.2)))
  | .buildSlice t len ps => evBuildSlice P mem t len (ps.toList.map fun p => (p.1, lk p.2))
  | .makeSlice t x y =>
    match lk x, lk y with
    | .one a, .one b => evMakeSlice P mem t a b
    | _, _ => .fail
  | .slice t x lo hi mx =>
    match mx, hi with
    | some _, none => .fail
    | _, _ => pureT (evSlice P t (lk x) (lo.map lk) (hi.map lk) (mx.map lk))
  | .makeFunc (.func f) first caps =>
    if first.size = 0 then
      match capsOf (caps.toList.map lk) with
      | some cs => .leaf (.one (.fn f cs), [])
      | none => .fail
    else .fail
  | .nilCheck x =>
    match lk x with
    | .one (.ptr id sz i j) => .leaf (.one (.ptr id sz i j), [])
    | .one (.fn f cs) => .leaf (.one (.fn f cs), [])
    | _ => .fail
  | .call c =>
    match c.callee with
    | .value x =>
      match lk x with
      | .one (.fn f caps) =>
        match look env f with
        | some ct => ct.run (c.args.toList.map lk ++ capsAV caps) mem
        | none => .fail
      | _ => .fail
    | .builtin .len =>
      match c.args.toList, c.argTypes.toList with
      | [x], [t] => pureT (evLen P t (lk x))
      | _, _ => .fail
    | _ => .fail
  | _ => .fail

theorem wp_sem {P : Program} {ρ : Rho} {o : Oper} {a : Act} {w : World} {N : Nat} {m : Sem Value} {t : T (AV × Mem)} {K : Act → World → Prop} {Q : Exit → Act → World → Prop}
    (he : execOp a.eval o = (do let u ← m; pure (.value u))) (hs : SemOK P ρ w N m t) (h : t.holds fun r => ∀ ρ' w' v, New ρ ρ' w w' N r.2 → r.1.rel ρ' v → K (a.put o.dst v) w') : o.wp P a w K Q := by
  obtain ⟨v, w', h1, h2⟩ := hs (fun v w' => K (a.put o.dst v) w') h
  exact wp_val he h1 h2

theorem opdsK_ok {ρ : Rho} {lk : Operand → AV} {a : Act} (h : ∀ x, (lk x).rel ρ (a.eval x)) : ∀ (xs : List Operand), RelA ρ (xs.map lk) (xs.map a.eval)
  | [] => trivial
  | x :: xs => ⟨h x, opdsK_ok h xs⟩

theorem partsF_ok {ρ : Rho} {lk : Operand → AV} {a : Act} (h : ∀ x, (lk x).rel ρ (a.eval x)) : ∀ (ps : List (Nat × Operand)), RelF ρ (ps.map fun p => (p.1, lk p.2)) (ps.map fun p => (p.1, a.eval p.2))
  | [] => trivial
  | p :: ps => ⟨rfl, h p.2, partsF_ok h ps⟩

theorem evQ_ok {P : Program} {env : List (Ctr P)} {ρ : Rho} {lk : Operand → AV} {mem : Mem} {o : Oper} {a : Act} {w : World} {K : Act → World → Prop} {Q : Exit → Act → World → Prop}
    (hm : MemOK ρ w mem) (hs : ∀ x, (lk x).rel ρ (a.eval x)) (h : (evQ P env lk mem o.op).holds fun r => ∀ ρ' w' v, New ρ ρ' w w' mem.length r.2 → r.1.rel ρ' v → K (a.put o.dst v) w') : o.wp P a w K Q := by
  have leaf : ∀ {r : AV} {v : Value} {m : Sem Value}, execOp a.eval o = (do let u ← m; pure (.value u)) → m.run P w = .ok v w → r.rel ρ v → (∀ ρ' w' v, New ρ ρ' w w' mem.length [] → r.rel ρ' v → K (a.put o.dst v) w') → o.wp P a w K Q :=
    fun he hr hv hk => wp_val he hr (hk ρ w _ (New.refl ρ w w _ hm.dom (Below.refl _ _)) hv)
  unfold evQ at h
  split at h
  case h_1 x ho =>
    exact leaf (m := pure (a.eval x)) (by unfold execOp; rw [ho] <;> rfl) rfl (hs x) h
  case h_2 x ho =>
    exact leaf (m := pure (a.eval x)) (by unfold execOp; rw [ho] <;> rfl) rfl (hs x) h
  case h_3 c x y ho =>
    have hc := hs c
    have he : ∀ q : Bool, a.eval c = .bool q → execOp a.eval o = (do let u ← (pure (if q then a.eval x else a.eval y) : Sem Value); pure (.value u)) := by
      intro q hq
      unfold execOp; rw [ho]
      simp only [hq]
      rfl
    split at h
    · rename_i hb; rw [hb] at hc
      exact leaf (he true hc) rfl (hs x) h
    · rename_i hb; rw [hb] at hc
      exact leaf (he false hc) rfl (hs y) h
    · rename_i q hb; rw [hb] at hc
      cases hq : q with
      | true => exact leaf (he q hc) (by rw [hq]; rfl) (hs x) (h.1 hq)
      | false => exact leaf (he q hc) (by rw [hq]; rfl) (hs y) (h.2 hq)
    · exact h.elim
  case h_4 t ho =>
    split at h <;> try exact h.elim
    rename_i l hl
    obtain ⟨z, hz, hzr⟩ := zeroCells_ok (P := P) (ρ := ρ) (w := w) hl
    obtain ⟨v, w', h1, h2⟩ := newVar_ok (P := P) (w := w) hm t hzr (fun v w' => K (a.put o.dst v) w') h
    refine wp_val (m := Instr.alloc t true (.tuple #[])) (by unfold execOp; rw [ho] <;> rfl) ?_ h2
    rw [← h1]
    simp [Instr.alloc, hz]
  case h_5 t x ho =>
    split at h <;> try exact h.elim
    rename_i l hl
    exact wp_sem (m := Instr.box t (a.eval x)) (by unfold execOp; rw [ho] <;> rfl) (newVar_ok hm t (AV.cells_ok hl (hs x))) h
  case h_6 t x ho =>
    have hx := hs x
    split at h <;> try exact h.elim
    rename_i p hp
    rw [hp] at hx
    exact wp_sem (m := Instr.loadAt t (a.eval x)) (by unfold execOp; rw [ho] <;> rfl) ((evLoad_ok hm t hx).pure.sem hm.dom) h
  case h_7 op t x y yt ho =>
    have hx := hs x
    have hy := hs y
    split at h <;> try exact h.elim
    rename_i p q hp hq
    rw [hp] at hx; rw [hq] at hy
    split at h <;> try exact h.elim
    rename_i hpl
    refine wp_sem (m := binOp op t (a.eval x) (a.eval y)) ?_ ((evBin_ok op t hx hy).sem hm.dom) h
    unfold execOp; rw [ho]
    simp only []
    rw [eqGuard_one op t x y (SV.rel_one hx) (plain_rel hpl hx)]
    rfl
  case h_8 op t x ho =>
    have hx := hs x
    split at h <;> try exact h.elim
    rename_i p hp
    rw [hp] at hx
    exact wp_sem (m := Op.unary op (a.eval x)) (by unfold execOp; rw [ho] <;> rfl) ((evUn_ok op hx).sem hm.dom) h
  case h_9 src dst x ho =>
    have hx := hs x
    split at h <;> try exact h.elim
    rename_i p hp
    rw [hp] at hx
    exact wp_sem (m := convert src dst (a.eval x)) (by unfold execOp; rw [ho] <;> rfl) ((evConv_ok src dst hx).sem hm.dom) h
  case h_10 t x f ho =>
    have hx := hs x
    split at h <;> try exact h.elim
    rename_i p hp
    rw [hp] at hx
    exact wp_sem (m := Instr.fieldAt t (a.eval x) f) (by unfold execOp; rw [ho] <;> rfl) ((evFieldAddr_ok t hx f).sem hm.dom) h
  case h_11 t x f ho =>
    exact wp_sem (m := Instr.field t (a.eval x) f) (by unfold execOp; rw [ho] <;> rfl) ((evField_ok t (hs x) f).sem hm.dom) h
  case h_12 x i ho =>
    exact wp_sem (m := Instr.extract (a.eval x) i) (by unfold execOp; rw [ho] <;> rfl) ((evExtract_ok (hs x) i).sem hm.dom) h
  case h_13 t x i ho =>
    have hx := hs x
    have hi := hs i
    split at h <;> try exact h.elim
    rename_i p q hp hq
    rw [hp] at hx; rw [hq] at hi
    exact wp_sem (m := Instr.indexAt t (a.eval x) (a.eval i)) (by unfold execOp; rw [ho] <;> rfl) ((evIndexAddr_ok t hx hi).sem hm.dom) h
  case h_14 t x i ho =>
    have hi := hs i
    split at h <;> try exact h.elim
    rename_i q hq
    rw [hq] at hi
    exact wp_sem (m := Instr.index t (a.eval x) (a.eval i)) (by unfold execOp; rw [ho] <;> rfl) ((evIndex_ok t (hs x) hi).sem hm.dom) h
  case h_15 t ps ho =>
    refine wp_sem (m := Instr.build t (ps.map fun (i, x) => (i, a.eval x))) (by unfold execOp; rw [ho] <;> rfl) ((evBuild_ok t ?_).sem hm.dom) h
    rw [Array.toList_map]; exact partsF_ok hs ps.toList
  case h_16 t len ps ho =>
    refine wp_sem (m := Instr.buildSlice t len (ps.map fun (i, x) => (i, a.eval x))) (by unfold execOp; rw [ho] <;> rfl) (evBuildSlice_ok hm t len ?_) h
    rw [Array.toList_map]; exact partsF_ok hs ps.toList
  case h_17 t x y ho =>
    have hx := hs x
    have hy := hs y
    split at h <;> try exact h.elim
    rename_i p q hp hq
    rw [hp] at hx; rw [hq] at hy
    exact wp_sem (m := Instr.makeSlice t (a.eval x) (a.eval y)) (by unfold execOp; rw [ho] <;> rfl) (evMakeSlice_ok hm t hx hy) h
  case h_18 t x lo hi mx ho =>
    split at h <;> try exact h.elim
    rename_i hno
    have rel : ∀ q : Option Operand, OptRel ρ (q.map lk) (q.map a.eval) := fun q => by
      cases q with
      | none => trivial
      | some q => exact hs q
    have hmx : mx.map lk = none ∨ hi.map lk ≠ none := by
      cases mx with
      | none => exact .inl rfl
      | some q =>
        cases hi with
        | none => exact absurd rfl (hno q rfl)
        | some p => exact .inr (by simp)
    exact wp_sem (m := Instr.sliceAt t (a.eval x) (lo.map a.eval) (hi.map a.eval) (mx.map a.eval)) (by unfold execOp; rw [ho] <;> rfl) ((evSlice_ok t (hs x) (rel lo) (rel hi) (rel mx) hmx).sem hm.dom) h
  case h_19 f first caps ho =>
    split at h <;> try exact h.elim
    rename_i hf
    split at h <;> try exact h.elim
    rename_i cs hcs
    have hfirst : first = #[] := by simpa using hf
    refine leaf (r := .one (.fn f cs)) (m := Instr.makeFunc (.func f) (first.map a.eval) (caps.map a.eval)) (v := .func (.func f) #[] (caps.map a.eval)) (by unfold execOp; rw [ho] <;> rfl) ?_ ⟨caps.map a.eval, rfl, ?_⟩ h
    · rw [hfirst]; simp [Instr.makeFunc]
    · rw [Array.toList_map]; exact capsOf_ok hcs (opdsK_ok hs caps.toList)
  case h_20 x ho =>
    have hx := hs x
    split at h <;> try exact h.elim
    · rename_i id sz i j hp
      rw [hp] at hx
      obtain ⟨b, q, hρ, hv⟩ := hx
      refine leaf (r := .one (.ptr id sz i j)) (m := pure (a.eval x)) ?_ rfl ⟨b, q, hρ, hv⟩ h
      unfold execOp; rw [ho]; simp only [hv]; rfl
    · rename_i f cs hp
      rw [hp] at hx
      obtain ⟨vs, hv, hc⟩ := hx
      refine leaf (r := .one (.fn f cs)) (m := pure (a.eval x)) ?_ rfl ⟨vs, hv, hc⟩ h
      unfold execOp; rw [ho]; simp only [hv]; rfl
  case h_21 c ho =>
    split at h
    · rename_i x hcal
      have hx := hs x
      split at h <;> try exact h.elim
      rename_i f caps hp
      rw [hp] at hx
      obtain ⟨vs, hv, hc⟩ := hx
      split at h <;> try exact h.elim
      rename_i ct hct
      have hf := look_f hct
      have hargs : RelA ρ (c.args.toList.map lk ++ capsAV caps) (c.args.map a.eval ++ vs).toList := by
        rw [Array.toList_append, Array.toList_map]
        exact (opdsK_ok hs c.args.toList).append (capsAV_ok hc)
      have hk := ct.ok _ mem ρ w _ hm hargs o a K Q h
      rw [hf] at hk
      unfold Oper.wp
      have he : execOp a.eval o = callFunc f (c.args.map a.eval ++ vs) := by
        unfold execOp; rw [ho]
        simp only [resolve, hcal, hv, Deferred.ofValue]
        show Sem.bind _ _ = _
        simp [Sem.bind, invoke, pure]
      rw [he]; exact hk
    · rename_i hcal
      split at h <;> try exact h.elim
      rename_i x t hx ht
      have hargs : c.args = #[x] := by
        have : c.args.toList = [x] := hx
        exact Array.ext' (by simpa using this)
      have htys : c.argTypes = #[t] := by
        have : c.argTypes.toList = [t] := ht
        exact Array.ext' (by simpa using this)
      refine wp_sem (m := Builtin.len_ #[t] o.type #[a.eval x]) ?_ ((evLen_ok t o.type (hs x)).sem hm.dom) h
      unfold execOp; rw [ho]
      simp only [resolve, hcal, hargs, htys]
      show Sem.bind _ _ = _
      simp [Sem.bind, invoke, builtin, pure]
    · exact h.elim
  case h_22 => exact h.elim

end Go.Proofs.Ytkjggmfblkkopaa
