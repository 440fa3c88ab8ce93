/-
  The symbolic walk: one operation, a list of operations, code, a function. No conditions.
-/
import Derived.Test.YtdmcpgbnomhahaaAq
import Derived.Laws.BytesArg
import Derived.Lib.AppendZeros
import Derived.Lib.ConvBytes
namespace Go.Proofs.Ytdmcpgbnomhahaa
set_option linter.unusedVariables false
set_option linter.unusedSimpArgs false
open Go.RowKit

structure St where
  sl : List AV
  mem : Mem

/-! ### One operation -/

def isPlain : SV → Bool
  | .val _ => false
  | .top => false
  | _ => true

theorem plain_rel {ρ : Rho} {s : SV} {v : Value} (hs : isPlain s = true) (h : s.rel ρ v) : v ≠ .nilIface := by
  cases s <;> simp only [SV.rel, ptrRel] at h
  case fl => obtain ⟨b, rfl, _⟩ := h; simp
  case ptr => obtain ⟨b, o, _, rfl⟩ := h; simp
  case sl => obtain ⟨b, o, _, rfl⟩ := h; simp
  case su => obtain ⟨a, cap, rfl, _⟩ := h; simp
  case so => obtain ⟨b, cap, _, _, _, rfl⟩ := h; simp
  case fn => obtain ⟨b, rfl, _⟩ := h; simp
  case bt => obtain ⟨b, rfl, _⟩ := h; simp
  case val => simp [isPlain] at hs
  case top => simp [isPlain] at hs
  all_goals (subst h; simp)

def capOf : AV → Option (Nat × Nat × Nat × Nat)
  | .one (.ptr id sz i j) => some (id, sz, i, j)
  | _ => none

def capsOf : List AV → Option (List (Nat × Nat × Nat × Nat))
  | [] => some []
  | x :: r => match capOf x, capsOf r with
    | some c, some l => some (c :: l)
    | _, _ => none

theorem capsOf_ok {ρ : Rho} : ∀ {l : List AV} {vs : List Value} {cs : List (Nat × Nat × Nat × Nat)}, capsOf l = some cs → RelA ρ l vs → capsRel ρ cs vs
  | [], [], cs, h, _ => by cases h; trivial
  | x :: l, v :: vs, cs, h, ⟨h1, h2⟩ => by
    unfold capsOf at h
    split at h
    · rename_i c l' hc hl
      cases h
      refine ⟨?_, capsOf_ok hl h2⟩
      unfold capOf at hc
      split at hc
      · cases hc; exact h1
      · cases hc
    · cases h

/-- 'len'. -/
def evLen (P : Program) (t : TypeId) (x : AV) : T AV :=
  match P.underlying t, x with
  | some (.slice _), .one (.sl _ _ _ len _ kn) => .leaf (.one (mkInt kn .i64 len))
  | some (.slice _), .one (.su _ _ _ len kn) => .leaf (.one (mkInt kn .i64 len))
  | some (.slice _), .one (.so _ _ len _) => .leaf (.one (.num .i64 len))
  | some (.slice _), .one (.val (.slice _ n _)) => .leaf (.one (.int .i64 n))
  | some .string, .one (.str s) => .leaf (.one (.num .i64 s.size))
  | some (.array n _), _ => .leaf (.one (.int .i64 n))
  | _, _ => .fail

theorem evLen_ok {P : Program} {ρ : Rho} {w : World} (t ty : TypeId) {x : AV} {u : Value} (hx : x.rel ρ u) : PureOK P ρ w (Builtin.len_ #[t] ty #[u]) (evLen P t x) := by
  unfold evLen
  split <;> try exact .fail
  · rename_i hu
    obtain ⟨b, o, _, rfl⟩ := hx
    exact .leaf (by simp [Builtin.len_, run_underlying hu, goInt]) mkInt_rel
  · rename_i hu
    obtain ⟨b, o, rfl, _⟩ := hx
    exact .leaf (by simp [Builtin.len_, run_underlying hu, goInt]) mkInt_rel
  · rename_i hu
    obtain ⟨b, o, _, _, _, rfl⟩ := hx
    exact .leaf (by simp [Builtin.len_, run_underlying hu, goInt]) rfl
  · rename_i hu
    obtain ⟨rfl, _⟩ := hx
    exact .leaf (by simp [Builtin.len_, run_underlying hu, goInt]) rfl
  · rename_i hu
    cases hx
    exact .leaf (by simp [Builtin.len_, run_underlying hu, goInt]) rfl
  · rename_i hu
    exact .leaf (by simp [Builtin.len_, run_underlying hu, goInt]) rfl

def byteAt (s : ByteArray) (i : Nat) : Int := match s[i]? with
  | some b => b.toNat
  | none => 0

/-- An element of an array's value; a byte of a string. -/
def evIndex (P : Program) (t : TypeId) (x : AV) (i : SV) : T AV :=
  match P.underlying t, x, i.int? with
  | some (.array n e), .agg l, some (_, m, _) =>
    match P.info? e with
    | some ti => .need (decide (0 ≤ m ∧ m < n)) (evPart P e l (m.toNat * ti.size))
    | none => .fail
  | some .string, .one (.str s), some (_, m, _) => .need (decide (0 ≤ m ∧ m < (s.size : Int))) (.leaf (.one (.num .u8 (byteAt s m.toNat))))
  | _, _, _ => .fail

theorem evIndex_ok {P : Program} {ρ : Rho} {w : World} (t : TypeId) {x : AV} {i : SV} {u v : Value} (hx : x.rel ρ u) (hi : i.rel ρ v) : PureOK P ρ w (Instr.index t u v) (evIndex P t x i) := by
  unfold evIndex
  split <;> try exact .fail
  · rename_i n e l k m kn hu hint
    split <;> try exact .fail
    rename_i ti hti
    refine .need fun hd => ?_
    have e1 := int?_rel hint hi; subst e1
    obtain ⟨cs, rfl, hl⟩ := hx
    have hd' : 0 ≤ m ∧ m < (n : Int) := by simpa using hd
    intro next hn
    obtain ⟨v, w', h1, h2⟩ := evPart_ok (P := P) (w := w) e hl (m.toNat * ti.size) next hn
    refine ⟨v, w', ?_, h2⟩
    simp [Instr.index, asIntOf, run_underlying hu, hd'.1, hd'.2, run_sizeOf' hti, h1]
  · rename_i s k m kn hu hint
    refine .need fun hd => ?_
    have e1 := int?_rel hint hi; subst e1
    have hx : u = .string s := hx
    subst hx
    have hd' : 0 ≤ m ∧ m < (s.size : Int) := by simpa using hd
    have hlt : m.toNat < s.size := by omega
    refine .leaf (v := .int .u8 (byteAt s m.toNat)) ?_ rfl
    have hg : s[m.toNat]? = some s[m.toNat] := by simp [hlt]
    simp only [byteAt, hg]
    simp [Instr.index, asIntOf, run_underlying hu, hd'.1, hlt]

/-- A bound that may stand or not. -/
def bdInt : Option AV → Option (Option (Int × Bool))
  | none => some none
  | some (.one s) => match s.int? with
    | some (_, n, kn) => some (some (n, kn))
    | none => none
  | some _ => none

def bdOf (d : Nat) : Option (Int × Bool) → Int
  | none => d
  | some (n, _) => n
def bdKn : Option (Int × Bool) → Bool
  | none => true
  | some (_, kn) => kn

/-- Bounds that hold. -/
def bdNeed {α : Type} (l h m : Int) (c : Nat) (t : T α) : T α := .need (decide (0 ≤ m ∧ m ≤ c)) (.need (decide (0 ≤ h ∧ h ≤ m)) (.need (decide (0 ≤ l ∧ l ≤ h)) t))

/-- 's[a:b:c]'. -/
def evSlice (P : Program) (t : TypeId) (x : AV) (lo hi mx : Option AV) : T AV :=
  match bdInt lo, bdInt hi, bdInt mx with
  | some l, some h, some m =>
    match P.underlying t, x with
    | some (.slice e), .one (.sl id sz i len cap kn) =>
      match P.info? e with
      | some ti => if ti.size = sz then
          bdNeed (bdOf 0 l) (bdOf len h) (bdOf cap m) cap (.leaf (.one (.sl id sz (cond (Nat.beq (bdOf cap m).toNat (bdOf 0 l).toNat) i (i + (bdOf 0 l).toNat)) ((bdOf len h).toNat - (bdOf 0 l).toNat) ((bdOf cap m).toNat - (bdOf 0 l).toNat) (kn && bdKn l && bdKn h && bdKn m))))
        else .fail
      | none => .fail
    | some (.slice e), .one (.su id sz i len kn) =>
      match P.info? e, m with
      | some ti, none => if ti.size = sz then
          bdNeed (bdOf 0 l) (bdOf len h) len len (.leaf (.one (.su id sz (i + (bdOf 0 l).toNat) ((bdOf len h).toNat - (bdOf 0 l).toNat) (kn && bdKn l && bdKn h))))
        else .fail
      | _, _ => .fail
    | some (.slice e), .one (.so id sz len k) =>
      match P.info? e, l, m with
      | some ti, none, none => if ti.size = sz then
          bdNeed 0 (bdOf len h) len len (.leaf (.one (.so id sz (bdOf len h).toNat k)))
        else .fail
      | some ti, some (lo, lk), none => if ti.size = sz then
          bdNeed lo (bdOf len h) len len (.leaf (.one (.su id sz (0 + lo.toNat) ((bdOf len h).toNat - lo.toNat) false)))
        else .fail
      | _, _, _ => .fail
    | some (.slice e), .one (.val (.slice none 0 0)) =>
      match P.info? e with
      | some _ => bdNeed (bdOf 0 l) (bdOf 0 h) (bdOf 0 m) 0 (.leaf (.one (.val (.slice none 0 0))))
      | none => .fail
    | some .string, .one (.str s) =>
      match m with
      | none => bdNeed (bdOf 0 l) (bdOf s.size h) s.size s.size (.leaf (.one (.str (s.extract (bdOf 0 l).toNat (bdOf s.size h).toNat))))
      | some _ => .fail
    | _, _ => .fail
  | _, _, _ => .fail

def OptRel (ρ : Rho) : Option AV → Option Value → Prop
  | none, none => True
  | some a, some u => a.rel ρ u
  | _, _ => False
def BdRel : Option (Int × Bool) → Option Value → Prop
  | none, none => True
  | some (n, _), some u => ∃ k, u = .int k n
  | _, _ => False

theorem bdInt_rel {ρ : Rho} {x : Option AV} {r : Option (Int × Bool)} (h : bdInt x = some r) {v : Option Value} (hr : OptRel ρ x v) : BdRel r v := by
  cases x with
  | none =>
    cases v with
    | none => cases h; trivial
    | some u => exact hr.elim
  | some a =>
    cases v with
    | none => exact hr.elim
    | some u =>
      cases a with
      | one s =>
        simp only [bdInt] at h
        cases hs : s.int? with
        | none => rw [hs] at h; cases h
        | some p =>
          obtain ⟨k, n, kn⟩ := p
          rw [hs] at h; cases h
          exact ⟨k, int?_rel hs hr⟩
      | _ => cases h

theorem run_bound {P : Program} {w : World} {k : IntKind} {n : Int} {y : Nat} {c : BoundsCode} (h : 0 ≤ n ∧ n ≤ y) : (Instr.sliceBound (.int k n) y c).run P w = .ok n.toNat w := by
  simp [Instr.sliceBound, asIntOf, h.1, h.2]

theorem run_bounds {P : Program} {w : World} {b : Bool} {len cap : Nat} {l h m : Option (Int × Bool)} {lv hv mv : Option Value}
    (hl : BdRel l lv) (hh : BdRel h hv)
    (hm : BdRel m mv) (hmax : m = none ∨ h ≠ none) (h1 : 0 ≤ bdOf cap m ∧ bdOf cap m ≤ cap) (h2 : 0 ≤ bdOf len h ∧ bdOf len h ≤ bdOf cap m) (h3 : 0 ≤ bdOf 0 l ∧ bdOf 0 l ≤ bdOf len h) :
    (Instr.sliceBounds b len cap lv hv mv).run P w = .ok ((bdOf 0 l).toNat, (bdOf len h).toNat, (bdOf cap m).toNat) w := by
  unfold Instr.sliceBounds
  have e0 : (((bdOf cap m).toNat : Nat) : Int) = bdOf cap m := Int.toNat_of_nonneg h1.1
  have e1 : (((bdOf len h).toNat : Nat) : Int) = bdOf len h := Int.toNat_of_nonneg h2.1
  cases mv with
  | none =>
    cases m with
    | some p => exact hm.elim
    | none =>
      have c0 : bdOf cap (none : Option (Int × Bool)) = (cap : Int) := rfl
      cases hv with
      | none =>
        cases h with
        | some p => exact hh.elim
        | none =>
          have c1 : bdOf len (none : Option (Int × Bool)) = (len : Int) := rfl
          cases lv with
          | none =>
            cases l with
            | some p => exact hl.elim
            | none => simp [bdOf]
          | some u =>
            cases l with
            | none => exact hl.elim
            | some p =>
              obtain ⟨n, kn⟩ := p
              obtain ⟨k, rfl⟩ := hl
              have := run_bound (P := P) (w := w) (k := k) (n := n) (y := len) (c := .sliceB) (by rw [c1] at h3; exact h3)
              simp [this, bdOf]
      | some u =>
        cases h with
        | none => exact hh.elim
        | some p =>
          obtain ⟨n, kn⟩ := p
          obtain ⟨k, rfl⟩ := hh
          have hb : 0 ≤ n ∧ n ≤ (cap : Int) := by rw [c0] at h2; exact h2
          have r1 : ∀ c, (Instr.sliceBound (.int k n) cap c).run P w = .ok n.toNat w := fun c => run_bound hb
          cases lv with
          | none =>
            cases l with
            | some p => exact hl.elim
            | none => simp [r1, bdOf]
          | some u =>
            cases l with
            | none => exact hl.elim
            | some q =>
              obtain ⟨n', kn'⟩ := q
              obtain ⟨k', rfl⟩ := hl
              have := run_bound (P := P) (w := w) (k := k') (n := n') (y := n.toNat) (c := .sliceB) (by rw [Int.toNat_of_nonneg hb.1]; exact h3)
              simp [r1, this, bdOf]
  | some mu =>
    cases m with
    | none => exact hm.elim
    | some pm =>
      obtain ⟨nm, knm⟩ := pm
      obtain ⟨km, rfl⟩ := hm
      have hbm : 0 ≤ nm ∧ nm ≤ (cap : Int) := h1
      have r0 : ∀ c, (Instr.sliceBound (.int km nm) cap c).run P w = .ok nm.toNat w := fun c => run_bound hbm
      cases hv with
      | none =>
        cases h with
        | some p => exact hh.elim
        | none =>
          rcases hmax with e | e
          · cases e
          · exact absurd rfl e
      | some u =>
        cases h with
        | none => exact hh.elim
        | some p =>
          obtain ⟨n, kn⟩ := p
          obtain ⟨k, rfl⟩ := hh
          have hb : 0 ≤ n ∧ n ≤ nm := h2
          have r1 : ∀ c, (Instr.sliceBound (.int k n) nm.toNat c).run P w = .ok n.toNat w := fun c => run_bound (by rw [Int.toNat_of_nonneg hbm.1]; exact hb)
          cases lv with
          | none =>
            cases l with
            | some p => exact hl.elim
            | none => simp [r0, r1, bdOf]
          | some u =>
            cases l with
            | none => exact hl.elim
            | some q =>
              obtain ⟨n', kn'⟩ := q
              obtain ⟨k', rfl⟩ := hl
              have r2 : ∀ c, (Instr.sliceBound (.int k' n') n.toNat c).run P w = .ok n'.toNat w := fun c => run_bound (by rw [Int.toNat_of_nonneg hb.1]; exact h3)
              simp [r0, r1, r2, bdOf]

theorem bdNeed_ok {P : Program} {ρ : Rho} {w : World} {s : Sem Value} {l h m : Int} {c : Nat} {t : T AV} (k : (0 ≤ m ∧ m ≤ c) → (0 ≤ h ∧ h ≤ m) → (0 ≤ l ∧ l ≤ h) → PureOK P ρ w s t) : PureOK P ρ w s (bdNeed l h m c t) :=
  .need fun h1 => .need fun h2 => .need fun h3 => k (of_decide_eq_true h1) (of_decide_eq_true h2) (of_decide_eq_true h3)

theorem evSlice_ok {P : Program} {ρ : Rho} {w : World} (t : TypeId) {x : AV} {lo hi mx : Option AV} {u : Value} {lv hv mv : Option Value} (hx : x.rel ρ u)
    (hl : OptRel ρ lo lv) (hh : OptRel ρ hi hv)
    (hm : OptRel ρ mx mv) (hmax : mx = none ∨ hi ≠ none) : PureOK P ρ w (Instr.sliceAt t u lv hv mv) (evSlice P t x lo hi mx) := by
  unfold evSlice
  split <;> try exact .fail
  rename_i l h m h1 h2 h3
  have k1 := bdInt_rel h1 hl
  have k2 := bdInt_rel h2 hh
  have k3 := bdInt_rel h3 hm
  have hmx : m = none ∨ h ≠ none := by
    rcases hmax with e | e
    · subst e; cases h3; exact .inl rfl
    · refine .inr fun e2 => ?_
      subst e2
      cases hi with
      | none => exact e rfl
      | some a =>
        cases a with
        | one s =>
          simp only [bdInt] at h2
          cases hs : s.int? with
          | none => rw [hs] at h2; cases h2
          | some p => rw [hs] at h2; cases h2
        | _ => cases h2
  split
  · rename_i e id sz i len cap kn hu
    split <;> try exact .fail
    rename_i ti hti
    split <;> try exact .fail
    rename_i hsz
    obtain ⟨b, o, hρ, rfl⟩ := hx
    refine bdNeed_ok fun n1 n2 n3 => ?_
    have hr := run_bounds (P := P) (w := w) (b := true) k1 k2 k3 hmx n1 n2 n3
    refine .leaf (v := .slice (if (bdOf cap m).toNat = (bdOf 0 l).toNat then some ⟨b, o + i * sz, none⟩ else some ⟨b, o + i * sz + (bdOf 0 l).toNat * sz, none⟩) ((bdOf len h).toNat - (bdOf 0 l).toNat) ((bdOf cap m).toNat - (bdOf 0 l).toNat)) ?_ ⟨b, o, hρ, ?_⟩
    · simp [Instr.sliceAt, Instr.slice, run_underlying hu, hr, run_sizeOf' hti, hsz, Addr.add_lit]
    · by_cases he : (bdOf cap m).toNat = (bdOf 0 l).toNat
      · rw [if_pos he, show Nat.beq (bdOf cap m).toNat (bdOf 0 l).toNat = true by rw [he]; exact Nat.beq_refl _]; rfl
      · have hb : Nat.beq (bdOf cap m).toNat (bdOf 0 l).toNat = false := by
          cases hbb : Nat.beq (bdOf cap m).toNat (bdOf 0 l).toNat with
          | false => rfl
          | true => exact absurd (Nat.eq_of_beq_eq_true hbb) he
        rw [if_neg he, hb]
        show _ = Value.slice (some ⟨b, o + (i + (bdOf 0 l).toNat) * sz, none⟩) _ _
        rw [Nat.add_mul, Nat.add_assoc]
  · rename_i e id sz i len kn hu
    split <;> try exact .fail
    rename_i ti hti
    split <;> try exact .fail
    rename_i hsz
    obtain ⟨ad, cap, rfl, hlc, had⟩ := hx
    refine bdNeed_ok fun n1 n2 n3 => ?_
    have hmn : mv = none := by
      cases mv with
      | none => rfl
      | some q => exact k3.elim
    subst hmn
    have hr := run_bounds (P := P) (w := w) (b := true) (len := len) (cap := cap) k1 k2 (m := none) (mv := none) trivial (.inl rfl) ⟨by show (0 : Int) ≤ (cap : Int); omega, by show (cap : Int) ≤ cap; omega⟩ ⟨n2.1, by show _ ≤ (cap : Int); omega⟩ n3
    have hc : bdOf cap (none : Option (Int × Bool)) = (cap : Int) := rfl
    rw [hc, Int.toNat_natCast] at hr
    refine .leaf (v := .slice (if cap = (bdOf 0 l).toNat then ad else ad.map (·.add ((bdOf 0 l).toNat * sz))) ((bdOf len h).toNat - (bdOf 0 l).toNat) (cap - (bdOf 0 l).toNat)) ?_ ⟨_, _, rfl, by omega, fun hpos => ?_⟩
    · simp [Instr.sliceAt, Instr.slice, run_underlying hu, hr, run_sizeOf' hti, hsz]
    · obtain ⟨b, o, q1, rfl⟩ := had (by omega)
      refine ⟨b, o, q1, ?_⟩
      rw [if_neg (by omega), Nat.add_mul, ← Nat.add_assoc]
      simp [Addr.add_lit]
  · rename_i e id sz len k hu
    split <;> try exact .fail
    rotate_left
    · rename_i ti lo0 lk0 hti
      split <;> try exact .fail
      rename_i hsz
      obtain ⟨bb, cap, hρ1, hρ2, hlc, rfl⟩ := hx
      refine bdNeed_ok fun n1 n2 n3 => ?_
      have hmn : mv = none := by
        cases mv with
        | none => rfl
        | some q => exact k3.elim
      subst hmn
      have hr := run_bounds (P := P) (w := w) (b := true) (len := len) (cap := cap) k1 k2 (m := none) (mv := none) trivial (.inl rfl) ⟨by show (0 : Int) ≤ (cap : Int); omega, by show (cap : Int) ≤ cap; omega⟩ ⟨n2.1, by show _ ≤ (cap : Int); omega⟩ n3
      have hc : bdOf cap (none : Option (Int × Bool)) = (cap : Int) := rfl
      have hlo : bdOf 0 (some (lo0, lk0)) = lo0 := rfl
      rw [hc, Int.toNat_natCast, hlo] at hr
      refine .leaf (v := .slice (if cap = lo0.toNat then some ⟨bb, 0, none⟩ else (some (⟨bb, 0, none⟩ : Addr)).map (·.add (lo0.toNat * sz))) ((bdOf len h).toNat - lo0.toNat) (cap - lo0.toNat)) ?_ ⟨_, _, rfl, by omega, fun hpos => ?_⟩
      · simp [Instr.sliceAt, Instr.slice, run_underlying hu, hr, run_sizeOf' hti, hsz]
      · refine ⟨bb, 0, hρ1, ?_⟩
        rw [if_neg (by omega), Nat.zero_add]
        simp [Addr.add_lit]
    rename_i ti hti
    split <;> try exact .fail
    rename_i hsz
    obtain ⟨bb, cap, hρ1, hρ2, hlc, rfl⟩ := hx
    refine bdNeed_ok fun n1 n2 n3 => ?_
    have hmn : mv = none := by
      cases mv with
      | none => rfl
      | some q => exact k3.elim
    have hln : lv = none := by
      cases lv with
      | none => rfl
      | some q => exact k1.elim
    subst hmn
    subst hln
    have hr := run_bounds (P := P) (w := w) (b := true) (len := len) (cap := cap) (l := none) (lv := none) trivial k2 (m := none) (mv := none) trivial (.inl rfl) ⟨by show (0 : Int) ≤ (cap : Int); omega, by show (cap : Int) ≤ cap; omega⟩ ⟨n2.1, by show bdOf len h ≤ (cap : Int); omega⟩ ⟨by show (0 : Int) ≤ 0; omega, by show (0 : Int) ≤ bdOf len h; omega⟩
    have hc : bdOf cap (none : Option (Int × Bool)) = (cap : Int) := rfl
    have h0 : bdOf 0 (none : Option (Int × Bool)) = (0 : Int) := rfl
    rw [hc, h0, Int.toNat_natCast] at hr
    refine .leaf (v := .slice (some ⟨bb, 0, none⟩) (bdOf len h).toNat cap) ?_ ⟨bb, cap, hρ1, hρ2, by omega, rfl⟩
    simp [Instr.sliceAt, Instr.slice, run_underlying hu, hr, run_sizeOf' hti, hsz, Addr.add_lit]
  · rename_i e hu
    split <;> try exact .fail
    rename_i ti hti
    obtain ⟨rfl, _⟩ := hx
    refine bdNeed_ok fun n1 n2 n3 => ?_
    have hr := run_bounds (P := P) (w := w) (b := true) (len := 0) (cap := 0) k1 k2 k3 hmx n1 n2 n3
    have z1 : (bdOf 0 m).toNat = 0 := by omega
    have z2 : (bdOf 0 h).toNat = 0 := by omega
    have z3 : (bdOf 0 l).toNat = 0 := by omega
    refine .leaf (v := .slice none 0 0) ?_ ⟨rfl, rfl⟩
    simp [Instr.sliceAt, Instr.slice, run_underlying hu, hr, run_sizeOf' hti, z1, z2, z3]
  · rename_i s hu
    split <;> try exact .fail
    cases hx
    refine bdNeed_ok fun n1 n2 n3 => ?_
    have hmn : mv = none := by
      cases mv with
      | none => rfl
      | some q => exact k3.elim
    subst hmn
    have hr := run_bounds (P := P) (w := w) (b := false) (len := s.size) (cap := s.size) k1 k2 (m := none) (mv := none) trivial (.inl rfl) n1 n2 n3
    refine .leaf (v := .string (s.extract (bdOf 0 l).toNat (bdOf s.size h).toNat)) ?_ rfl
    simp [Instr.sliceAt, Instr.slice, run_underlying hu, hr]
  · exact .fail

/-! ### Capacities that are known -/

def evCap (P : Program) (t : TypeId) (x : AV) : T AV :=
  match P.underlying t, x with
  | some (.slice _), .one (.val (.slice _ _ c)) => .leaf (.one (.int .i64 c))
  | _, _ => .fail
theorem evCap_ok {P : Program} {ρ : Rho} {w : World} (t ty : TypeId) {x : AV} {u : Value} (hx : x.rel ρ u) : PureOK P ρ w (Builtin.cap_ #[t] ty #[u]) (evCap P t x) := by
  unfold evCap
  split <;> try exact .fail
  rename_i e a n c hu
  obtain ⟨rfl, _⟩ := hx
  exact .leaf (v := .int .i64 c) (by simp [Builtin.cap_, run_underlying hu, goInt]) rfl

/-! ### The bytes of a row as a string -/

def bytesBlk (B : Blk) (i0 m : Nat) : Option (List Int × Bool) :=
  match B with
  | .cols n [.num .u8 f] => some ((List.range m).map fun q => f (i0 + q), decide (i0 + m ≤ n))
  | .grow n [.num .u8 f] _ _ => some ((List.range m).map fun q => f (i0 + q), decide (i0 + m ≤ n))
  | .row n 1 g => match rowNums g i0 m with
    | some l => some (l, decide (i0 + m ≤ n))
    | none => none
  | _ => none
theorem bytesBlk_ok {ρ : Rho} {w : World} {b o : Nat} {B : Blk} (hb : BlkAt ρ w b o B) {i0 m : Nat} {l : List Int} {q : Bool} (h : bytesBlk B i0 m = some (l, q)) (hq : q = true) :
    l.length = m ∧ ∀ i, i < m → w.cell? ⟨b, o + i0 + i, none⟩ = some (.int .u8 (l.getD i 0)) := by
  obtain ⟨c, e, fz, hheap, hcell, _⟩ := hb
  unfold bytesBlk at h
  have colcase : ∀ (n : Nat) (f : Nat → Int), (∀ i, i < n → ∀ j, j < 1 → ∃ v s, c[o + (i * 1 + j)]? = some v ∧ (colsAt [.num .u8 f] i)[j]? = some s ∧ s.rel ρ v) → l = (List.range m).map (fun q => f (i0 + q)) → i0 + m ≤ n → l.length = m ∧ ∀ i, i < m → w.cell? ⟨b, o + i0 + i, none⟩ = some (.int .u8 (l.getD i 0)) := by
    intro n f hc hl hn
    subst hl
    refine ⟨by simp, fun i hi => ?_⟩
    obtain ⟨v, s, a1, a2, a3⟩ := hc (i0 + i) (by omega) 0 Nat.one_pos
    simp [colsAt, Col.at] at a2
    subst a2
    have a3 : v = .int .u8 (f (i0 + i)) := a3
    subst a3
    rw [cell_of_row w b _ c e fz hheap, show o + i0 + i = o + ((i0 + i) * 1 + 0) by omega, a1]
    simp [List.getD, List.getElem?_map, hi]
  split at h
  · rename_i n f _
    cases h
    exact colcase n f hcell rfl (of_decide_eq_true hq)
  · rename_i n f k t _
    cases h
    exact colcase n f hcell rfl (of_decide_eq_true hq)
  · rename_i n g _
    split at h
    · rename_i l' hl
      cases h
      obtain ⟨k1, k2⟩ := rowNums_at hl
      refine ⟨k1, fun i hi => ?_⟩
      have hn : i0 + m ≤ n := of_decide_eq_true hq
      obtain ⟨v, s, a1, a2, a3⟩ := hcell (i0 + i) (by show i0 + i < n; omega) 0 Nat.one_pos
      obtain ⟨_, rfl⟩ := byteNum_rel (k2 i hi) a2 a3
      have a1 : c[o + ((i0 + i) * 1 + 0)]? = some (.int .u8 (l.getD i 0)) := a1
      rw [cell_of_row w b _ c e fz hheap, show o + i0 + i = o + ((i0 + i) * 1 + 0) by omega, a1]
    · cases h
  · cases h
def evBytesAt (mem : Mem) (id i0 m : Nat) : T AV :=
  match mem[id]? with
  | some (some B) => match bytesBlk B i0 m with
    | some (l, q) => .need q (.leaf (.one (.str (strOfNums l))))
    | none => .fail
  | _ => .fail
def isRow (P : Program) (t : TypeId) : Bool := match P.underlying t with
  | some (.slice _) => true
  | _ => false
def evConvB (P : Program) (mem : Mem) (src dst : TypeId) (a : SV) : T AV :=
  match P.underlying src, P.underlying dst with
  | some (.slice e), some .string => match P.underlying e with
    | some (.int .u8) => match a with
      | .sl id 1 i m _ _ => evBytesAt mem id i m
      | .su id 1 i m _ => evBytesAt mem id i m
      | .so id 1 m _ => evBytesAt mem id 0 m
      | .val (.slice none _ _) => .leaf (.one (.str ByteArray.empty))
      | _ => .fail
    | _ => .fail
  | _, _ => .fail
theorem evBytesAt_ok {P : Program} {ρ : Rho} {w : World} {mem : Mem} (hm : MemOK ρ w mem) {src dst e : TypeId} (hs : P.underlying src = some (.slice e)) (he : P.underlying e = some (.int .u8)) (hd : P.underlying dst = some .string) {id i0 m cap : Nat} {ad : Option Addr}
    (hva : 0 < m → ∃ b o, ρ id = some (b, o) ∧ ad = some ⟨b, o + i0, none⟩) : PureOK P ρ w (convert src dst (.slice ad m cap)) (evBytesAt mem id i0 m) := by
  unfold evBytesAt
  split <;> try exact .fail
  rename_i B hB
  split <;> try exact .fail
  rename_i l q hl
  refine .need fun hq => ?_
  obtain ⟨b, o, h1, h2⟩ := hm.blk id B hB
  obtain ⟨k1, k2⟩ := bytesBlk_ok h2 hl hq
  refine .leaf (v := .string (strOfNums l)) ?_ rfl
  rcases Nat.eq_zero_or_pos m with h0 | h0
  · subst h0
    have : l = [] := List.eq_nil_of_length_eq_zero k1
    subst this
    cases ad with
    | none => rw [run_convert_bytes_nil w src e hs he 0 cap dst hd]; rfl
    | some a =>
      rw [run_convert_bytes_string w src dst e _ 0 cap hs he hd]
      simp [Conv.bytesToString, loadCells, loadCellsFrom, strOfNums]
      rfl
  · obtain ⟨b', o', q1, rfl⟩ := hva h0
    rw [h1] at q1; cases q1
    exact run_convert_bytes_arg (P := P) (w := w) src e hs he b (o + i0) m cap l k1 (fun i hi => k2 i hi) dst hd
theorem evConvB_ok {P : Program} {ρ : Rho} {w : World} {mem : Mem} (hm : MemOK ρ w mem) (src dst : TypeId) {a : SV} {u : Value} (ha : a.rel ρ u) : PureOK P ρ w (convert src dst u) (evConvB P mem src dst a) := by
  unfold evConvB
  split <;> try exact .fail
  rename_i e hs hd
  split <;> try exact .fail
  rename_i he
  split <;> try exact .fail
  · obtain ⟨b, o, h1, rfl⟩ := ha
    exact evBytesAt_ok hm hs he hd fun _ => ⟨b, o, h1, by rw [Nat.mul_one]⟩
  · obtain ⟨ad, cap, rfl, _, h3⟩ := ha
    refine evBytesAt_ok hm hs he hd fun h0 => ?_
    obtain ⟨b, o, k1, k2⟩ := h3 h0
    exact ⟨b, o, k1, by rw [k2, Nat.mul_one]⟩
  · obtain ⟨b, cap, h1, h2, h3, rfl⟩ := ha
    exact evBytesAt_ok hm hs he hd fun _ => ⟨b, 0, h1, rfl⟩
  · obtain ⟨rfl, _⟩ := ha
    exact .leaf (v := .string ByteArray.empty) (run_convert_bytes_nil w _ e hs he _ _ dst hd) rfl

/-! ### A row of zeros appended to nothing -/

def evAppZ (P : Program) (mem : Mem) (t tn : TypeId) (s x : AV) : T (AV × Mem) :=
  match s, x with
  | .one (.val (.slice none 0 0)), .one xv =>
    match P.underlying t, P.underlying tn, xv.int? with
    | some (.slice e), some (.int _), some (_, n, _) =>
      match P.info? e, zeroCells P e with
      | some ie, some z => match zeroCols z with
        | some cs => if ie.size = z.length ∧ 0 < z.length ∧ ie.bytes ≤ 2 ^ 16 then
            .need (decide (0 < n ∧ n ≤ 2 ^ 30)) (.leaf (.one (.so mem.length ie.size n.toNat (mem.length + 1)), [some (.grow n.toNat cs (mem.length + 1) e), none]))
          else .fail
        | none => .fail
      | _, _ => .fail
    | _, _, _ => .fail
  | _, _ => .fail
theorem zeroCells_at (z : Array Value) (n i j : Nat) (u : Value) (hi : i < n) (hj : z[j]? = some u) : (Builtin.zeroCells z n)[i * z.size + j]? = some u := by
  have hjl : j < z.size := (Array.getElem?_eq_some_iff.1 hj).1
  have hlt := row_index hi hjl
  have hmod : (i * z.size + j) % z.size = j := by rw [Nat.mul_comm, Nat.mul_add_mod, Nat.mod_eq_of_lt hjl]
  unfold Builtin.zeroCells
  simp [hlt, hmod, bang hj]
theorem evAppZ_ok {P : Program} {ρ : Rho} {w : World} {mem : Mem} (hm : MemOK ρ w mem) (t tn ty : TypeId) {s x : AV} {u v : Value} (hs : s.rel ρ u) (hx : x.rel ρ v) :
    SemOK P ρ w mem.length (Builtin.append_ #[t, tn] ty #[u, v]) (evAppZ P mem t tn s x) := by
  unfold evAppZ
  split <;> try exact .fail
  rename_i xv
  split <;> try exact .fail
  rename_i e k1 k n kn hu htn hi
  split <;> try exact .fail
  rename_i ie z hie hz
  split <;> try exact .fail
  rename_i cs hcs
  split <;> try exact .fail
  rename_i hc
  refine .need fun hd => ?_
  obtain ⟨hn0, hn1⟩ : 0 < n ∧ n ≤ 2 ^ 30 := of_decide_eq_true hd
  have e1 := int?_rel hi hx; subst e1
  obtain ⟨rfl, _⟩ := hs
  obtain ⟨ie', zv, hie', hzv, hzr⟩ := zero_of (ρ := ρ) hz
  rw [hie] at hie'; cases hie'
  have hzs : z.length = zv.cells.size := by simpa using hzr.length
  obtain ⟨q, rfl⟩ := Int.eq_ofNat_of_zero_le (Int.le_of_lt hn0)
  have hrow : ((q : Int).toNat) = q := by simp
  rw [hrow]
  have hb : q * ie.bytes ≤ 2 ^ 30 * 2 ^ 16 := Nat.mul_le_mul (by omega) hc.2.2
  have hr := Lib.run_append_nil_zeros (P := P) w t tn ty e ie zv k k1 hu htn hie hzv q (by omega) (by omega) (by omega) (by omega)
  have hge : q ≤ grownCap w q 0 e := grownCap_ge w q 0 e
  have hle : grownCap w q 0 e ≤ maxLen := grownCap_le_maxLen w q 0 e (by simp only [maxLen]; omega)
  generalize hG : grownCap w q 0 e = G at *
  obtain ⟨c1, c2⟩ := zeroCols_ok hcs
  let ρ' : Rho := fun x => if x = mem.length then some (w.heap.size, 0) else if x = mem.length + 1 then some (G, 0) else ρ x
  have hr0 : ρ' mem.length = some (w.heap.size, 0) := if_pos rfl
  have hr1 : ρ' (mem.length + 1) = some (G, 0) := by
    show (if _ then _ else _) = _
    rw [if_neg (by omega), if_pos rfl]
  have hlr : ρ.le ρ' := fun id p h => by
    have hid : id < mem.length := by
      rcases Nat.lt_or_ge id mem.length with g | g
      · exact g
      · rw [hm.dom id g] at h; cases h
    show (if _ then _ else _) = _
    rw [if_neg (by omega), if_neg (by omega)]; exact h
  intro next h
  refine ⟨_, _, hr, h ρ' _ _ ⟨fun id h => ?_, fun id h => ?_, ?_, fun i C h => ?_, fun i j b o b' o' hij hi hj => ?_⟩ ⟨w.heap.size, G, hr0, hr1, hge, rfl⟩⟩
  · show (if _ then _ else _) = _
    rw [if_neg (by omega), if_neg (by omega)]
  · have h : mem.length + 2 ≤ id := h
    show (if _ then _ else _) = _
    rw [if_neg (by omega), if_neg (by omega)]; exact hm.dom id (by omega)
  · exact (show Below w.heap.size w w.drew from ⟨rfl, rfl, rfl, Nat.le_refl _, fun _ _ => rfl⟩).alloc (Nat.le_refl _) _
  · match i, h with
    | 0, h =>
      simp at h; subst h
      refine ⟨w.heap.size, hr0, Nat.le_refl _, ⟨_, e, (0, 0), heap_alloc_new w.drew _, fun i hi j hj => ?_, ⟨rfl, rfl⟩, G, hr1, ?_, hge, hle⟩, .mk0 (heap_alloc_new w.drew _)⟩
      · have hi : i < q := hi
        have hj : j < cs.length := hj
        obtain ⟨s, hs⟩ : ∃ s, z[j]? = some s := ⟨z[j]'(by omega), by simp⟩
        obtain ⟨v, hv1, hv2⟩ := hzr.get j s hs
        obtain ⟨t', ht1, ht2⟩ := c2 i j s hs
        have hv1' : zv.cells[j]? = some v := by simpa using hv1
        refine ⟨v, t', ?_, ht1, ht2 _ _ (SV.rel_mono hlr hv2)⟩
        have hsz : Blk.sz (.grow q cs (mem.length + 1) e) = zv.cells.size := by show cs.length = _; omega
        rw [hsz, Nat.zero_add]
        have hlt : i * zv.cells.size + j < (Builtin.zeroCells zv.cells q).size := by rw [size_zeroCells]; exact row_index hi (by omega)
        rw [Array.getElem?_append_left hlt]
        exact zeroCells_at zv.cells q i j v hi hv1'
      · simp only [Array.size_append, size_zeroCells, Nat.zero_add]
        rw [← Nat.add_mul, c1, hzs]
        congr 1
        omega
    | 1, h => simp at h
    | n + 2, h => simp at h
  · obtain ⟨B1, h1⟩ := hi
    obtain ⟨B2, h2⟩ := hj
    match i, j, h1, h2 with
    | 0, 0, _, _ => omega
    | 1, _, h1, _ => simp at h1
    | n + 2, _, h1, _ => simp at h1
    | _, 1, _, h2 => simp at h2
    | _, n + 2, _, h2 => simp at h2

/-! ### A string's bytes as a row -/

def evConvS (P : Program) (mem : Mem) (src dst : TypeId) (a : SV) : T (AV × Mem) :=
  match P.underlying src, P.underlying dst, a with
  | some _, some (.slice e), .str s => match P.underlying e with
    | some (.int .u8) => .leaf (.one (.su mem.length 1 0 s.size false), [some (.cols s.size [.num .u8 fun q => byteAt s q])])
    | _ => .fail
  | _, _, _ => .fail

theorem evConvS_ok {P : Program} {ρ : Rho} {w : World} {mem : Mem} (hm : MemOK ρ w mem) (src dst : TypeId) {a : SV} {u : Value} (ha : a.rel ρ u) : SemOK P ρ w mem.length (convert src dst u) (evConvS P mem src dst a) := by
  unfold evConvS
  split <;> try exact .fail
  rename_i d e s hs hd
  split <;> try exact .fail
  rename_i he
  have ha : u = .string s := ha
  subst ha
  have hr := Lib.run_convert_string_bytes (P := P) w src dst e s hs hd he
  intro next h
  let ρ' : Rho := fun x => if x = mem.length then some (w.heap.size, 0) else ρ x
  have hr0 : ρ' mem.length = some (w.heap.size, 0) := if_pos rfl
  have hcs : s.size ≤ (Lib.bytesCells w e s).size := by
    simp only [Lib.bytesCells, Array.size_append, Array.size_map]
    exact Nat.le_add_right _ _
  refine ⟨_, _, hr, h ρ' _ _ ⟨fun id h => ?_, fun id h => ?_, ⟨?_, ?_, ?_, ?_, fun k hk => Lib.bytesWorld_at_old w e s k hk⟩, fun i C h => ?_, fun i j b o b' o' hij hi hj => ?_⟩ ⟨_, _, rfl, grownCap_ge w s.size 0 e, fun _ => ⟨w.heap.size, 0, hr0, by simp⟩⟩⟩
  · show (if _ then _ else _) = _
    rw [if_neg (by omega)]
  · have h : mem.length + 1 ≤ id := h
    show (if _ then _ else _) = _
    rw [if_neg (by omega)]; exact hm.dom id (by omega)
  · simp [Lib.bytesWorld, World.freeze, World.alloc, World.drew, -World.alloc_eq, -World.drew_eq]
  · simp [Lib.bytesWorld, World.freeze, World.alloc, World.drew, -World.alloc_eq, -World.drew_eq]
  · simp [Lib.bytesWorld, World.freeze, World.alloc, World.drew, -World.alloc_eq, -World.drew_eq]
  · rw [Lib.bytesWorld_size]; omega
  · match i, h with
    | 0, h =>
      simp at h; subst h
      refine ⟨w.heap.size, hr0, Nat.le_refl _, ⟨_, e, _, Lib.bytesWorld_at_new w e s, fun i hi j hj => ?_, trivial⟩, ⟨_, e, _, Lib.bytesWorld_at_new w e s, .inr (Nat.le_refl _)⟩⟩
      have hi : i < s.size := hi
      have hj : j < 1 := hj
      have hj0 : j = 0 := by omega
      subst hj0
      refine ⟨.int .u8 (byteAt s i), .num .u8 (byteAt s i), ?_, rfl, rfl⟩
      show (Lib.bytesCells w e s)[0 + (i * 1 + 0)]? = _
      rw [show 0 + (i * 1 + 0) = i by omega]
      have hg : s[i]? = some s[i] := by simp [hi]
      have hi' : i < s.data.size := hi
      simp only [Lib.bytesCells, byteAt, hg]
      rw [Array.getElem?_append_left (by simpa using hi'), Array.getElem?_map]
      have : s.data[i]? = some s.data[i] := by simp [hi']
      rw [this]; rfl
    | n + 1, h => simp at h
  · obtain ⟨B1, h1⟩ := hi
    obtain ⟨B2, h2⟩ := hj
    match i, j, h1, h2 with
    | 0, 0, _, _ => omega
    | n + 1, _, h1, _ => simp at h1
    | _, n + 1, _, h2 => simp at h2

/-! ### A number that is narrowed, though it may not fit -/

/-- The name of a contract that says: where a number is narrowed that does not fit, any number may come. -/
def wideName : Nat := 1000000007
def Ctr.wide (P : Program) : Ctr P where
  f := wideName
  run := fun _ _ => .fail
  ok := fun _ _ _ _ _ _ _ _ _ _ _ h => h.elim
def isWide {P : Program} : List (Ctr P) → Bool
  | [] => false
  | c :: l => match Nat.beq c.f wideName with
    | true => true
    | false => isWide l

def evConvW (P : Program) (src dst : TypeId) (a : SV) : T AV :=
  match P.underlying src, P.underlying dst, a with
  | some _, some (.float .f32), .fl .f64 x => .ite (cvtFits .f64 .f32 x) (.leaf (.one (.fl .f32 (fcvt .f64 .f32 x)))) (.all fun y => .leaf (.one (.fl .f32 (canon .f32 y))))
  | _, _, _ => evConv P src dst a

theorem evConvW_ok {P : Program} {ρ : Rho} {w : World} (src dst : TypeId) {a : SV} {u : Value} (ha : a.rel ρ u) : PureOK P ρ w (convert src dst u) (evConvW P src dst a) := by
  unfold evConvW
  split
  · rename_i d x hs hd
    obtain ⟨b, rfl, hb⟩ := ha
    cases hf : cvtFits .f64 .f32 x with
    | true =>
      refine .ite (fun _ => ?_) (fun h => by cases h)
      obtain ⟨r, w', h1, h2, h3⟩ := run_fcvt (P := P) w hb hf
      exact .leaf' ⟨_, _, (convert_float hs hd _ b).trans h1, ⟨r, rfl, h2⟩, h3⟩
    | false =>
      refine .ite (fun h => by cases h) (fun _ => ?_)
      have hx : b = x := by
        refine hb.not ?_
        cases hn : isNan .f64 x with
        | false => rfl
        | true =>
          obtain ⟨sg, f, hd⟩ := decode_nan hn
          have hd' : FloatKind.f64.decode x = .nan sg f := hd
          unfold cvtFits at hf
          rw [hd'] at hf
          cases hf
      subst hx
      unfold cvtFits at hf
      cases hdc : FloatKind.f64.decode b with
      | nan sg f => rw [hdc] at hf; cases hf
      | infinity sg => rw [hdc] at hf; cases hf
      | number sg m e =>
        rw [hdc] at hf
        have hf : (!((FloatKind.f32.decode (FloatKind.f32.encode (.number sg m e))).isInfinity)) = false := hf
        have hinf : ((FloatKind.f32.decode (FloatKind.f32.encode (.number sg m e))).isInfinity) = true := by
          cases hi : (FloatKind.f32.decode (FloatKind.f32.encode (.number sg m e))).isInfinity with
          | true => rfl
          | false => rw [hi] at hf; cases hf
        intro next hn
        have hr : (Conv.floatToFloat .f64 b .f32).run P w = .ok (.float .f32 ((Question.floatToFloat b).cut (w.tape w.drawn (.floatToFloat b)))) w.drew := by
          unfold Conv.floatToFloat
          simp [hdc, hinf, Question.forced]
        have hlt : (Question.floatToFloat b).cut (w.tape w.drawn (.floatToFloat b)) < 2 ^ FloatKind.f32.format.width := by
          have e : (2 : Nat) ^ FloatKind.f32.format.width = 2 ^ 32 := by decide
          rw [e]
          exact Nat.mod_lt _ (by decide)
        exact ⟨_, _, (convert_float hs hd _ b).trans hr, hn _ _ _ (.inr rfl) ⟨_, rfl, hlt, rfl⟩⟩
  · exact evConv_ok src dst ha

/-! ### The greater of two floats -/

def fmax (k : FloatKind) (x y : Nat) : Nat := match k.format.order x y with
  | none => qnan k
  | some .lt => y
  | some .gt => x
  | some .eq => if (k.decode x).neg then y else x

def evMax (x y : AV) : T AV :=
  match x, y with
  | .one (.fl k a), .one (.fl k' b) => if k = k' then .leaf (.one (.fl k (fmax k a b))) else .fail
  | _, _ => .fail

theorem cut_minmax (k : FloatKind) (m : Bool) (x y t : Nat) : (Question.nanMinMax k m x y).cut t = (Question.nanBits k x y).cut t := by cases k <;> rfl

theorem evMax_ok {P : Program} {ρ : Rho} {w : World} (ts : Array TypeId) (ty : TypeId) {x y : AV} {u v : Value} (hx : x.rel ρ u) (hy : y.rel ρ v) : PureOK P ρ w (Builtin.max_ ts ty #[u, v]) (evMax x y) := by
  unfold evMax
  split <;> try exact .fail
  rename_i k a k' b
  split <;> try exact .fail
  rename_i hk; subst hk
  obtain ⟨p, rfl, hp⟩ := hx
  obtain ⟨q, rfl, hq⟩ := hy
  have hc : k.format.order p q = k.format.order a b := flCmp hp hq
  have e : Builtin.max_ ts ty #[.float k p, .float k q] = Builtin.max2 (.float k p) (.float k q) := by
    simp [Builtin.max_]
  rw [e]
  unfold fmax
  cases ho : k.format.order a b with
  | none =>
    refine .leaf' ⟨.float k ((Question.nanMinMax k true p q).cut (w.tape w.drawn (.nanMinMax k true p q))), w.drew, ?_, ⟨_, rfl, ?_⟩, .inr rfl⟩
    · unfold Builtin.max2
      simp [hc, ho, Question.forced]
    · have h := cut_nan k (.nanBits k p q) (.inr (.inr ⟨p, q, rfl⟩)) (w.tape w.drawn (.nanMinMax k true p q))
      rw [cut_minmax]
      exact ⟨h.2, canon_nan h.1⟩
  | some r =>
    cases r with
    | lt => exact .leaf (v := .float k q) (by unfold Builtin.max2; simp [hc, ho]) ⟨q, rfl, hq⟩
    | gt => exact .leaf (v := .float k p) (by unfold Builtin.max2; simp [hc, ho]) ⟨p, rfl, hp⟩
    | eq =>
      have hn : isNan k a = false := by
        cases hn : isNan k a with
        | false => rfl
        | true =>
          obtain ⟨sg, f, hd⟩ := decode_nan hn
          have hd' : k.format.read a = .nan sg f := hd
          simp [Ieee.Format.order, hd', Ieee.Datum.order] at ho
      have hpa : p = a := hp.not hn
      subst hpa
      cases hneg : (k.decode p).neg with
      | true => exact .leaf (v := .float k q) (by unfold Builtin.max2; simp [hc, ho, hneg]) ⟨q, rfl, by simpa using hq⟩
      | false => exact .leaf (v := .float k p) (by unfold Builtin.max2; simp [hc, ho, hneg]) ⟨p, rfl, by simpa using hp⟩

def evQ (P : Program) (env : List (Ctr P)) (lk : Operand → AV) (mem : Mem) (op : Op) : T (AV × Mem) :=
  match op with
  | .move x => .leaf (lk x, [])
  | .assign x => .leaf (lk x, [])
  | .pick c a b =>
    match lk c with
    | .one (.tt true) => .leaf (lk a, [])
    | .one (.tt false) => .leaf (lk b, [])
    | .one (.bo c) => .ite c (.leaf (lk a, [])) (.leaf (lk b, []))
    | _ => .fail
  | .alloc t =>
    match zeroCells P t with
    | some l => evBox mem l
    | none => .fail
  | .box _ x =>
    match (lk x).cells with
    | some l => evBox mem l
    | none => .fail
  | .load t x =>
    match lk x with
    | .one p => pureT (evLoad P mem t p)
    | _ => .fail
  | .binOp op t x y _ =>
    match lk x, lk y with
    | .one a, .one b => if isPlain a then pureT (evBin P op t a b) else .fail
    | _, _ => .fail
  | .unOp op _ x =>
    match lk x with
    | .one a => pureT (evUn op a)
    | _ => .fail
  | .convert src dst x =>
    match lk x with
    | .one a => match isRow P src with
      | true => pureT (evConvB P mem src dst a)
      | false => match isRow P dst with
        | true => evConvS P mem src dst a
        | false => match isWide env with
          | true => pureT (evConvW P src dst a)
          | false => pureT (evConv P src dst a)
    | _ => .fail
  | .fieldAddr t x f =>
    match lk x with
    | .one a => pureT (evFieldAddr P t a f)
    | _ => .fail
  | .field t x f => pureT (evField P t (lk x) f)
  | .extract x i => pureT (evExtract (lk x) i)
  | .indexAddr t x i =>
    match lk x, lk i with
    | .one a, .one b => pureT (evIndexAddr P t a b)
    | _, _ => .fail
  | .index t x i =>
    match lk i with
    | .one b => pureT (evIndex P t (lk x) b)
    | _ => .fail
  | .build t ps => pureT (evBuild P t (ps.toList.map fun p => (p.1, lk p.2)))
  | .buildSlice t len ps => evBuildSlice P mem t len (ps.toList.map fun p => (p.1, lk p.2))
  | .makeSlice t x y =>
    match lk x, lk y with
    | .one a, .one b => evMakeSlice P mem t a b
    | _, _ => .fail
  | .slice t x lo hi mx =>
    match mx, hi with
    | some _, none => .fail
    | _, _ => pureT (evSlice P t (lk x) (lo.map lk) (hi.map lk) (mx.map lk))
  | .makeFunc (.func f) first caps =>
    if first.size = 0 then
      match capsOf (caps.toList.map lk) with
      | some cs => .leaf (.one (.fn f cs), [])
      | none => .fail
    else .fail
  | .nilCheck x =>
    match lk x with
    | .one (.ptr id sz i j) => .leaf (.one (.ptr id sz i j), [])
    | .one (.fn f cs) => .leaf (.one (.fn f cs), [])
    | _ => .fail
  | .call c =>
    match c.callee with
    | .value x =>
      match lk x with
      | .one (.fn f caps) =>
        match look env f with
        | some ct => ct.run (c.args.toList.map lk ++ capsAV caps) mem
        | none => .fail
      | _ => .fail
    | .builtin .len =>
      match c.args.toList, c.argTypes.toList with
      | [x], [t] => pureT (evLen P t (lk x))
      | _, _ => .fail
    | .builtin .cap =>
      match c.args.toList, c.argTypes.toList with
      | [x], [t] => pureT (evCap P t (lk x))
      | _, _ => .fail
    | .builtin .max =>
      match c.args.toList with
      | [x, y] => pureT (evMax (lk x) (lk y))
      | _ => .fail
    | .builtin .append =>
      match c.args.toList, c.argTypes.toList with
      | [s, x], [t, tn] => match (if t = tn then evAppG P mem t (lk s) (lk x) else none) with
        | some T => T
        | none => evAppZ P mem t tn (lk s) (lk x)
      | _, _ => .fail
    | _ => .fail
  | _ => .fail

theorem wp_sem {P : Program} {ρ : Rho} {o : Oper} {a : Act} {w : World} {N : Nat} {m : Sem Value} {t : T (AV × Mem)} {K : Act → World → Prop} {Q : Exit → Act → World → Prop}
    (he : execOp a.eval o = (do let u ← m; pure (.value u))) (hs : SemOK P ρ w N m t) (h : t.holds fun r => ∀ ρ' w' v, New ρ ρ' w w' N r.2 → r.1.rel ρ' v → K (a.put o.dst v) w') : o.wp P a w K Q := by
  obtain ⟨v, w', h1, h2⟩ := hs (fun v w' => K (a.put o.dst v) w') h
  exact wp_val he h1 h2

theorem opdsK_ok {ρ : Rho} {lk : Operand → AV} {a : Act} (h : ∀ x, (lk x).rel ρ (a.eval x)) : ∀ (xs : List Operand), RelA ρ (xs.map lk) (xs.map a.eval)
  | [] => trivial
  | x :: xs => ⟨h x, opdsK_ok h xs⟩

theorem partsF_ok {ρ : Rho} {lk : Operand → AV} {a : Act} (h : ∀ x, (lk x).rel ρ (a.eval x)) : ∀ (ps : List (Nat × Operand)), RelF ρ (ps.map fun p => (p.1, lk p.2)) (ps.map fun p => (p.1, a.eval p.2))
  | [] => trivial
  | p :: ps => ⟨rfl, h p.2, partsF_ok h ps⟩

theorem evQ_ok {P : Program} {env : List (Ctr P)} {ρ : Rho} {lk : Operand → AV} {mem : Mem} {o : Oper} {a : Act} {w : World} {K : Act → World → Prop} {Q : Exit → Act → World → Prop}
    (hm : MemOK ρ w mem) (hs : ∀ x, (lk x).rel ρ (a.eval x)) (h : (evQ P env lk mem o.op).holds fun r => ∀ ρ' w' v, New ρ ρ' w w' mem.length r.2 → r.1.rel ρ' v → K (a.put o.dst v) w') : o.wp P a w K Q := by
  have leaf : ∀ {r : AV} {v : Value} {m : Sem Value}, execOp a.eval o = (do let u ← m; pure (.value u)) → m.run P w = .ok v w → r.rel ρ v → (∀ ρ' w' v, New ρ ρ' w w' mem.length [] → r.rel ρ' v → K (a.put o.dst v) w') → o.wp P a w K Q :=
    fun he hr hv hk => wp_val he hr (hk ρ w _ (New.refl ρ w w _ hm.dom (Below.refl _ _)) hv)
  unfold evQ at h
  split at h
  case h_1 x ho =>
    exact leaf (m := pure (a.eval x)) (by unfold execOp; rw [ho] <;> rfl) rfl (hs x) h
  case h_2 x ho =>
    exact leaf (m := pure (a.eval x)) (by unfold execOp; rw [ho] <;> rfl) rfl (hs x) h
  case h_3 c x y ho =>
    have hc := hs c
    have he : ∀ q : Bool, a.eval c = .bool q → execOp a.eval o = (do let u ← (pure (if q then a.eval x else a.eval y) : Sem Value); pure (.value u)) := by
      intro q hq
      unfold execOp; rw [ho]
      simp only [hq]
      rfl
    split at h
    · rename_i hb; rw [hb] at hc
      exact leaf (he true hc) rfl (hs x) h
    · rename_i hb; rw [hb] at hc
      exact leaf (he false hc) rfl (hs y) h
    · rename_i q hb; rw [hb] at hc
      cases hq : q with
      | true => exact leaf (he q hc) (by rw [hq]; rfl) (hs x) (h.1 hq)
      | false => exact leaf (he q hc) (by rw [hq]; rfl) (hs y) (h.2 hq)
    · exact h.elim
  case h_4 t ho =>
    split at h <;> try exact h.elim
    rename_i l hl
    obtain ⟨z, hz, hzr⟩ := zeroCells_ok (P := P) (ρ := ρ) (w := w) hl
    obtain ⟨v, w', h1, h2⟩ := newVar_ok (P := P) (w := w) hm t hzr (fun v w' => K (a.put o.dst v) w') h
    refine wp_val (m := Instr.alloc t true (.tuple #[])) (by unfold execOp; rw [ho] <;> rfl) ?_ h2
    rw [← h1]
    simp [Instr.alloc, hz]
  case h_5 t x ho =>
    split at h <;> try exact h.elim
    rename_i l hl
    exact wp_sem (m := Instr.box t (a.eval x)) (by unfold execOp; rw [ho] <;> rfl) (newVar_ok hm t (AV.cells_ok hl (hs x))) h
  case h_6 t x ho =>
    have hx := hs x
    split at h <;> try exact h.elim
    rename_i p hp
    rw [hp] at hx
    exact wp_sem (m := Instr.loadAt t (a.eval x)) (by unfold execOp; rw [ho] <;> rfl) ((evLoad_ok hm t hx).pure.sem hm.dom) h
  case h_7 op t x y yt ho =>
    have hx := hs x
    have hy := hs y
    split at h <;> try exact h.elim
    rename_i p q hp hq
    rw [hp] at hx; rw [hq] at hy
    split at h <;> try exact h.elim
    rename_i hpl
    refine wp_sem (m := binOp op t (a.eval x) (a.eval y)) ?_ ((evBin_ok op t hx hy).sem hm.dom) h
    unfold execOp; rw [ho]
    simp only []
    rw [eqGuard_one op t x y (SV.rel_one hx) (plain_rel hpl hx)]
    rfl
  case h_8 op t x ho =>
    have hx := hs x
    split at h <;> try exact h.elim
    rename_i p hp
    rw [hp] at hx
    exact wp_sem (m := Op.unary op (a.eval x)) (by unfold execOp; rw [ho] <;> rfl) ((evUn_ok op hx).sem hm.dom) h
  case h_9 src dst x ho =>
    have hx := hs x
    split at h <;> try exact h.elim
    rename_i p hp
    rw [hp] at hx
    split at h
    · exact wp_sem (m := convert src dst (a.eval x)) (by unfold execOp; rw [ho] <;> rfl) ((evConvB_ok hm src dst hx).sem hm.dom) h
    · split at h
      · exact wp_sem (m := convert src dst (a.eval x)) (by unfold execOp; rw [ho] <;> rfl) (evConvS_ok hm src dst hx) h
      · split at h
        · exact wp_sem (m := convert src dst (a.eval x)) (by unfold execOp; rw [ho] <;> rfl) ((evConvW_ok src dst hx).sem hm.dom) h
        · exact wp_sem (m := convert src dst (a.eval x)) (by unfold execOp; rw [ho] <;> rfl) ((evConv_ok src dst hx).sem hm.dom) h
  case h_10 t x f ho =>
    have hx := hs x
    split at h <;> try exact h.elim
    rename_i p hp
    rw [hp] at hx
    exact wp_sem (m := Instr.fieldAt t (a.eval x) f) (by unfold execOp; rw [ho] <;> rfl) ((evFieldAddr_ok t hx f).sem hm.dom) h
  case h_11 t x f ho =>
    exact wp_sem (m := Instr.field t (a.eval x) f) (by unfold execOp; rw [ho] <;> rfl) ((evField_ok t (hs x) f).sem hm.dom) h
  case h_12 x i ho =>
    exact wp_sem (m := Instr.extract (a.eval x) i) (by unfold execOp; rw [ho] <;> rfl) ((evExtract_ok (hs x) i).sem hm.dom) h
  case h_13 t x i ho =>
    have hx := hs x
    have hi := hs i
    split at h <;> try exact h.elim
    rename_i p q hp hq
    rw [hp] at hx; rw [hq] at hi
    exact wp_sem (m := Instr.indexAt t (a.eval x) (a.eval i)) (by unfold execOp; rw [ho] <;> rfl) ((evIndexAddr_ok t hx hi).sem hm.dom) h
  case h_14 t x i ho =>
    have hi := hs i
    split at h <;> try exact h.elim
    rename_i q hq
    rw [hq] at hi
    exact wp_sem (m := Instr.index t (a.eval x) (a.eval i)) (by unfold execOp; rw [ho] <;> rfl) ((evIndex_ok t (hs x) hi).sem hm.dom) h
  case h_15 t ps ho =>
    refine wp_sem (m := Instr.build t (ps.map fun (i, x) => (i, a.eval x))) (by unfold execOp; rw [ho] <;> rfl) ((evBuild_ok t ?_).sem hm.dom) h
    rw [Array.toList_map]; exact partsF_ok hs ps.toList
  case h_16 t len ps ho =>
    refine wp_sem (m := Instr.buildSlice t len (ps.map fun (i, x) => (i, a.eval x))) (by unfold execOp; rw [ho] <;> rfl) (evBuildSlice_ok hm t len ?_) h
    rw [Array.toList_map]; exact partsF_ok hs ps.toList
  case h_17 t x y ho =>
    have hx := hs x
    have hy := hs y
    split at h <;> try exact h.elim
    rename_i p q hp hq
    rw [hp] at hx; rw [hq] at hy
    exact wp_sem (m := Instr.makeSlice t (a.eval x) (a.eval y)) (by unfold execOp; rw [ho] <;> rfl) (evMakeSlice_ok hm t hx hy) h
  case h_18 t x lo hi mx ho =>
    split at h <;> try exact h.elim
    rename_i hno
    have rel : ∀ q : Option Operand, OptRel ρ (q.map lk) (q.map a.eval) := fun q => by
      cases q with
      | none => trivial
      | some q => exact hs q
    have hmx : mx.map lk = none ∨ hi.map lk ≠ none := by
      cases mx with
      | none => exact .inl rfl
      | some q =>
        cases hi with
        | none => exact absurd rfl (hno q rfl)
        | some p => exact .inr (by simp)
    exact wp_sem (m := Instr.sliceAt t (a.eval x) (lo.map a.eval) (hi.map a.eval) (mx.map a.eval)) (by unfold execOp; rw [ho] <;> rfl) ((evSlice_ok t (hs x) (rel lo) (rel hi) (rel mx) hmx).sem hm.dom) h
  case h_19 f first caps ho =>
    split at h <;> try exact h.elim
    rename_i hf
    split at h <;> try exact h.elim
    rename_i cs hcs
    have hfirst : first = #[] := by simpa using hf
    refine leaf (r := .one (.fn f cs)) (m := Instr.makeFunc (.func f) (first.map a.eval) (caps.map a.eval)) (v := .func (.func f) #[] (caps.map a.eval)) (by unfold execOp; rw [ho] <;> rfl) ?_ ⟨caps.map a.eval, rfl, ?_⟩ h
    · rw [hfirst]; simp [Instr.makeFunc]
    · rw [Array.toList_map]; exact capsOf_ok hcs (opdsK_ok hs caps.toList)
  case h_20 x ho =>
    have hx := hs x
    split at h <;> try exact h.elim
    · rename_i id sz i j hp
      rw [hp] at hx
      obtain ⟨b, q, hρ, hv⟩ := hx
      refine leaf (r := .one (.ptr id sz i j)) (m := pure (a.eval x)) ?_ rfl ⟨b, q, hρ, hv⟩ h
      unfold execOp; rw [ho]; simp only [hv]; rfl
    · rename_i f cs hp
      rw [hp] at hx
      obtain ⟨vs, hv, hc⟩ := hx
      refine leaf (r := .one (.fn f cs)) (m := pure (a.eval x)) ?_ rfl ⟨vs, hv, hc⟩ h
      unfold execOp; rw [ho]; simp only [hv]; rfl
  case h_21 c ho =>
    split at h
    · rename_i x hcal
      have hx := hs x
      split at h <;> try exact h.elim
      rename_i f caps hp
      rw [hp] at hx
      obtain ⟨vs, hv, hc⟩ := hx
      split at h <;> try exact h.elim
      rename_i ct hct
      have hf := look_f hct
      have hargs : RelA ρ (c.args.toList.map lk ++ capsAV caps) (c.args.map a.eval ++ vs).toList := by
        rw [Array.toList_append, Array.toList_map]
        exact (opdsK_ok hs c.args.toList).append (capsAV_ok hc)
      have hk := ct.ok _ mem ρ w _ hm hargs o a K Q h
      rw [hf] at hk
      unfold Oper.wp
      have he : execOp a.eval o = callFunc f (c.args.map a.eval ++ vs) := by
        unfold execOp; rw [ho]
        simp only [resolve, hcal, hv, Deferred.ofValue]
        show Sem.bind _ _ = _
        simp [Sem.bind, invoke, pure]
      rw [he]; exact hk
    · rename_i hcal
      split at h <;> try exact h.elim
      rename_i x t hx ht
      have hargs : c.args = #[x] := by
        have : c.args.toList = [x] := hx
        exact Array.ext' (by simpa using this)
      have htys : c.argTypes = #[t] := by
        have : c.argTypes.toList = [t] := ht
        exact Array.ext' (by simpa using this)
      refine wp_sem (m := Builtin.len_ #[t] o.type #[a.eval x]) ?_ ((evLen_ok t o.type (hs x)).sem hm.dom) h
      unfold execOp; rw [ho]
      simp only [resolve, hcal, hargs, htys]
      show Sem.bind _ _ = _
      simp [Sem.bind, invoke, builtin, pure]
    · rename_i hcal
      split at h <;> try exact h.elim
      rename_i x t hx ht
      have hargs : c.args = #[x] := by
        have : c.args.toList = [x] := hx
        exact Array.ext' (by simpa using this)
      have htys : c.argTypes = #[t] := by
        have : c.argTypes.toList = [t] := ht
        exact Array.ext' (by simpa using this)
      refine wp_sem (m := Builtin.cap_ #[t] o.type #[a.eval x]) ?_ ((evCap_ok t o.type (hs x)).sem hm.dom) h
      unfold execOp; rw [ho]
      simp only [resolve, hcal, hargs, htys]
      show Sem.bind _ _ = _
      simp [Sem.bind, invoke, builtin, pure]
    · rename_i hcal
      split at h <;> try exact h.elim
      rename_i x y hx
      have hargs : c.args = #[x, y] := by
        have : c.args.toList = [x, y] := hx
        exact Array.ext' (by simpa using this)
      refine wp_sem (m := Builtin.max_ c.argTypes o.type #[a.eval x, a.eval y]) ?_ ((evMax_ok c.argTypes o.type (hs x) (hs y)).sem hm.dom) h
      unfold execOp; rw [ho]
      simp only [resolve, hcal, hargs]
      show Sem.bind _ _ = _
      simp [Sem.bind, invoke, builtin, pure]
    · rename_i hcal
      split at h <;> try exact h.elim
      rename_i s x t tn hx ht
      have hargs : c.args = #[s, x] := by
        have : c.args.toList = [s, x] := hx
        exact Array.ext' (by simpa using this)
      have htys : c.argTypes = #[t, tn] := by
        have : c.argTypes.toList = [t, tn] := ht
        exact Array.ext' (by simpa using this)
      have he : execOp a.eval o = (do let u ← Builtin.append_ #[t, tn] o.type #[a.eval s, a.eval x]; pure (.value u)) := by
        unfold execOp; rw [ho]
        simp only [resolve, hcal, hargs, htys]
        show Sem.bind _ _ = _
        simp [Sem.bind, invoke, builtin, pure]
      split at h
      · rename_i T0 hT0
        split at hT0
        · rename_i htt
          subst htt
          exact wp_sem he (evAppG_ok hm t o.type (hs s) (hs x) hT0) h
        · cases hT0
      · exact wp_sem he (evAppZ_ok hm t tn o.type (hs s) (hs x)) h
    · exact h.elim
  case h_22 => exact h.elim

end Go.Proofs.Ytdmcpgbnomhahaa
