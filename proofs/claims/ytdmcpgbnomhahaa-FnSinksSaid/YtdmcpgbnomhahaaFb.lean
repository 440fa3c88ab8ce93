/-
  Bounds of the operations on floats: sums, products, quotients, roots, narrowed numbers. No conditions.
-/
import Derived.Test.YtdmcpgbnomhahaaFm
namespace Go.Proofs.Ytdmcpgbnomhahaa
set_option linter.unusedVariables false
set_option linter.unusedSimpArgs false

theorem rung_word (k : FloatKind) (s : Bool) {r : Nat} (h : r ≤ k.format.infRung) : rung k.format (k.format.word s r) = r := by
  have hp := inf_lt_sw k
  unfold rung Ieee.Format.word
  cases s
  · rw [if_neg (by simp)]; exact Nat.mod_eq_of_lt (by omega)
  · rw [if_pos rfl, Nat.add_mod_left]; exact Nat.mod_eq_of_lt (by omega)

theorem sgv_word (k : FloatKind) (s : Bool) {r : Nat} (h : r ≤ k.format.infRung) : sgv k.format (k.format.word s r) = (if s then -1 else 1) * (V k.format r : Int) := by
  rw [sgv_eq, rung_word k s h, sgn_word k s (Nat.lt_of_le_of_lt h (inf_lt_sw k))]

theorem fin_lt {k : FloatKind} {x : Nat} (h : fin k x = true) : rung k.format x < k.format.infRung := (fin_iff k x).1 h
theorem fin_of {k : FloatKind} {x A : Nat} (h : rung k.format x ≤ A) (hA : A < k.format.infRung) : fin k x = true := (fin_iff k x).2 (Nat.lt_of_le_of_lt h hA)

theorem read_of_fin {k : FloatKind} {x : Nat} (h : fin k x = true) : ∃ m e, k.format.read x = .number (sgn k.format x) m e ∧ k.format.leastPlace ≤ e ∧ m * 2 ^ (e - k.format.leastPlace).toNat = V k.format (rung k.format x) :=
  read_fin k.format (fin_lt h)

/-! ### Products -/

theorem fmul_fin {k : FloatKind} {x y : Nat} (hx : fin k x = true) (hy : fin k y = true) :
    fmul k x y = k.format.word (sgn k.format x ^^ sgn k.format y) (rungOf k.format (V k.format (rung k.format x) * V k.format (rung k.format y)) (2 * k.format.leastPlace)) := by
  obtain ⟨m, i, h1, h2, h3⟩ := read_of_fin hx
  obtain ⟨n, j, g1, g2, g3⟩ := read_of_fin hy
  unfold fmul farith
  show ((k.format.mul x y).getD (qnan k)) = _
  unfold Ieee.Format.mul
  rw [h1, g1]
  show k.format.nearest (sgn k.format x ^^ sgn k.format y) (m * n) (i + j) = _
  rw [nearest_eq]
  congr 1
  have e : m * n * 2 ^ (i + j - 2 * k.format.leastPlace).toNat = V k.format (rung k.format x) * V k.format (rung k.format y) := by
    rw [← h3, ← g3, show (i + j - 2 * k.format.leastPlace).toNat = (i - k.format.leastPlace).toNat + (j - k.format.leastPlace).toNat by omega, Nat.pow_add]
    rw [Nat.mul_assoc, Nat.mul_assoc]
    congr 1
    rw [← Nat.mul_assoc, ← Nat.mul_assoc]
    rw [Nat.mul_comm n]
  have hd := dle_up (m := m * n) (p := i + j) (b := 2 * k.format.leastPlace) (by omega)
  rw [e] at hd
  exact rung_same _ hd.2 hd.1

theorem fmul_le {k : FloatKind} {x y A B : Nat} (hx : rung k.format x ≤ A) (hy : rung k.format y ≤ B) (hA : A < k.format.infRung) (hB : B < k.format.infRung) : rung k.format (fmul k x y) ≤ rungOf k.format (V k.format A * V k.format B) (2 * k.format.leastPlace) := by
  rw [fmul_fin (fin_of hx hA) (fin_of hy hB), rung_word k _ (rungOf_le _ _ _)]
  exact rung_mono _ (dle_same.2 (Nat.mul_le_mul (V_le _ hx) (V_le _ hy)))

/-! ### Sums -/

theorem natAbs_mul_pow (t : Int) (n : Nat) : (t * ((2 ^ n : Nat) : Int)).natAbs = t.natAbs * 2 ^ n := by
  rw [Int.natAbs_mul, Int.natAbs_natCast]

theorem sum_fin {k : FloatKind} {s t : Bool} {m n : Nat} {i j : Int} (hi : k.format.leastPlace ≤ i) (hj : k.format.leastPlace ≤ j) :
    let X : Int := (if s then -1 else 1) * ((m * 2 ^ (i - k.format.leastPlace).toNat : Nat) : Int)
    let Y : Int := (if t then -1 else 1) * ((n * 2 ^ (j - k.format.leastPlace).toNat : Nat) : Int)
    ((Ieee.Datum.sum (.number s m i) (.number t n j)).map k.format.write) = some (k.format.word (if X + Y = 0 then s && t else decide (X + Y < 0)) (rungOf k.format (X + Y).natAbs k.format.leastPlace)) := by
  intro X Y
  have hb : k.format.leastPlace ≤ min i j := by omega
  have hX : Ieee.signed s m (i - min i j).toNat * ((2 ^ (min i j - k.format.leastPlace).toNat : Nat) : Int) = X := by
    rw [signed_eq, Int.mul_assoc, ← Int.natCast_mul, Nat.mul_assoc, ← Nat.pow_add, show (i - min i j).toNat + (min i j - k.format.leastPlace).toNat = (i - k.format.leastPlace).toNat by omega]
  have hY : Ieee.signed t n (j - min i j).toNat * ((2 ^ (min i j - k.format.leastPlace).toNat : Nat) : Int) = Y := by
    rw [signed_eq, Int.mul_assoc, ← Int.natCast_mul, Nat.mul_assoc, ← Nat.pow_add, show (j - min i j).toNat + (min i j - k.format.leastPlace).toNat = (j - k.format.leastPlace).toNat by omega]
  have hT : (Ieee.signed s m (i - min i j).toNat + Ieee.signed t n (j - min i j).toNat) * ((2 ^ (min i j - k.format.leastPlace).toNat : Nat) : Int) = X + Y := by rw [Int.add_mul, hX, hY]
  show some (k.format.nearest (if Ieee.signed s m (i - min i j).toNat + Ieee.signed t n (j - min i j).toNat = 0 then s && t else decide (Ieee.signed s m (i - min i j).toNat + Ieee.signed t n (j - min i j).toNat < 0)) (Ieee.signed s m (i - min i j).toNat + Ieee.signed t n (j - min i j).toNat).natAbs (min i j)) = _
  rw [nearest_eq]
  generalize Ieee.signed s m (i - min i j).toNat + Ieee.signed t n (j - min i j).toNat = tot at *
  have hp : (0 : Int) < ((2 ^ (min i j - k.format.leastPlace).toNat : Nat) : Int) := by have := tp (min i j - k.format.leastPlace).toNat; omega
  have e1 : rungOf k.format tot.natAbs (min i j) = rungOf k.format (X + Y).natAbs k.format.leastPlace := by
    rw [← hT, natAbs_mul_pow]
    have hd := dle_up (m := tot.natAbs) (p := min i j) (b := k.format.leastPlace) hb
    exact rung_same _ hd.2 hd.1
  have e2 : (tot = 0) ↔ (X + Y = 0) := by
    rw [← hT]
    constructor
    · intro h; rw [h]; simp
    · intro h
      rcases Int.mul_eq_zero.1 h with h | h
      · exact h
      · omega
  have e3 : (tot < 0) ↔ (X + Y < 0) := by
    rw [← hT]
    constructor
    · intro h; exact Int.mul_neg_of_neg_of_pos h hp
    · intro h
      rcases (by omega : tot < 0 ∨ 0 ≤ tot) with h1 | h1
      · exact h1
      · have := Int.mul_nonneg h1 (Int.le_of_lt hp); omega
  rw [e1]
  simp only [e2, e3]

def rndI (f : Ieee.Format) (p : Int) (t : Int) : Int := if t < 0 then -(V f (rungOf f t.natAbs p) : Int) else V f (rungOf f t.natAbs p)

theorem rndI_mono (f : Ieee.Format) (p : Int) {s t : Int} (h : s ≤ t) : rndI f p s ≤ rndI f p t := by
  unfold rndI
  by_cases hs : s < 0
  · rw [if_pos hs]
    by_cases ht : t < 0
    · rw [if_pos ht]
      have := V_le f (rung_mono f (p := p) (q := p) (dle_same.2 (show t.natAbs ≤ s.natAbs by omega)))
      omega
    · rw [if_neg ht]; omega
  · rw [if_neg hs, if_neg (by omega)]
    have := V_le f (rung_mono f (p := p) (q := p) (dle_same.2 (show s.natAbs ≤ t.natAbs by omega)))
    omega

theorem rndI_word (k : FloatKind) {x : Nat} : rung k.format x ≤ k.format.infRung → rndI k.format k.format.leastPlace (sgv k.format x) = sgv k.format x := by
  intro h
  unfold rndI sgv
  cases sgn k.format x
  · simp only [Bool.false_eq_true, if_false]
    rw [if_neg (by omega), Int.natAbs_natCast, rung_V _ h]
  · simp only [if_true]
    by_cases h0 : V k.format (rung k.format x) = 0
    · rw [h0]
      have e : rungOf k.format (-((0 : Nat) : Int)).natAbs k.format.leastPlace = 0 := by unfold rungOf; rw [if_pos (by rfl)]
      rw [if_neg (by omega), e, V_zero]
      rfl
    · rw [if_pos (by omega), Int.natAbs_neg, Int.natAbs_natCast, rung_V _ h]

theorem sgv_of_word (k : FloatKind) (p : Int) (X : Int) (s0 : Bool) : sgv k.format (k.format.word (if X = 0 then s0 else decide (X < 0)) (rungOf k.format X.natAbs p)) = rndI k.format p X := by
  rw [sgv_word k _ (rungOf_le _ _ _)]
  unfold rndI
  by_cases h0 : X = 0
  · subst h0
    have e : rungOf k.format (Int.natAbs 0) p = 0 := by unfold rungOf; rw [if_pos (by rfl)]
    rw [e, V_zero]; simp
  · rw [if_neg h0]
    by_cases h1 : X < 0
    · simp [h1]
    · simp [h1]

theorem fadd_fin {k : FloatKind} {x y : Nat} (hx : fin k x = true) (hy : fin k y = true) :
    fadd k x y = k.format.word (if sgv k.format x + sgv k.format y = 0 then sgn k.format x && sgn k.format y else decide (sgv k.format x + sgv k.format y < 0)) (rungOf k.format (sgv k.format x + sgv k.format y).natAbs k.format.leastPlace) := by
  obtain ⟨m, i, h1, h2, h3⟩ := read_of_fin hx
  obtain ⟨n, j, g1, g2, g3⟩ := read_of_fin hy
  unfold fadd farith
  show ((k.format.add x y).getD (qnan k)) = _
  unfold Ieee.Format.add
  rw [h1, g1]
  have := sum_fin (k := k) (s := sgn k.format x) (t := sgn k.format y) (m := m) (n := n) h2 g2
  rw [h3, g3, ← sgv_eq, ← sgv_eq] at this
  dsimp only at this
  rw [this]; rfl

theorem fsub_fin {k : FloatKind} {x y : Nat} (hx : fin k x = true) (hy : fin k y = true) :
    fsub k x y = k.format.word (if sgv k.format x - sgv k.format y = 0 then sgn k.format x && !sgn k.format y else decide (sgv k.format x - sgv k.format y < 0)) (rungOf k.format (sgv k.format x - sgv k.format y).natAbs k.format.leastPlace) := by
  obtain ⟨m, i, h1, h2, h3⟩ := read_of_fin hx
  obtain ⟨n, j, g1, g2, g3⟩ := read_of_fin hy
  unfold fsub farith
  show ((k.format.sub x y).getD (qnan k)) = _
  unfold Ieee.Format.sub
  rw [h1, g1]
  have := sum_fin (k := k) (s := sgn k.format x) (t := !sgn k.format y) (m := m) (n := n) h2 g2
  rw [h3, g3, ← sgv_eq] at this
  have e : (if (!sgn k.format y) = true then (-1 : Int) else 1) * (V k.format (rung k.format y) : Int) = - sgv k.format y := by
    unfold sgv; cases sgn k.format y <;> simp
  rw [e] at this
  dsimp only at this
  rw [← Int.sub_eq_add_neg] at this
  show (Option.map k.format.write (Ieee.Datum.sum (.number (sgn k.format x) m i) (.number (!sgn k.format y) n j))).getD (qnan k) = _
  rw [this]; rfl

theorem sgv_fadd {k : FloatKind} {x y : Nat} (hx : fin k x = true) (hy : fin k y = true) : sgv k.format (fadd k x y) = rndI k.format k.format.leastPlace (sgv k.format x + sgv k.format y) := by
  rw [fadd_fin hx hy]; exact sgv_of_word k _ _ _
theorem sgv_fsub {k : FloatKind} {x y : Nat} (hx : fin k x = true) (hy : fin k y = true) : sgv k.format (fsub k x y) = rndI k.format k.format.leastPlace (sgv k.format x - sgv k.format y) := by
  rw [fsub_fin hx hy]; exact sgv_of_word k _ _ _
theorem sgv_fmul {k : FloatKind} {x y : Nat} (hx : fin k x = true) (hy : fin k y = true) : sgv k.format (fmul k x y) = rndI k.format (2 * k.format.leastPlace) (sgv k.format x * sgv k.format y) := by
  rw [fmul_fin hx hy, sgv_word k _ (rungOf_le _ _ _)]
  unfold rndI sgv
  have hz : ∀ p, rungOf k.format 0 p = 0 := fun p => by unfold rungOf; rw [if_pos rfl]
  generalize V k.format (rung k.format x) = a
  generalize V k.format (rung k.format y) = b
  have hab : (0 : Int) ≤ (a : Int) * (b : Int) := Int.mul_nonneg (by omega) (by omega)
  have en : ((a : Int) * (b : Int)).natAbs = a * b := by rw [Int.natAbs_mul]; simp
  have en2 : (-((a : Int) * (b : Int))).natAbs = a * b := by rw [Int.natAbs_neg]; exact en
  cases sgn k.format x <;> cases sgn k.format y <;> simp only [Bool.false_eq_true, if_false, if_true, Bool.xor_false, Bool.xor_true, Bool.false_xor, Bool.not_true, Bool.not_false, Int.one_mul, Int.neg_mul, Int.mul_neg, Int.neg_neg]
  · rw [if_neg (by omega), en]
  · by_cases h0 : (a : Int) * b = 0
    · rw [h0, if_neg (by omega)]
      have h0' : a * b = 0 := by omega
      rw [h0', hz, V_zero]
      show -((0 : Nat) : Int) = ((V k.format (rungOf k.format 0 _) : Nat) : Int)
      rw [hz, V_zero]; rfl
    · rw [if_pos (by omega), en2]
  · by_cases h0 : (a : Int) * b = 0
    · rw [h0, if_neg (by omega)]
      have h0' : a * b = 0 := by omega
      rw [h0', hz, V_zero]
      show -((0 : Nat) : Int) = ((V k.format (rungOf k.format 0 _) : Nat) : Int)
      rw [hz, V_zero]; rfl
    · rw [if_pos (by omega), en2]
  · rw [if_neg (by omega), en]

theorem fadd_le {k : FloatKind} {x y A B : Nat} (hx : rung k.format x ≤ A) (hy : rung k.format y ≤ B) (hA : A < k.format.infRung) (hB : B < k.format.infRung) : rung k.format (fadd k x y) ≤ rungOf k.format (V k.format A + V k.format B) k.format.leastPlace := by
  rw [fadd_fin (fin_of hx hA) (fin_of hy hB), rung_word k _ (rungOf_le _ _ _)]
  refine rung_mono _ (dle_same.2 ?_)
  have h1 := V_le k.format hx
  have h2 := V_le k.format hy
  unfold sgv
  cases sgn k.format x <;> cases sgn k.format y <;> simp <;> omega

theorem fsub_le {k : FloatKind} {x y A B : Nat} (hx : rung k.format x ≤ A) (hy : rung k.format y ≤ B) (hA : A < k.format.infRung) (hB : B < k.format.infRung) : rung k.format (fsub k x y) ≤ rungOf k.format (V k.format A + V k.format B) k.format.leastPlace := by
  rw [fsub_fin (fin_of hx hA) (fin_of hy hB), rung_word k _ (rungOf_le _ _ _)]
  refine rung_mono _ (dle_same.2 ?_)
  have h1 := V_le k.format hx
  have h2 := V_le k.format hy
  unfold sgv
  cases sgn k.format x <;> cases sgn k.format y <;> simp <;> omega

/-! ### Quotients -/

theorem read_mag {k : FloatKind} {x : Nat} {s : Bool} {m : Nat} {e : Int} (h : k.format.read x = .number s m e) : m < 2 ^ (k.format.fractionBits + 1) := by
  unfold Ieee.Format.read at h
  have hB := binade_pos k.format
  have e1 : 2 ^ (k.format.fractionBits + 1) = 2 * k.format.binade := by rw [Nat.pow_succ]; unfold Ieee.Format.binade; omega
  simp only [] at h
  split at h
  · cases h; omega
  · split at h
    · cases h
      have := Nat.mod_lt (x % k.format.signWeight) hB
      omega
    · split at h <;> cases h

theorem fdiv_le {k : FloatKind} {x y B : Nat} (hx : fin k x = true) (hy : fin k y = true) (hy0 : V k.format (rung k.format y) ≠ 0) (hB : B < k.format.infRung)
    (h : V k.format (rung k.format x) * 2 ^ (- k.format.leastPlace).toNat ≤ V k.format B * V k.format (rung k.format y)) : rung k.format (fdiv k x y) ≤ B := by
  obtain ⟨m, i, h1, h2, h3⟩ := read_of_fin hx
  obtain ⟨n, j, g1, g2, g3⟩ := read_of_fin hy
  have hBr : rung k.format B = B := Nat.mod_eq_of_lt (Nat.lt_trans hB (inf_lt_sw k))
  obtain ⟨mB, eB, b1, b2, b3⟩ := read_of_fin (k := k) (x := B) ((fin_iff k B).2 (by rw [hBr]; exact hB))
  rw [hBr] at b3
  have hmB := read_mag b1
  have hmx := read_mag h1
  have hL : k.format.leastPlace ≤ 0 := by cases k <;> decide
  have hn0 : n ≠ 0 := by intro e; rw [e, Nat.zero_mul] at g3; exact hy0 g3.symm
  unfold fdiv farith
  show rung k.format ((k.format.div x y).getD (qnan k)) ≤ B
  unfold Ieee.Format.div
  rw [h1, g1]
  have hq : Ieee.Datum.quotient (k.format.fractionBits + 2) (.number (sgn k.format x) m i) (.number (sgn k.format y) n j) = some (.number (sgn k.format x ^^ sgn k.format y) (2 * ((m <<< (k.format.fractionBits + 2 + n.log2 - m.log2)) / n) + ((m <<< (k.format.fractionBits + 2 + n.log2 - m.log2)) % n != 0).toNat) (i - j - (k.format.fractionBits + 2 + n.log2 - m.log2 : Nat) - 1)) := by
    unfold Ieee.Datum.quotient
    dsimp only
    rw [if_neg hn0]
  rw [hq]
  show rung k.format (k.format.nearest _ _ _) ≤ B
  rw [nearest_eq, rung_word k _ (rungOf_le _ _ _), Nat.shiftLeft_eq]
  refine rungOf_le_of _ (Nat.le_of_lt hB) ?_
  by_cases hm0 : m = 0
  · subst hm0
    rw [Nat.zero_mul, Nat.zero_div, Nat.zero_mod]
    simp [dle]
  · have hlm : m.log2 < k.format.fractionBits + 1 := (Nat.log2_lt hm0).2 hmx
    generalize hmore : k.format.fractionBits + 2 + n.log2 - m.log2 = more
    have hmore' : more + m.log2 = k.format.fractionBits + 2 + n.log2 := by omega
    have hd1 : 2 ^ (k.format.fractionBits + 2 + n.log2) ≤ m * 2 ^ more := by
      have := Nat.mul_le_mul_right (2 ^ more) (Nat.log2_self_le hm0)
      rw [← Nat.pow_add, Nat.add_comm m.log2, hmore'] at this
      exact this
    have hn2 : n < 2 ^ (n.log2 + 1) := Nat.lt_log2_self
    generalize hdv : m * 2 ^ more = dv at *
    have hdm : dv = n * (dv / n) + dv % n := (Nat.div_add_mod dv n).symm
    have hrl : dv % n < n := Nat.mod_lt _ (Nat.pos_of_ne_zero hn0)
    have hq1 : 2 ^ (k.format.fractionBits + 1) ≤ dv / n := by
      rw [Nat.le_div_iff_mul_le (Nat.pos_of_ne_zero hn0)]
      have : 2 ^ (k.format.fractionBits + 1) * n ≤ 2 ^ (k.format.fractionBits + 1) * 2 ^ (n.log2 + 1) := Nat.mul_le_mul_left _ (Nat.le_of_lt hn2)
      rw [← Nat.pow_add, show k.format.fractionBits + 1 + (n.log2 + 1) = k.format.fractionBits + 2 + n.log2 by omega] at this
      exact Nat.le_trans this hd1
    -- dv * 2 ^ u ≤ mB * n * 2 ^ eB
    have hmain : ∀ c : Nat, (i - j - (more : Int)) + c ≥ 0 → eB + c ≥ 0 → dv * 2 ^ ((i - j - (more : Int)) + c).toNat ≤ (mB * n) * 2 ^ (eB + c).toNat := by
      intro c hc1 hc2
      rw [← h3, ← g3, ← b3] at h
      have e1 : m * 2 ^ (i - k.format.leastPlace).toNat * 2 ^ (-k.format.leastPlace).toNat = m * 2 ^ ((i - k.format.leastPlace).toNat + (-k.format.leastPlace).toNat) := by rw [Nat.mul_assoc, ← Nat.pow_add]
      have e2 : mB * 2 ^ (eB - k.format.leastPlace).toNat * (n * 2 ^ (j - k.format.leastPlace).toNat) = (mB * n) * 2 ^ ((eB - k.format.leastPlace).toNat + (j - k.format.leastPlace).toNat) := by
        rw [Nat.pow_add, Nat.mul_assoc, Nat.mul_assoc]
        congr 1
        rw [← Nat.mul_assoc, Nat.mul_comm _ n, Nat.mul_assoc]
      rw [e1, e2] at h
      rw [← hdv, Nat.mul_assoc, ← Nat.pow_add]
      exact (shift_le (by omega)).1 h
    have hu : i - j - (more : Int) < eB := by
      rcases (by omega : (i - j - (more : Int)) < eB ∨ eB ≤ (i - j - (more : Int))) with hlt | hge
      · exact hlt
      · exfalso
        have := hmain (eB.natAbs + (i - j - (more : Int)).natAbs) (by omega) (by omega)
        have h5 : dv ≤ mB * n := by
          have h6 : dv * 2 ^ (eB + ((eB.natAbs + (i - j - (more : Int)).natAbs : Nat) : Int)).toNat ≤ mB * n * 2 ^ (eB + ((eB.natAbs + (i - j - (more : Int)).natAbs : Nat) : Int)).toNat :=
            Nat.le_trans (Nat.mul_le_mul_left _ (Nat.pow_le_pow_right (by omega) (by omega))) this
          exact Nat.le_of_mul_le_mul_right h6 (tp _)
        have h7 : dv / n ≤ mB := by
          have := Nat.div_le_div_right (c := n) h5
          rwa [Nat.mul_div_cancel _ (Nat.pos_of_ne_zero hn0)] at this
        omega
    -- W
    have hW : dv ≤ mB * 2 ^ (eB - (i - j - (more : Int))).toNat * n := by
      have := hmain (eB.natAbs + (i - j - (more : Int)).natAbs) (by omega) (by omega)
      have h8 : mB * n * 2 ^ (eB + ((eB.natAbs + (i - j - (more : Int)).natAbs : Nat) : Int)).toNat = mB * 2 ^ (eB - (i - j - (more : Int))).toNat * n * 2 ^ ((i - j - (more : Int)) + ((eB.natAbs + (i - j - (more : Int)).natAbs : Nat) : Int)).toNat := by
        rw [show (eB + ((eB.natAbs + (i - j - (more : Int)).natAbs : Nat) : Int)).toNat = (eB - (i - j - (more : Int))).toNat + ((i - j - (more : Int)) + ((eB.natAbs + (i - j - (more : Int)).natAbs : Nat) : Int)).toNat by omega, Nat.pow_add, ← Nat.mul_assoc]
        congr 1
        rw [Nat.mul_assoc, Nat.mul_comm n, ← Nat.mul_assoc]
      rw [h8] at this
      exact Nat.le_of_mul_le_mul_right this (tp _)
    generalize hWW : mB * 2 ^ (eB - (i - j - (more : Int))).toNat = W at *
    have hfin : 2 * (dv / n) + (dv % n != 0).toNat ≤ 2 * W := by
      have h9 : dv / n ≤ W := by
        have := Nat.div_le_div_right (c := n) hW
        rwa [Nat.mul_div_cancel _ (Nat.pos_of_ne_zero hn0)] at this
      by_cases hr : dv % n = 0
      · rw [hr]; simp; omega
      · have h10 : dv / n ≠ W := by
          intro e
          rw [e] at hdm
          rw [Nat.mul_comm W n] at hW
          omega
        have : (dv % n != 0).toNat = 1 := by simp [hr]
        omega
    -- back
    have hstep : dle (2 * (dv / n) + (dv % n != 0).toNat) (i - j - (more : Int) - 1) (2 * W) (i - j - (more : Int) - 1) := dle_same.2 hfin
    refine dle_trans hstep ?_
    have k1 := dle_up (m := mB) (p := eB) (b := i - j - (more : Int) - 1) (by omega)
    have e3 : mB * 2 ^ (eB - (i - j - (more : Int) - 1)).toNat = 2 * W := by
      rw [← hWW, show (eB - (i - j - (more : Int) - 1)).toNat = (eB - (i - j - (more : Int))).toNat + 1 by omega, Nat.pow_succ, ← Nat.mul_assoc]
      omega
    rw [e3] at k1
    have k2 := dle_up (m := mB) (p := eB) (b := k.format.leastPlace) b2
    rw [b3] at k2
    exact dle_trans k1.1 k2.2

/-- A quotient of known bounds. -/
theorem fdiv_bnd {k : FloatKind} {x y A B D : Nat} (hx : rung k.format x ≤ A) (hA : A < k.format.infRung) (hy : fin k y = true) (hD : D ≤ rung k.format y) (hD0 : 0 < D) (hB : B < k.format.infRung)
    (h : V k.format A * 2 ^ (- k.format.leastPlace).toNat ≤ V k.format B * V k.format D) : rung k.format (fdiv k x y) ≤ B := by
  have h1 : 0 < V k.format (rung k.format y) := by
    have := V_mono k.format (Nat.lt_of_lt_of_le hD0 hD)
    omega
  exact fdiv_le (fin_of hx hA) hy (by omega) hB (Nat.le_trans (Nat.mul_le_mul_right _ (V_le _ hx)) (Nat.le_trans h (Nat.mul_le_mul_left _ (V_le _ hD))))

/-! ### Roots -/

theorem rootFrom_le (n : Nat) : ∀ (todo root : Nat), root * root ≤ n → Ieee.Datum.rootFrom n todo root * Ieee.Datum.rootFrom n todo root ≤ n
  | 0, root, h => h
  | todo + 1, root, h => by
    unfold Ieee.Datum.rootFrom
    dsimp only
    split
    · rename_i hh; exact rootFrom_le n todo _ hh
    · exact rootFrom_le n todo _ h

theorem fsqrt_le {x B : Nat} (hx : fin .f64 x = true) (hs : sgn FloatKind.f64.format x = false) (hB : B < FloatKind.f64.format.infRung)
    (h : V FloatKind.f64.format (rung FloatKind.f64.format x) * 2 ^ (- FloatKind.f64.format.leastPlace).toNat ≤ V FloatKind.f64.format B * V FloatKind.f64.format B) : rung FloatKind.f64.format (fsqrt x) ≤ B := by
  obtain ⟨m, i, h1, h2, h3⟩ := read_of_fin hx
  have hBr : rung FloatKind.f64.format B = B := Nat.mod_eq_of_lt (Nat.lt_trans hB (inf_lt_sw .f64))
  obtain ⟨mB, eB, b1, b2, b3⟩ := read_of_fin (k := .f64) (x := B) ((fin_iff .f64 B).2 (by rw [hBr]; exact hB))
  rw [hBr] at b3
  have hmB := read_mag b1
  have hmx := read_mag h1
  have e5 : FloatKind.f64.format.fractionBits = 52 := rfl
  have hL : FloatKind.f64.format.leastPlace ≤ 0 := by decide
  generalize hLL : FloatKind.f64.format.leastPlace = L at *
  rw [e5] at hmB hmx
  rw [hs] at h1
  unfold fsqrt Ieee.Format.sqrt
  rw [h1, e5]
  by_cases hm0 : m = 0
  · subst hm0
    have : Ieee.Datum.root (52 + 2) (.number false 0 i) = some (.number false 0 i) := by
      unfold Ieee.Datum.root; simp
    rw [this]
    show rung _ (FloatKind.f64.format.nearest false 0 i) ≤ B
    rw [nearest_eq, rung_word .f64 _ (rungOf_le _ _ _)]
    unfold rungOf; simp
  · have hlm : m.log2 < 53 := (Nat.log2_lt hm0).2 hmx
    have hroot : ∃ more whole : Nat, (i - (more : Int)) % 2 = 0 ∧ 108 ≤ more + m.log2 ∧ whole * whole ≤ m * 2 ^ more ∧
        Ieee.Datum.root (52 + 2) (.number false m i) = some (.number false (2 * whole + (whole * whole != m * 2 ^ more).toNat) ((i - (more : Int)) / 2 - 1)) := by
      unfold Ieee.Datum.root
      simp only [hm0, if_false, Bool.false_eq_true, Nat.shiftLeft_eq]
      refine ⟨_, _, ?_, ?_, ?_, rfl⟩
      · have : 2 * (52 + 2) - m.log2 + ((i - ((2 * (52 + 2) - m.log2 : Nat) : Int)) % 2).toNat = 2 * (52 + 2) - m.log2 + ((i - ((2 * (52 + 2) - m.log2 : Nat) : Int)) % 2).toNat := rfl
        omega
      · omega
      · exact rootFrom_le _ _ _ (Nat.zero_le _)
    obtain ⟨more, whole, r1, r2, r3, r4⟩ := hroot
    rw [r4]
    show rung _ (FloatKind.f64.format.nearest false _ _) ≤ B
    rw [nearest_eq, rung_word .f64 _ (rungOf_le _ _ _)]
    refine rungOf_le_of _ (Nat.le_of_lt hB) ?_
    generalize hn : m * 2 ^ more = n at *
    obtain ⟨u, hu⟩ : ∃ u : Int, i - (more : Int) = 2 * u := ⟨(i - (more : Int)) / 2, by omega⟩
    have hud : (i - (more : Int)) / 2 = u := by omega
    rw [hud]
    have hnb : 2 ^ 108 ≤ n := by
      have := Nat.mul_le_mul_right (2 ^ more) (Nat.log2_self_le hm0)
      rw [← Nat.pow_add, hn] at this
      exact Nat.le_trans (Nat.pow_le_pow_right (by omega) (by omega)) this
    have hmain : ∀ c : Nat, 2 * u + c ≥ 0 → 2 * eB + c ≥ 0 → n * 2 ^ (2 * u + c).toNat ≤ (mB * mB) * 2 ^ (2 * eB + c).toNat := by
      intro c hc1 hc2
      rw [← h3, ← b3] at h
      have e1 : m * 2 ^ (i - L).toNat * 2 ^ (-L).toNat = m * 2 ^ ((i - L).toNat + (-L).toNat) := by rw [Nat.mul_assoc, ← Nat.pow_add]
      have e2 : mB * 2 ^ (eB - L).toNat * (mB * 2 ^ (eB - L).toNat) = (mB * mB) * 2 ^ ((eB - L).toNat + (eB - L).toNat) := by
        rw [Nat.pow_add, Nat.mul_assoc, Nat.mul_assoc]
        congr 1
        rw [← Nat.mul_assoc, Nat.mul_comm _ mB, Nat.mul_assoc]
      rw [e1, e2] at h
      rw [← hn, Nat.mul_assoc, ← Nat.pow_add]
      exact (shift_le (by omega)).1 h
    have hlt : u < eB := by
      rcases (by omega : u < eB ∨ eB ≤ u) with hlt | hge
      · exact hlt
      · exfalso
        have := hmain (2 * (eB.natAbs + u.natAbs)) (by omega) (by omega)
        have h5 : n ≤ mB * mB := by
          have h6 : n * 2 ^ (2 * eB + ((2 * (eB.natAbs + u.natAbs) : Nat) : Int)).toNat ≤ mB * mB * 2 ^ (2 * eB + ((2 * (eB.natAbs + u.natAbs) : Nat) : Int)).toNat :=
            Nat.le_trans (Nat.mul_le_mul_left _ (Nat.pow_le_pow_right (by omega) (by omega))) this
          exact Nat.le_of_mul_le_mul_right h6 (tp _)
        have h7 : mB * mB < 2 ^ 53 * 2 ^ 53 := Nat.mul_lt_mul'' hmB hmB
        rw [← Nat.pow_add] at h7
        have h8 : (2 : Nat) ^ (53 + 53) ≤ 2 ^ 108 := Nat.pow_le_pow_right (by omega) (by omega)
        omega
    have hW : n ≤ (mB * 2 ^ (eB - u).toNat) * (mB * 2 ^ (eB - u).toNat) := by
      have := hmain (2 * (eB.natAbs + u.natAbs)) (by omega) (by omega)
      have h8 : mB * mB * 2 ^ (2 * eB + ((2 * (eB.natAbs + u.natAbs) : Nat) : Int)).toNat = (mB * 2 ^ (eB - u).toNat) * (mB * 2 ^ (eB - u).toNat) * 2 ^ (2 * u + ((2 * (eB.natAbs + u.natAbs) : Nat) : Int)).toNat := by
        rw [show (2 * eB + ((2 * (eB.natAbs + u.natAbs) : Nat) : Int)).toNat = ((eB - u).toNat + (eB - u).toNat) + (2 * u + ((2 * (eB.natAbs + u.natAbs) : Nat) : Int)).toNat by omega, Nat.pow_add, ← Nat.mul_assoc]
        congr 1
        rw [Nat.pow_add]
        generalize 2 ^ (eB - u).toNat = g
        rw [Nat.mul_assoc, Nat.mul_assoc, Nat.mul_left_comm mB g g]
      rw [h8] at this
      exact Nat.le_of_mul_le_mul_right this (tp _)
    generalize hWW : mB * 2 ^ (eB - u).toNat = W at *
    have hfin : 2 * whole + (whole * whole != n).toNat ≤ 2 * W := by
      have h9 : whole ≤ W := by
        rcases Nat.lt_or_ge W whole with hh | hh
        · exfalso
          have := Nat.mul_lt_mul'' hh hh
          omega
        · exact hh
      by_cases hr : whole * whole = n
      · rw [hr]; simp; omega
      · have h10 : whole ≠ W := by
          intro e
          subst e
          omega
        have : (whole * whole != n).toNat = 1 := by simp [hr]
        omega
    have hstep : dle (2 * whole + (whole * whole != n).toNat) (u - 1) (2 * W) (u - 1) := dle_same.2 hfin
    refine dle_trans hstep ?_
    have k1 := dle_up (m := mB) (p := eB) (b := u - 1) (by omega)
    have e3 : mB * 2 ^ (eB - (u - 1)).toNat = 2 * W := by
      rw [← hWW, show (eB - (u - 1)).toNat = (eB - u).toNat + 1 by omega, Nat.pow_succ, ← Nat.mul_assoc]
      omega
    rw [e3] at k1
    have k2 := dle_up (m := mB) (p := eB) (b := L) b2
    rw [b3] at k2
    rw [hLL]
    exact dle_trans k1.1 k2.2

theorem fsqrt_nan {x : Nat} (hn : isNan .f64 x = false) (hs : sgn FloatKind.f64.format x = true) (h0 : rung FloatKind.f64.format x ≠ 0) : fsqrt x = qnan .f64 := by
  unfold fsqrt Ieee.Format.sqrt
  rcases Nat.lt_or_eq_of_le (show rung FloatKind.f64.format x ≤ FloatKind.f64.format.infRung by rw [isNan_iff] at hn; simpa using hn) with h | h
  · obtain ⟨m, e, h1, h2, h3⟩ := read_fin FloatKind.f64.format h
    rw [h1, hs]
    have hm : m ≠ 0 := by
      intro hm
      rw [hm, Nat.zero_mul] at h3
      have := V_mono FloatKind.f64.format (Nat.pos_of_ne_zero h0)
      omega
    simp [Ieee.Datum.root, hm]
  · rw [read_inf .f64 h, hs]
    simp [Ieee.Datum.root]

/-! ### Narrowed and widened -/

theorem fcvt_fin {s k : FloatKind} (hsk : s ≠ k) {x : Nat} (hx : fin s x = true) : fcvt s k x = k.format.word (sgn s.format x) (rungOf k.format (V s.format (rung s.format x)) s.format.leastPlace) := by
  obtain ⟨m, i, h1, h2, h3⟩ := read_of_fin hx
  unfold fcvt
  rw [if_neg (by rw [fin_not_nan hx]; simp), if_neg hsk]
  have h1' : s.decode x = .number (sgn s.format x) m i := h1
  rw [h1']
  show k.format.nearest _ _ _ = _
  rw [nearest_eq]
  congr 1
  have hd := dle_up (m := m) (p := i) (b := s.format.leastPlace) h2
  rw [h3] at hd
  exact rung_same _ hd.2 hd.1

theorem fcvt_le {s k : FloatKind} (hsk : s ≠ k) {x A : Nat} (hx : rung s.format x ≤ A) (hA : A < s.format.infRung) : rung k.format (fcvt s k x) ≤ rungOf k.format (V s.format A) s.format.leastPlace := by
  rw [fcvt_fin hsk (fin_of hx hA), rung_word k _ (rungOf_le _ _ _)]
  exact rung_mono _ (dle_same.2 (V_le _ hx))

theorem fits_of {x : Nat} (h : fin .f64 x = true → fin .f32 (fcvt .f64 .f32 x) = true) : cvtFits .f64 .f32 x = true := by
  unfold cvtFits
  cases hd : FloatKind.f64.decode x with
  | nan s f => simp
  | infinity s => simp
  | number s m e =>
    have hf : fin .f64 x = true := by
      refine isInf_of .f64 (by rw [hd]; rfl) ?_
      unfold isNan; rw [hd]; rfl
    have h1 := h hf
    unfold fcvt at h1
    rw [if_neg (by rw [fin_not_nan hf]; simp), if_neg (by decide), hd] at h1
    have : ((FloatKind.f32.decode (FloatKind.f32.encode (.number s m e))).isInfinity) = false := by
      cases hi : FloatKind.f32.decode (FloatKind.f32.encode (.number s m e)) with
      | infinity t =>
        exfalso
        have h2 := fin_lt h1
        obtain ⟨m', e', h3, _⟩ := read_fin FloatKind.f32.format h2
        have h4 : FloatKind.f32.decode (FloatKind.f32.encode (.number s m e)) = .number _ m' e' := h3
        rw [h4] at hi; cases hi
      | number => rfl
      | nan => rfl
    simp [this]

/-- What is small enough narrows. -/
theorem fits_le {x A : Nat} (hx : fin .f64 x = true → rung FloatKind.f64.format x ≤ A) (hA : A < FloatKind.f64.format.infRung) (h : rungOf FloatKind.f32.format (V FloatKind.f64.format A) FloatKind.f64.format.leastPlace < FloatKind.f32.format.infRung) : cvtFits .f64 .f32 x = true :=
  fits_of fun hf => fin_of (fcvt_le (by decide) (hx hf) hA) h

end Go.Proofs.Ytdmcpgbnomhahaa
