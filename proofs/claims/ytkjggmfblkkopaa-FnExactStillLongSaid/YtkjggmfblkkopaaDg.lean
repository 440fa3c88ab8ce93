/-
  Quotients and products from below. No conditions.
-/
import Derived.Test.YtkjggmfblkkopaaIv
namespace Go.Proofs.Ytkjggmfblkkopaa
set_option linter.unusedVariables false
set_option linter.unusedSimpArgs false
open Go.RowKit

theorem fdiv_ge {k : FloatKind} {x y B : Nat} (hx : fin k x = true) (hy : fin k y = true) (hy0 : V k.format (rung k.format y) ≠ 0) (hB : B < k.format.infRung)
    (h : V k.format B * V k.format (rung k.format y) ≤ V k.format (rung k.format x) * 2 ^ (- k.format.leastPlace).toNat) : B ≤ rung k.format (fdiv k x y) := by
  obtain ⟨m, i, h1, h2, h3⟩ := read_of_fin hx
  obtain ⟨n, j, g1, g2, g3⟩ := read_of_fin hy
  have hBr : rung k.format B = B := Nat.mod_eq_of_lt (Nat.lt_trans hB (inf_lt_sw k))
  obtain ⟨mB, eB, b1, b2, b3⟩ := read_of_fin (k := k) (x := B) ((fin_iff k B).2 (by rw [hBr]; exact hB))
  rw [hBr] at b3
  have hmB := read_mag b1
  have hmx := read_mag h1
  have hL : k.format.leastPlace ≤ 0 := by cases k <;> decide
  have hn0 : n ≠ 0 := by intro e; rw [e, Nat.zero_mul] at g3; exact hy0 g3.symm
  unfold fdiv farith
  show B ≤ rung k.format ((k.format.div x y).getD (qnan k))
  unfold Ieee.Format.div
  rw [h1, g1]
  have hq : Ieee.Datum.quotient (k.format.fractionBits + 2) (.number (sgn k.format x) m i) (.number (sgn k.format y) n j) = some (.number (sgn k.format x ^^ sgn k.format y) (2 * ((m <<< (k.format.fractionBits + 2 + n.log2 - m.log2)) / n) + ((m <<< (k.format.fractionBits + 2 + n.log2 - m.log2)) % n != 0).toNat) (i - j - (k.format.fractionBits + 2 + n.log2 - m.log2 : Nat) - 1)) := by
    unfold Ieee.Datum.quotient
    dsimp only
    rw [if_neg hn0]
  rw [hq]
  show B ≤ rung k.format (k.format.nearest _ _ _)
  rw [nearest_eq, rung_word k _ (rungOf_le _ _ _), Nat.shiftLeft_eq]
  refine rungOf_ge_of _ (Nat.le_of_lt hB) ?_
  by_cases hm0 : m = 0
  · have hVB : V k.format B = 0 := by
      rw [← h3, hm0, Nat.zero_mul, Nat.zero_mul] at h
      rcases Nat.eq_zero_or_pos (V k.format B) with e | e
      · exact e
      · exact absurd (Nat.le_zero.1 h) (Nat.mul_ne_zero (by omega) hy0)
    rw [hVB]
    simp [dle]
  · have hlm : m.log2 < k.format.fractionBits + 1 := (Nat.log2_lt hm0).2 hmx
    generalize hmore : k.format.fractionBits + 2 + n.log2 - m.log2 = more
    have hmore' : more + m.log2 = k.format.fractionBits + 2 + n.log2 := by omega
    have hd1 : 2 ^ (k.format.fractionBits + 2 + n.log2) ≤ m * 2 ^ more := by
      have := Nat.mul_le_mul_right (2 ^ more) (Nat.log2_self_le hm0)
      rw [← Nat.pow_add, Nat.add_comm m.log2, hmore'] at this
      exact this
    have hn2 : n < 2 ^ (n.log2 + 1) := Nat.lt_log2_self
    generalize hdv : m * 2 ^ more = dv at *
    have hq1 : 2 ^ (k.format.fractionBits + 1) ≤ dv / n := by
      rw [Nat.le_div_iff_mul_le (Nat.pos_of_ne_zero hn0)]
      have : 2 ^ (k.format.fractionBits + 1) * n ≤ 2 ^ (k.format.fractionBits + 1) * 2 ^ (n.log2 + 1) := Nat.mul_le_mul_left _ (Nat.le_of_lt hn2)
      rw [← Nat.pow_add, show k.format.fractionBits + 1 + (n.log2 + 1) = k.format.fractionBits + 2 + n.log2 by omega] at this
      exact Nat.le_trans this hd1
    have hmain : ∀ c : Nat, (i - j - (more : Int)) + c ≥ 0 → eB + c ≥ 0 → (mB * n) * 2 ^ (eB + c).toNat ≤ dv * 2 ^ ((i - j - (more : Int)) + c).toNat := by
      intro c hc1 hc2
      rw [← h3, ← g3, ← b3] at h
      have e1 : m * 2 ^ (i - k.format.leastPlace).toNat * 2 ^ (-k.format.leastPlace).toNat = m * 2 ^ ((i - k.format.leastPlace).toNat + (-k.format.leastPlace).toNat) := by rw [Nat.mul_assoc, ← Nat.pow_add]
      have e2 : mB * 2 ^ (eB - k.format.leastPlace).toNat * (n * 2 ^ (j - k.format.leastPlace).toNat) = (mB * n) * 2 ^ ((eB - k.format.leastPlace).toNat + (j - k.format.leastPlace).toNat) := by
        rw [Nat.pow_add, Nat.mul_assoc, Nat.mul_assoc]
        congr 1
        rw [← Nat.mul_assoc, Nat.mul_comm _ n, Nat.mul_assoc]
      rw [e1, e2] at h
      rw [← hdv, Nat.mul_assoc m, ← Nat.pow_add]
      exact (shift_le (by omega)).1 h
    have hk2 := dle_up (m := mB) (p := eB) (b := k.format.leastPlace) b2
    rw [b3] at hk2
    refine dle_trans hk2.1 ?_
    rcases (by omega : eB < (i - j - (more : Int)) ∨ (i - j - (more : Int)) ≤ eB) with hlt | hge
    · have hs : dle mB eB (dv / n) (i - j - (more : Int)) := by
        rw [dle_iff eB (Int.le_refl _) (by omega)]
        refine Nat.le_trans ?_ (Nat.le_mul_of_pos_right _ (tp _))
        simp
        omega
      refine dle_trans hs ?_
      rw [dle_iff (i - j - (more : Int) - 1) (by omega) (by omega), show (i - j - (more : Int) - (i - j - (more : Int) - 1)).toNat = 1 by omega, show (i - j - (more : Int) - 1 - (i - j - (more : Int) - 1)).toNat = 0 by omega]
      omega
    · have hW : mB * 2 ^ (eB - (i - j - (more : Int))).toNat * n ≤ dv := by
        have := hmain (eB.natAbs + (i - j - (more : Int)).natAbs) (by omega) (by omega)
        have h8 : mB * n * 2 ^ (eB + ((eB.natAbs + (i - j - (more : Int)).natAbs : Nat) : Int)).toNat = mB * 2 ^ (eB - (i - j - (more : Int))).toNat * n * 2 ^ ((i - j - (more : Int)) + ((eB.natAbs + (i - j - (more : Int)).natAbs : Nat) : Int)).toNat := by
          rw [show (eB + ((eB.natAbs + (i - j - (more : Int)).natAbs : Nat) : Int)).toNat = (eB - (i - j - (more : Int))).toNat + ((i - j - (more : Int)) + ((eB.natAbs + (i - j - (more : Int)).natAbs : Nat) : Int)).toNat by omega, Nat.pow_add, ← Nat.mul_assoc]
          congr 1
          rw [Nat.mul_assoc, Nat.mul_comm n, ← Nat.mul_assoc]
        rw [h8] at this
        exact Nat.le_of_mul_le_mul_right this (tp _)
      have hW2 : mB * 2 ^ (eB - (i - j - (more : Int))).toNat ≤ dv / n := (Nat.le_div_iff_mul_le (Nat.pos_of_ne_zero hn0)).2 hW
      rw [dle_iff (i - j - (more : Int) - 1) (by omega) (by omega), show (eB - (i - j - (more : Int) - 1)).toNat = (eB - (i - j - (more : Int))).toNat + 1 by omega, show (i - j - (more : Int) - 1 - (i - j - (more : Int) - 1)).toNat = 0 by omega, Nat.pow_succ, ← Nat.mul_assoc]
      omega

theorem fmul_ge {k : FloatKind} {x y B : Nat} (hx : fin k x = true) (hy : fin k y = true) (hB : B ≤ k.format.infRung)
    (h : dle (V k.format B) k.format.leastPlace (V k.format (rung k.format x) * V k.format (rung k.format y)) (2 * k.format.leastPlace)) : B ≤ rung k.format (fmul k x y) := by
  rw [fmul_fin hx hy, rung_word k _ (rungOf_le _ _ _)]
  exact rungOf_ge_of _ hB h

theorem divL {x y b c d : Nat} (hx : fin .f64 x = true) (hx2 : pwr b ≤ rung FloatKind.f64.format x) (hy : fin .f64 y = true) (hy2 : rung FloatKind.f64.format y = pwr c) (h1 : 1 ≤ b) (h2 : 1 ≤ c) (h3 : 1 ≤ d) (hd : d < 2047) (h : d + c ≤ b + 1023) : pwr d ≤ rung FloatKind.f64.format (fdiv .f64 x y) := by
  refine fdiv_ge hx hy (by rw [hy2, V_pwr h2]; exact Nat.ne_of_gt (tp _)) (pwr_lt hd) ?_
  rw [hy2, V_pwr h2, V_pwr h3, least64]
  refine Nat.le_trans ?_ (Nat.mul_le_mul_right _ (V_le _ hx2))
  rw [V_pwr h1, ← Nat.pow_add, ← Nat.pow_add]
  exact Nat.pow_le_pow_right (by decide) (by omega)

theorem mulL {x y b c d : Nat} (hx : fin .f64 x = true) (hx2 : pwr b ≤ rung FloatKind.f64.format x) (hy : fin .f64 y = true) (hy2 : rung FloatKind.f64.format y = pwr c) (h1 : 1 ≤ b) (h2 : 1 ≤ c) (h3 : 1 ≤ d) (hd : d < 2047) (h : d + 1023 ≤ b + c) : pwr d ≤ rung FloatKind.f64.format (fmul .f64 x y) := by
  refine fmul_ge hx hy (Nat.le_of_lt (pwr_lt hd)) ?_
  rw [hy2, V_pwr h2, V_pwr h3, least64, dle_iff (-2148) (by omega) (by omega)]
  refine Nat.le_trans ?_ (Nat.mul_le_mul_right _ (Nat.mul_le_mul_right _ (V_le _ hx2)))
  rw [V_pwr h1, ← Nat.pow_add, ← Nat.pow_add, ← Nat.pow_add]
  exact Nat.pow_le_pow_right (by decide) (by omega)

/-- Comparisons of numbers that are not below zero. -/
theorem fge_rung {k : FloatKind} {x y : Nat} (hx : fin k x = true) (hy : fin k y = true) (hs : sgn k.format x = false) (ht : sgn k.format y = false) : fge k x y = decide (rung k.format y ≤ rung k.format x) := by
  rw [fge_iff, fin_not_nan hx, fin_not_nan hy]
  unfold sgv
  rw [hs, ht]
  simp only [Bool.not_false, Bool.true_and, Bool.false_eq_true, if_false, Int.ofNat_le]
  refine decide_eq_decide.2 ⟨fun h => ?_, V_le _⟩
  rcases Nat.lt_or_ge (rung k.format x) (rung k.format y) with g | g
  · have := V_mono k.format g; omega
  · exact g
theorem flt_rung {k : FloatKind} {x y : Nat} (hx : fin k x = true) (hy : fin k y = true) (hs : sgn k.format x = false) (ht : sgn k.format y = false) : flt k x y = decide (rung k.format x < rung k.format y) := by
  rw [flt_iff, fin_not_nan hx, fin_not_nan hy]
  unfold sgv
  rw [hs, ht]
  simp only [Bool.not_false, Bool.true_and, Bool.false_eq_true, if_false, Int.ofNat_lt]
  refine decide_eq_decide.2 ⟨fun h => ?_, V_mono _⟩
  rcases Nat.lt_or_ge (rung k.format x) (rung k.format y) with g | g
  · exact g
  · have := V_le k.format g; omega

end Go.Proofs.Ytkjggmfblkkopaa
