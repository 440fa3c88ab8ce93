/-
  Intervals of 64-bit numbers: products, sums with one, quotients by numbers of at least one. No conditions.
-/
import Derived.Test.YtdmcpgbnomhahaaFp
namespace Go.Proofs.Ytdmcpgbnomhahaa
set_option linter.unusedVariables false
set_option linter.unusedSimpArgs false
open Go.RowKit

structure In (x : Nat) (lo hi : Int) : Prop where
  f : fin .f64 x = true
  l : lo ≤ sgv FloatKind.f64.format x
  h : sgv FloatKind.f64.format x ≤ hi

theorem In.mono {x : Nat} {lo hi lo' hi' : Int} (h : In x lo hi) (h1 : lo' ≤ lo) (h2 : hi ≤ hi') : In x lo' hi' := ⟨h.f, Int.le_trans h1 h.l, Int.le_trans h.h h2⟩

theorem In.rg {x B : Nat} {lo hi : Int} (h : In x lo hi) (h1 : -(V FloatKind.f64.format B : Int) ≤ lo) (h2 : hi ≤ (V FloatKind.f64.format B : Int)) : rung FloatKind.f64.format x ≤ B := by
  have a := h.l; have b := h.h
  rcases Nat.lt_or_ge B (rung FloatKind.f64.format x) with g | g
  · exfalso
    have hm := V_mono FloatKind.f64.format g
    unfold sgv at a b
    generalize V FloatKind.f64.format (rung FloatKind.f64.format x) = X at *
    generalize V FloatKind.f64.format B = Y at *
    cases hs : sgn FloatKind.f64.format x <;> rw [hs] at a b <;> simp only [Bool.false_eq_true, if_true, if_false] at a b <;> omega
  · exact g

theorem prod_in {a b : Int} {A1 A2 B1 B2 M N : Nat} (ha1 : -(A1 : Int) ≤ a) (ha2 : a ≤ A2) (hb1 : -(B1 : Int) ≤ b) (hb2 : b ≤ B2) (h1 : A1 * B1 ≤ M) (h2 : A2 * B2 ≤ M) (h3 : A1 * B2 ≤ N) (h4 : A2 * B1 ≤ N) : -(N : Int) ≤ a * b ∧ a * b ≤ M := by
  rcases Int.eq_nat_or_neg a with ⟨p, rfl | rfl⟩ <;> rcases Int.eq_nat_or_neg b with ⟨q, rfl | rfl⟩
  · have : p * q ≤ A2 * B2 := Nat.mul_le_mul (by omega) (by omega)
    rw [← Int.natCast_mul]; omega
  · have : p * q ≤ A2 * B1 := Nat.mul_le_mul (by omega) (by omega)
    rw [Int.mul_neg, ← Int.natCast_mul]; omega
  · have : p * q ≤ A1 * B2 := Nat.mul_le_mul (by omega) (by omega)
    rw [Int.neg_mul, ← Int.natCast_mul]; omega
  · have : p * q ≤ A1 * B1 := Nat.mul_le_mul (by omega) (by omega)
    rw [Int.neg_mul_neg, ← Int.natCast_mul]; omega

theorem In.mul {x y A B M N : Nat} {A1 A2 B1 B2 : Nat} {lo hi : Int} (hx : In x (-(A1 : Int)) A2) (hy : In y (-(B1 : Int)) B2) (hA : rung FloatKind.f64.format x ≤ A) (hB : rung FloatKind.f64.format y ≤ B) (hA' : A < FloatKind.f64.format.infRung) (hB' : B < FloatKind.f64.format.infRung)
    (hf : rungOf FloatKind.f64.format (V FloatKind.f64.format A * V FloatKind.f64.format B) (2 * FloatKind.f64.format.leastPlace) < FloatKind.f64.format.infRung)
    (h1 : A1 * B1 ≤ M) (h2 : A2 * B2 ≤ M) (h3 : A1 * B2 ≤ N) (h4 : A2 * B1 ≤ N) (hl : lo ≤ rndI FloatKind.f64.format (2 * FloatKind.f64.format.leastPlace) (-(N : Int))) (hh : rndI FloatKind.f64.format (2 * FloatKind.f64.format.leastPlace) (M : Int) ≤ hi) : In (fmul .f64 x y) lo hi := by
  obtain ⟨p1, p2⟩ := prod_in hx.l hx.h hy.l hy.h h1 h2 h3 h4
  have e := sgv_fmul (k := .f64) hx.f hy.f
  exact ⟨fin_of (fmul_le hA hB hA' hB') hf, by rw [e]; exact Int.le_trans hl (rndI_mono _ _ p1), by rw [e]; exact Int.le_trans (rndI_mono _ _ p2) hh⟩

theorem In.add {x y A B : Nat} {a1 a2 b1 b2 lo hi : Int} (hx : In x a1 a2) (hy : In y b1 b2) (hA : rung FloatKind.f64.format x ≤ A) (hB : rung FloatKind.f64.format y ≤ B) (hA' : A < FloatKind.f64.format.infRung) (hB' : B < FloatKind.f64.format.infRung)
    (hf : rungOf FloatKind.f64.format (V FloatKind.f64.format A + V FloatKind.f64.format B) FloatKind.f64.format.leastPlace < FloatKind.f64.format.infRung)
    (hl : lo ≤ rndI FloatKind.f64.format FloatKind.f64.format.leastPlace (a1 + b1)) (hh : rndI FloatKind.f64.format FloatKind.f64.format.leastPlace (a2 + b2) ≤ hi) : In (fadd .f64 x y) lo hi := by
  have e := sgv_fadd (k := .f64) hx.f hy.f
  exact ⟨fin_of (fadd_le hA hB hA' hB') hf, by rw [e]; exact Int.le_trans hl (rndI_mono _ _ (Int.add_le_add hx.l hy.l)), by rw [e]; exact Int.le_trans (rndI_mono _ _ (Int.add_le_add hx.h hy.h)) hh⟩

theorem fdiv_word {k : FloatKind} {x y : Nat} (hx : fin k x = true) (hy : fin k y = true) (hy0 : V k.format (rung k.format y) ≠ 0) : ∃ r, r ≤ k.format.infRung ∧ fdiv k x y = k.format.word (sgn k.format x ^^ sgn k.format y) r := by
  obtain ⟨m, i, h1, h2, h3⟩ := read_of_fin hx
  obtain ⟨n, j, g1, g2, g3⟩ := read_of_fin hy
  have hn0 : n ≠ 0 := by intro e; rw [e, Nat.zero_mul] at g3; exact hy0 g3.symm
  have hq : Ieee.Datum.quotient (k.format.fractionBits + 2) (.number (sgn k.format x) m i) (.number (sgn k.format y) n j) = some (.number (sgn k.format x ^^ sgn k.format y) (2 * ((m <<< (k.format.fractionBits + 2 + n.log2 - m.log2)) / n) + ((m <<< (k.format.fractionBits + 2 + n.log2 - m.log2)) % n != 0).toNat) (i - j - (k.format.fractionBits + 2 + n.log2 - m.log2 : Nat) - 1)) := by
    unfold Ieee.Datum.quotient
    dsimp only
    rw [if_neg hn0]
  unfold fdiv farith
  show ∃ r, r ≤ k.format.infRung ∧ (k.format.div x y).getD (qnan k) = _
  unfold Ieee.Format.div
  rw [h1, g1, hq]
  show ∃ r, r ≤ k.format.infRung ∧ k.format.nearest _ _ _ = _
  rw [nearest_eq]
  exact ⟨_, rungOf_le _ _ _, rfl⟩

/-- A quotient by a number of at least one. -/
theorem In.div {x y : Nat} {lo hi : Int} (hx : In x lo hi) (hlo : lo ≤ 0) (hhi : 0 ≤ hi) (hy : fin .f64 y = true) (hs : sgn FloatKind.f64.format y = false) (hy1 : 2 ^ (- FloatKind.f64.format.leastPlace).toNat ≤ V FloatKind.f64.format (rung FloatKind.f64.format y)) : In (fdiv .f64 x y) lo hi := by
  have hxf := (fin_iff .f64 x).1 hx.f
  have h0 : V FloatKind.f64.format (rung FloatKind.f64.format y) ≠ 0 := by
    intro e
    rw [e] at hy1
    exact absurd hy1 (Nat.not_le.2 (tp _))
  have hr : rung FloatKind.f64.format (fdiv .f64 x y) ≤ rung FloatKind.f64.format x := fdiv_le hx.f hy h0 hxf (Nat.mul_le_mul_left _ hy1)
  obtain ⟨r, r1, r2⟩ := fdiv_word hx.f hy h0
  have er : rung FloatKind.f64.format (fdiv .f64 x y) = r := by rw [r2]; exact rung_word .f64 _ r1
  have es : sgv FloatKind.f64.format (fdiv .f64 x y) = (if sgn FloatKind.f64.format x then -1 else 1) * (V FloatKind.f64.format r : Int) := by
    rw [r2, hs, Bool.xor_false]; exact sgv_word .f64 _ r1
  rw [er] at hr
  have hV := V_le FloatKind.f64.format hr
  have hl := hx.l; have hh := hx.h
  unfold sgv at hl hh
  refine ⟨fin_of (Nat.le_of_eq er) (Nat.lt_of_le_of_lt hr hxf), ?_, ?_⟩ <;> rw [es] <;> cases hsx : sgn FloatKind.f64.format x <;> rw [hsx] at hl hh <;> simp only [Bool.false_eq_true, if_true, if_false] at hl hh ⊢ <;> omega

theorem sgn_fneg {k : FloatKind} {x : Nat} (h : isNan k x = false) : sgn k.format (fneg k x) = !sgn k.format x := by
  unfold fneg
  rw [if_neg (by rw [h]; simp)]
  have e : k.format.signWeight = 2 ^ (k.format.exponentBits + k.format.fractionBits) := by cases k <;> decide
  have ht : ∀ y, sgn k.format y = y.testBit (k.format.exponentBits + k.format.fractionBits) := fun y => by
    unfold sgn
    rw [e, Nat.testBit_eq_decide_div_mod_eq]
    rfl
  rw [ht, ht]
  unfold Op.negFloat
  rw [Nat.testBit_xor, Nat.testBit_two_pow_self, Bool.xor_true]

theorem sgv_fneg {k : FloatKind} {x : Nat} (h : isNan k x = false) : sgv k.format (fneg k x) = - sgv k.format x := by
  unfold sgv
  rw [sgn_fneg h, rung_fneg h]
  cases sgn k.format x <;> simp

/-- The sign of a difference of the greater and the lesser. -/
theorem sgn_fsub_pos {k : FloatKind} {x y : Nat} (hx : fin k x = true) (hy : fin k y = true) (h : sgv k.format y < sgv k.format x) : sgn k.format (fsub k x y) = false := by
  rw [fsub_fin hx hy, sgn_word k _ (Nat.lt_of_le_of_lt (rungOf_le _ _ _) (inf_lt_sw k)), if_neg (by omega)]
  exact decide_eq_false (by omega)

/-- A difference of the greater and the lesser, both not below zero, is finite. -/
theorem fin_fsub_pos {k : FloatKind} {x y : Nat} (hx : fin k x = true) (hy : fin k y = true) (h0 : 0 ≤ sgv k.format y) (h : sgv k.format y < sgv k.format x) : fin k (fsub k x y) = true := by
  have e := sgv_fsub hx hy
  have hs := sgn_fsub_pos hx hy h
  have hxf := (fin_iff k x).1 hx
  have m := rndI_mono k.format k.format.leastPlace (s := sgv k.format x - sgv k.format y) (t := sgv k.format x) (by omega)
  rw [rndI_word k (Nat.le_of_lt hxf), ← e] at m
  unfold sgv at m h h0
  rw [hs] at m
  refine fin_of (A := rung k.format x) ?_ hxf
  rcases Nat.lt_or_ge (rung k.format x) (rung k.format (fsub k x y)) with g | g
  · exfalso
    have hm := V_mono k.format g
    have hp : 0 ≤ V k.format (rung k.format x) := Nat.zero_le _
    cases hsx : sgn k.format x <;> rw [hsx] at m <;> simp only [Bool.false_eq_true, if_true, if_false] at m <;> omega
  · exact g

end Go.Proofs.Ytdmcpgbnomhahaa
