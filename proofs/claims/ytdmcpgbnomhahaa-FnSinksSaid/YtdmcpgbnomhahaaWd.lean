/-
  A widened number is the same number: comparisons in 64 bits are those in 32. No conditions.
-/
import Derived.Test.YtdmcpgbnomhahaaSi
namespace Go.Proofs.Ytdmcpgbnomhahaa
set_option linter.unusedVariables false
set_option linter.unusedSimpArgs false
open Go.RowKit

theorem V_form (f : Ieee.Format) (r : Nat) : ∃ q a, V f r = q * 2 ^ a ∧ q < 2 * f.binade ∧ a ≤ r / f.binade := by
  have hB := binade_pos f
  unfold V
  by_cases h : r < f.binade
  · rw [if_pos h]; exact ⟨r, 0, by simp, by omega, Nat.zero_le _⟩
  · rw [if_neg h]
    exact ⟨_, _, rfl, by have := Nat.mod_lt r hB; omega, Nat.sub_le _ _⟩

theorem V_wide {x : Nat} (hf : fin .f32 x = true) : V FloatKind.f64.format (rung FloatKind.f64.format (fcvt .f32 .f64 x)) = V FloatKind.f32.format (rung FloatKind.f32.format x) * 2 ^ 925 := by
  rw [fcvt_fin (by decide) hf, rung_word .f64 _ (rungOf_le _ _ _)]
  obtain ⟨q, a, h1, h2, h3⟩ := V_form FloatKind.f32.format (rung FloatKind.f32.format x)
  have hr := fin_lt hf
  have ha : a ≤ 254 := by
    have e1 : FloatKind.f32.format.binade = 8388608 := by decide
    have e2 : FloatKind.f32.format.infRung = 2139095040 := by decide
    rw [e1] at h3
    rw [e2] at hr
    omega
  have hl : FloatKind.f32.format.leastPlace = -149 := by decide
  have e1 : FloatKind.f32.format.binade = 8388608 := by decide
  rw [h1, hl]
  have hd := dle_up (m := q) (p := (a : Int) - 149) (b := -149) (by omega)
  rw [show ((a : Int) - 149 - -149).toNat = a by omega] at hd
  rw [rung_same _ hd.1 hd.2, rungOf_exact _ (by rw [binade64]; omega) (by rw [least64]; omega) (by rw [least64, binade64, inf64]; omega), least64, show ((a : Int) - 149 - -1074).toNat = a + 925 by omega, Nat.pow_add, Nat.mul_assoc]

theorem sgn_wide {x : Nat} (hn : isNan .f32 x = false) : sgn FloatKind.f64.format (fcvt .f32 .f64 x) = sgn FloatKind.f32.format x := sgn_cvt hn (by decide)

theorem sgv_wide {x : Nat} (hf : fin .f32 x = true) : sgv FloatKind.f64.format (fcvt .f32 .f64 x) = sgv FloatKind.f32.format x * ((2 ^ 925 : Nat) : Int) := by
  rw [sgv_eq, sgv_eq, V_wide hf, sgn_wide (fin_not_nan hf), Int.natCast_mul, Int.mul_assoc]

theorem inf_wide {x : Nat} (hn : isNan .f32 x = false) (hf : fin .f32 x = false) : rung FloatKind.f64.format (fcvt .f32 .f64 x) = FloatKind.f64.format.infRung := by
  have h1 : fin .f64 (fcvt .f32 .f64 x) = false := by rw [fin_wide]; exact hf
  have h2 : isNan .f64 (fcvt .f32 .f64 x) = false := by rw [isNan_cvt]; exact hn
  rw [isNan_iff] at h2
  have h3 : ¬ rung FloatKind.f64.format (fcvt .f32 .f64 x) < FloatKind.f64.format.infRung := fun h => by rw [(fin_iff .f64 _).2 h] at h1; cases h1
  have h4 : ¬ FloatKind.f64.format.infRung < rung FloatKind.f64.format (fcvt .f32 .f64 x) := of_decide_eq_false h2
  omega

theorem inf_rung {k : FloatKind} {x : Nat} (hn : isNan k x = false) (hf : fin k x = false) : rung k.format x = k.format.infRung := by
  rw [isNan_iff] at hn
  have h3 : ¬ rung k.format x < k.format.infRung := fun h => by rw [(fin_iff k _).2 h] at hf; cases hf
  have h4 : ¬ k.format.infRung < rung k.format x := of_decide_eq_false hn
  omega

/-- How two widened numbers stand to each other. -/
theorem wide_order {x y : Nat} (hx : isNan .f32 x = false) (hy : isNan .f32 y = false) :
    (sgv FloatKind.f64.format (fcvt .f32 .f64 x) < sgv FloatKind.f64.format (fcvt .f32 .f64 y) ↔ sgv FloatKind.f32.format x < sgv FloatKind.f32.format y) ∧
    (sgv FloatKind.f64.format (fcvt .f32 .f64 x) = sgv FloatKind.f64.format (fcvt .f32 .f64 y) ↔ sgv FloatKind.f32.format x = sgv FloatKind.f32.format y) := by
  have big : ∀ {z : Nat}, fin .f32 z = true → V FloatKind.f32.format (rung FloatKind.f32.format z) < V FloatKind.f32.format FloatKind.f32.format.infRung ∧ V FloatKind.f64.format (rung FloatKind.f64.format (fcvt .f32 .f64 z)) < V FloatKind.f64.format FloatKind.f64.format.infRung := fun {z} hz =>
    ⟨V_mono _ (fin_lt hz), V_mono _ (fin_lt (by rw [fin_wide]; exact hz))⟩
  have hp : 0 < V FloatKind.f32.format FloatKind.f32.format.infRung ∧ 0 < V FloatKind.f64.format FloatKind.f64.format.infRung := by decide +kernel
  cases hfx : fin .f32 x with
  | true =>
    cases hfy : fin .f32 y with
    | true =>
      rw [sgv_wide hfx, sgv_wide hfy]
      have hc : (0 : Int) < ((2 ^ 925 : Nat) : Int) := by have := tp 925; omega
      exact ⟨⟨fun h => Int.lt_of_mul_lt_mul_right h (by omega), fun h => Int.mul_lt_mul_of_pos_right h hc⟩, ⟨fun h => Int.eq_of_mul_eq_mul_right (by omega) h, fun h => by rw [h]⟩⟩
    | false =>
      obtain ⟨b1, b2⟩ := big hfx
      rw [sgv_eq, sgv_eq, sgv_eq FloatKind.f32.format x, sgv_eq FloatKind.f32.format y, sgn_wide hx, sgn_wide hy, inf_wide hy hfy, inf_rung hy hfy]
      generalize V FloatKind.f32.format FloatKind.f32.format.infRung = A at *
      generalize V FloatKind.f64.format FloatKind.f64.format.infRung = B at *
      generalize V FloatKind.f32.format (rung FloatKind.f32.format x) = C at *
      generalize V FloatKind.f64.format (rung FloatKind.f64.format (fcvt .f32 .f64 x)) = D at *
      cases sgn FloatKind.f32.format x <;> cases sgn FloatKind.f32.format y <;> simp <;> omega
  | false =>
    cases hfy : fin .f32 y with
    | true =>
      obtain ⟨b1, b2⟩ := big hfy
      rw [sgv_eq, sgv_eq, sgv_eq FloatKind.f32.format x, sgv_eq FloatKind.f32.format y, sgn_wide hx, sgn_wide hy, inf_wide hx hfx, inf_rung hx hfx]
      generalize V FloatKind.f32.format FloatKind.f32.format.infRung = A at *
      generalize V FloatKind.f64.format FloatKind.f64.format.infRung = B at *
      generalize V FloatKind.f32.format (rung FloatKind.f32.format y) = C at *
      generalize V FloatKind.f64.format (rung FloatKind.f64.format (fcvt .f32 .f64 y)) = D at *
      cases sgn FloatKind.f32.format x <;> cases sgn FloatKind.f32.format y <;> simp <;> omega
    | false =>
      rw [sgv_eq, sgv_eq, sgv_eq FloatKind.f32.format x, sgv_eq FloatKind.f32.format y, sgn_wide hx, sgn_wide hy, inf_wide hx hfx, inf_rung hx hfx, inf_wide hy hfy, inf_rung hy hfy]
      generalize V FloatKind.f32.format FloatKind.f32.format.infRung = A at *
      generalize V FloatKind.f64.format FloatKind.f64.format.infRung = B at *
      cases sgn FloatKind.f32.format x <;> cases sgn FloatKind.f32.format y <;> simp <;> omega

theorem wide_or {x y : Nat} : (isNan .f32 x = true ∨ isNan .f32 y = true) ∨ (isNan .f32 x = false ∧ isNan .f32 y = false) := by
  cases isNan .f32 x <;> cases isNan .f32 y <;> simp

theorem flt_wide (x y : Nat) : flt .f64 (fcvt .f32 .f64 x) (fcvt .f32 .f64 y) = flt .f32 x y := by
  rw [flt_iff, flt_iff, isNan_cvt, isNan_cvt]
  rcases wide_or (x := x) (y := y) with (h | h) | ⟨h1, h2⟩
  · rw [h]; rfl
  · rw [h]; simp
  · rw [decide_eq_decide.2 (wide_order h1 h2).1]
theorem feq_wide (x y : Nat) : feq .f64 (fcvt .f32 .f64 x) (fcvt .f32 .f64 y) = feq .f32 x y := by
  rw [feq_iff, feq_iff, isNan_cvt, isNan_cvt]
  rcases wide_or (x := x) (y := y) with (h | h) | ⟨h1, h2⟩
  · rw [h]; rfl
  · rw [h]; simp
  · rw [decide_eq_decide.2 (wide_order h1 h2).2]
theorem fgt_wide (x y : Nat) : fgt .f64 (fcvt .f32 .f64 x) (fcvt .f32 .f64 y) = fgt .f32 x y := by
  rw [fgt_iff, fgt_iff, isNan_cvt, isNan_cvt]
  rcases wide_or (x := x) (y := y) with (h | h) | ⟨h1, h2⟩
  · rw [h]; rfl
  · rw [h]; simp
  · rw [decide_eq_decide.2 (wide_order h2 h1).1]
theorem feq_zero (x : Nat) : feq .f64 (fcvt .f32 .f64 x) 0 = feq .f32 x 0 := by
  rw [← feq_wide x 0, show fcvt .f32 .f64 0 = 0 by decide +kernel]
theorem flt_zero (x : Nat) : flt .f64 (fcvt .f32 .f64 x) 0 = flt .f32 x 0 := by
  rw [← flt_wide x 0, show fcvt .f32 .f64 0 = 0 by decide +kernel]

end Go.Proofs.Ytdmcpgbnomhahaa
