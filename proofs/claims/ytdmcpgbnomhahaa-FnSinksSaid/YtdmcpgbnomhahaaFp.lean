/-
  Bounds of 64-bit floats by powers of two. No conditions.
-/
import Derived.Test.YtdmcpgbnomhahaaFr
namespace Go.Proofs.Ytdmcpgbnomhahaa
set_option linter.unusedVariables false
set_option linter.unusedSimpArgs false
open Go.RowKit

/-- The word of 2 ^ (e - 1023). -/
def pwr (e : Nat) : Nat := e * 4503599627370496

theorem V_split (f : Ieee.Format) (a q : Nat) (hq : q < 2 * f.binade) (h : a = 0 ∨ f.binade ≤ q) : V f (a * f.binade + q) = q * 2 ^ a := by
  have hB := binade_pos f
  unfold V
  by_cases hlt : q < f.binade
  · have ha : a = 0 := by omega
    subst ha
    rw [Nat.zero_mul, Nat.zero_add, if_pos hlt]; simp
  · have e : a * f.binade + q = f.binade * (a + 1) + (q - f.binade) := by rw [Nat.mul_add, Nat.mul_comm a]; omega
    rw [e, if_neg (by rw [Nat.mul_add]; omega)]
    rw [Nat.mul_add_mod, Nat.mod_eq_of_lt (by omega), Nat.mul_add_div hB, Nat.div_eq_of_lt (by omega)]
    congr 1
    omega

theorem rungOf_exact (f : Ieee.Format) {m : Nat} {p : Int} (hm : m < 2 * f.binade) (hp : f.leastPlace ≤ p) (hi : (p - f.leastPlace).toNat * f.binade + 2 * f.binade ≤ f.infRung) :
    V f (rungOf f m p) = m * 2 ^ (p - f.leastPlace).toNat := by
  have hB := binade_pos f
  have hBe : f.binade = 2 ^ f.fractionBits := rfl
  unfold rungOf
  by_cases h0 : m = 0
  · rw [if_pos h0, h0, V_zero]; simp
  · rw [if_neg h0]
    have hl : m.log2 ≤ f.fractionBits := by
      have : m.log2 < f.fractionBits + 1 := (Nat.log2_lt h0).2 (by rw [Nat.pow_succ, ← hBe]; omega)
      omega
    have hself := Nat.log2_self_le h0
    have hlt : m < 2 ^ (m.log2 + 1) := Nat.lt_log2_self
    dsimp only
    generalize hlast : max (p + m.log2 - f.fractionBits) f.leastPlace = last
    have hle : last ≤ p := by omega
    have hge : f.leastPlace ≤ last := by omega
    rw [show (last - p).toNat = 0 by omega, cut_zero, Nat.shiftLeft_eq]
    generalize hb : (p - last).toNat = b
    generalize ha : (last - f.leastPlace).toNat = a
    have hab : (p - f.leastPlace).toNat = b + a := by omega
    have hbl : b ≤ f.fractionBits - m.log2 := by omega
    have hq2 : m * 2 ^ b < 2 * f.binade := by
      rw [hBe]
      calc m * 2 ^ b < 2 ^ (m.log2 + 1) * 2 ^ b := Nat.mul_lt_mul_of_pos_right hlt (tp b)
        _ = 2 ^ (m.log2 + 1 + b) := (Nat.pow_add _ _ _).symm
        _ ≤ 2 ^ (f.fractionBits + 1) := Nat.pow_le_pow_right (by decide) (by omega)
        _ = 2 * 2 ^ f.fractionBits := by rw [Nat.pow_succ]; omega
    have hq1 : a = 0 ∨ f.binade ≤ m * 2 ^ b := by
      by_cases h : a = 0
      · exact .inl h
      · refine .inr ?_
        have hb2 : b = f.fractionBits - m.log2 := by omega
        rw [hBe]
        calc 2 ^ f.fractionBits = 2 ^ m.log2 * 2 ^ b := by rw [← Nat.pow_add]; congr 1; omega
          _ ≤ m * 2 ^ b := Nat.mul_le_mul_right _ hself
    rw [Nat.min_eq_left, V_split f a _ hq2 hq1, hab, Nat.pow_add, Nat.mul_assoc]
    have : a * f.binade ≤ (p - f.leastPlace).toNat * f.binade := Nat.mul_le_mul_right _ (by omega)
    omega

theorem binade64 : FloatKind.f64.format.binade = 4503599627370496 := by decide
theorem inf64 : FloatKind.f64.format.infRung = 2047 * 4503599627370496 := by decide
theorem least64 : FloatKind.f64.format.leastPlace = -1074 := by decide

theorem V_pwr {e : Nat} (h : 1 ≤ e) : V FloatKind.f64.format (pwr e) = 2 ^ (51 + e) := by
  have e1 : pwr e = (e - 1) * FloatKind.f64.format.binade + FloatKind.f64.format.binade := by
    rw [binade64]; unfold pwr; omega
  rw [e1, V_split _ _ _ (by rw [binade64]; omega) (.inr (Nat.le_refl _))]
  rw [show FloatKind.f64.format.binade = 2 ^ 52 by decide, ← Nat.pow_add]
  congr 1; omega

theorem pwr_lt {e : Nat} (h : e < 2047) : pwr e < FloatKind.f64.format.infRung := by
  rw [inf64]; unfold pwr; omega

theorem pwr_le {a b : Nat} (h : a ≤ b) : pwr a ≤ pwr b := by unfold pwr; omega

theorem mulB {x y a b c : Nat} (hx : rung FloatKind.f64.format x ≤ pwr a) (hy : rung FloatKind.f64.format y ≤ pwr b) (h1 : 1 ≤ a) (h2 : 1 ≤ b) (ha : a < 2047) (hb : b < 2047) (hc : a + b ≤ 1023 + c) (hc1 : 1 ≤ c) (hc2 : c < 2047) :
    rung FloatKind.f64.format (fmul .f64 x y) ≤ pwr c := by
  refine Nat.le_trans (fmul_le hx hy (pwr_lt ha) (pwr_lt hb)) (rungOf_le_of _ (Nat.le_of_lt (pwr_lt hc2)) ?_)
  rw [V_pwr h1, V_pwr h2, V_pwr hc1, ← Nat.pow_add, least64, dle_iff (-2148) (by omega) (by omega)]
  rw [← Nat.pow_add, ← Nat.pow_add]
  exact Nat.pow_le_pow_right (by decide) (by omega)

theorem addB {x y a c : Nat} (hx : rung FloatKind.f64.format x ≤ pwr a) (hy : rung FloatKind.f64.format y ≤ pwr a) (h1 : 1 ≤ a) (hc : a + 1 ≤ c) (hc2 : c < 2047) :
    rung FloatKind.f64.format (fadd .f64 x y) ≤ pwr c := by
  refine Nat.le_trans (fadd_le hx hy (pwr_lt (by omega)) (pwr_lt (by omega))) (rungOf_le_of _ (Nat.le_of_lt (pwr_lt hc2)) ?_)
  rw [V_pwr h1, V_pwr (by omega), dle_same]
  have : 2 ^ (51 + a) + 2 ^ (51 + a) = 2 ^ (51 + a + 1) := by rw [Nat.pow_succ]; omega
  rw [this]
  exact Nat.pow_le_pow_right (by decide) (by omega)

theorem subB {x y a c : Nat} (hx : rung FloatKind.f64.format x ≤ pwr a) (hy : rung FloatKind.f64.format y ≤ pwr a) (h1 : 1 ≤ a) (hc : a + 1 ≤ c) (hc2 : c < 2047) :
    rung FloatKind.f64.format (fsub .f64 x y) ≤ pwr c := by
  refine Nat.le_trans (fsub_le hx hy (pwr_lt (by omega)) (pwr_lt (by omega))) (rungOf_le_of _ (Nat.le_of_lt (pwr_lt hc2)) ?_)
  rw [V_pwr h1, V_pwr (by omega), dle_same]
  have : 2 ^ (51 + a) + 2 ^ (51 + a) = 2 ^ (51 + a + 1) := by rw [Nat.pow_succ]; omega
  rw [this]
  exact Nat.pow_le_pow_right (by decide) (by omega)

theorem divB {x y a b c : Nat} (hx : rung FloatKind.f64.format x ≤ pwr a) (hy : fin .f64 y = true) (hy2 : pwr b ≤ rung FloatKind.f64.format y) (h1 : 1 ≤ a) (h2 : 1 ≤ b) (ha : a < 2047) (hc : a + 1023 ≤ b + c) (hc1 : 1 ≤ c) (hc2 : c < 2047) :
    rung FloatKind.f64.format (fdiv .f64 x y) ≤ pwr c := by
  refine fdiv_bnd hx (pwr_lt ha) hy hy2 (by unfold pwr; omega) (pwr_lt hc2) ?_
  rw [V_pwr h1, V_pwr h2, V_pwr hc1, least64, ← Nat.pow_add, ← Nat.pow_add]
  exact Nat.pow_le_pow_right (by decide) (by omega)

theorem rung_fneg {k : FloatKind} {x : Nat} (h : isNan k x = false) : rung k.format (fneg k x) = rung k.format x := by
  unfold fneg
  rw [if_neg (by rw [h]; simp)]
  have e : k.format.signWeight = 2 ^ (k.format.exponentBits + k.format.fractionBits) := by cases k <;> decide
  unfold rung Op.negFloat
  rw [e, Nat.xor_mod_two_pow, Nat.mod_self, Nat.xor_zero]

theorem fin_pwr {x a : Nat} (h : rung FloatKind.f64.format x ≤ pwr a) (ha : a < 2047) : fin .f64 x = true := fin_of h (pwr_lt ha)

theorem fits_pwr {x a : Nat} (h : rung FloatKind.f64.format x ≤ pwr a) (ha : a ≤ 1150) : cvtFits .f64 .f32 x = true :=
  fits_le (A := pwr 1150) (fun _ => Nat.le_trans h (pwr_le ha)) (by decide) (by decide +kernel)

theorem condB {c : Bool} {x y A : Nat} {f : Ieee.Format} (hx : rung f x ≤ A) (hy : rung f y ≤ A) : rung f (bif c then x else y) ≤ A := by cases c <;> assumption

/-! ### What is made whole -/

theorem trunc_facts {y : Nat} (hf : fin .f64 y = true) (hb : rung FloatKind.f64.format y < 4841369599423283200) :
    ∃ M : Nat, M < 4503599627370496 ∧ M * 2 ^ 1074 ≤ V FloatKind.f64.format (rung FloatKind.f64.format y) ∧ V FloatKind.f64.format (rung FloatKind.f64.format y) < (M + 1) * 2 ^ 1074 ∧
      fintg .zero y = FloatKind.f64.format.word (sgn FloatKind.f64.format y) (rungOf FloatKind.f64.format M 0) ∧
      ftoi .f64 .i64 y = some (if sgn FloatKind.f64.format y then -(M : Int) else M) := by
  obtain ⟨m, e, h1, h2, h3⟩ := read_of_fin hf
  have hcut : Ieee.Toward.zero.cut (sgn FloatKind.f64.format y) (m <<< e.toNat) (-e).toNat = m * 2 ^ e.toNat / 2 ^ (-e).toNat := by
    unfold Ieee.Toward.cut
    simp only [Bool.toNat_false, Nat.add_zero, Nat.shiftLeft_eq, Nat.one_mul]
    by_cases hd : (-e).toNat ≤ (m * 2 ^ e.toNat).log2 + 2
    · rw [Nat.min_eq_left hd]
    · rw [Nat.min_eq_right (by omega)]
      have hlt : m * 2 ^ e.toNat < 2 ^ ((m * 2 ^ e.toNat).log2 + 1) := Nat.lt_log2_self
      rw [Nat.div_eq_of_lt (Nat.lt_of_lt_of_le hlt (Nat.pow_le_pow_right (by decide) (by omega))), Nat.div_eq_of_lt (Nat.lt_of_lt_of_le hlt (Nat.pow_le_pow_right (by decide) (by omega)))]
  rw [least64] at h2 h3
  generalize hM : m * 2 ^ e.toNat / 2 ^ (-e).toNat = M at hcut
  have hVy := V_le FloatKind.f64.format (Nat.le_of_lt hb)
  have hV52 : V FloatKind.f64.format 4841369599423283200 = 4503599627370496 * 2 ^ 1074 := by decide +kernel
  have hVlt : V FloatKind.f64.format (rung FloatKind.f64.format y) < 4503599627370496 * 2 ^ 1074 := by
    rw [← hV52]; exact V_mono _ hb
  have hlow : M * 2 ^ 1074 ≤ V FloatKind.f64.format (rung FloatKind.f64.format y) ∧ V FloatKind.f64.format (rung FloatKind.f64.format y) < (M + 1) * 2 ^ 1074 := by
    rw [← h3, ← hM]
    by_cases he : 0 ≤ e
    · rw [show (-e).toNat = 0 by omega, Nat.pow_zero, Nat.div_one, show (e - -1074).toNat = e.toNat + 1074 by omega, Nat.pow_add]
      have := tp 1074
      constructor
      · rw [Nat.mul_assoc]; exact Nat.le_refl _
      · rw [Nat.add_mul, Nat.mul_assoc]; omega
    · rw [show e.toNat = 0 by omega, Nat.pow_zero, Nat.mul_one]
      generalize hd : (-e).toNat = d
      have e1 : (e - -1074).toNat + d = 1074 := by omega
      generalize (e - -1074).toNat = c at *
      subst hd
      rw [← e1, Nat.add_comm c, Nat.pow_add]
      have hdm := Nat.div_add_mod m (2 ^ (-e).toNat)
      have hml := Nat.mod_lt m (tp (-e).toNat)
      generalize 2 ^ (-e).toNat = D at *
      have hc := tp c
      constructor
      · rw [← Nat.mul_assoc]
        refine Nat.mul_le_mul_right _ ?_
        exact Nat.div_mul_le_self m D
      · rw [← Nat.mul_assoc]
        refine Nat.mul_lt_mul_of_pos_right ?_ hc
        rw [Nat.add_mul, Nat.one_mul, Nat.mul_comm]
        omega
  have hMlt : M < 4503599627370496 := by
    have h := Nat.lt_of_le_of_lt hlow.1 hVlt
    generalize 2 ^ 1074 = Z at h
    exact Nat.lt_of_mul_lt_mul_right h
  refine ⟨M, hMlt, hlow.1, hlow.2, ?_, ?_⟩
  · unfold fintg
    rw [if_neg (by rw [fin_not_nan hf]; simp)]
    have hd : FloatKind.f64.decode y = .number (sgn FloatKind.f64.format y) m e := h1
    rw [hd]
    show FloatKind.f64.format.nearest (sgn FloatKind.f64.format y) (Ieee.Toward.zero.cut (sgn FloatKind.f64.format y) (m <<< e.toNat) (-e).toNat) 0 = _
    rw [hcut, nearest_eq]
  · unfold ftoi floatToIntVal
    have hd : FloatKind.f64.decode y = .number (sgn FloatKind.f64.format y) m e := h1
    rw [hd]
    have ht : Ieee.Datum.toInt .zero (.number (sgn FloatKind.f64.format y) m e) = some (if sgn FloatKind.f64.format y then -(M : Int) else M) := by
      show some (Ieee.signed (sgn FloatKind.f64.format y) (Ieee.Toward.zero.cut (sgn FloatKind.f64.format y) (m <<< e.toNat) (-e).toNat) 0) = _
      rw [hcut, signed_eq]
      cases sgn FloatKind.f64.format y <;> simp
    rw [ht]
    have hmin : IntKind.i64.min = -9223372036854775808 := by decide
    have hmax : IntKind.i64.max = 9223372036854775807 := by decide
    simp only []
    rw [if_pos]
    rw [hmin, hmax]
    cases sgn FloatKind.f64.format y <;> simp <;> omega

/-- 'Trunc(y) + 0' is 'float64(int64(y))'; what is left of y is less than 1. -/
theorem trunc_same {y : Nat} (hf : fin .f64 y = true) (hb : rung FloatKind.f64.format y < 4841369599423283200) :
    (ftoi .f64 .i64 y).isSome = true ∧ fadd .f64 (fintg .zero y) 0 = fint .f64 ((ftoi .f64 .i64 y).getD 0) ∧ rung FloatKind.f64.format (fsub .f64 y (fadd .f64 (fintg .zero y) 0)) ≤ pwr 1023 := by
  obtain ⟨M, hM, hlo, hhi, h1, h2⟩ := trunc_facts hf hb
  rw [h2]
  refine ⟨rfl, ?_⟩
  have hV := rungOf_exact FloatKind.f64.format (m := M) (p := 0) (by rw [binade64]; omega) (by rw [least64]; omega) (by decide)
  rw [least64, show ((0 : Int) - -1074).toNat = 1074 by decide] at hV
  have hrl : rungOf FloatKind.f64.format M 0 ≤ rung FloatKind.f64.format y := by
    refine rungOf_le_of _ (Nat.le_of_lt (fin_lt hf)) ?_
    rw [least64, dle_iff (-1074) (by omega) (by omega), show ((0 : Int) - -1074).toNat = 1074 by decide, show ((-1074 : Int) - -1074).toNat = 0 by decide, Nat.pow_zero, Nat.mul_one]
    exact hlo
  have hr : rungOf FloatKind.f64.format M 0 < FloatKind.f64.format.infRung := Nat.lt_of_le_of_lt hrl (fin_lt hf)
  have hfi : fin .f64 (fintg .zero y) = true := by
    rw [h1]; exact fin_of (A := rungOf FloatKind.f64.format M 0) (by rw [rung_word .f64 _ (rungOf_le _ _ _)]; exact Nat.le_refl _) hr
  have hf0 : fin .f64 0 = true := by decide
  have hs0 : sgv FloatKind.f64.format 0 = 0 := by decide
  have hsT : sgv FloatKind.f64.format (fintg .zero y) = (if sgn FloatKind.f64.format y then -1 else 1) * ((M * 2 ^ 1074 : Nat) : Int) := by
    rw [h1, sgv_word .f64 _ (rungOf_le _ _ _), hV]
  have hnat : ((if sgn FloatKind.f64.format y then (-1 : Int) else 1) * ((M * 2 ^ 1074 : Nat) : Int)).natAbs = M * 2 ^ 1074 := by
    cases sgn FloatKind.f64.format y
    · simp only [Bool.false_eq_true, if_false, Int.one_mul, Int.natAbs_natCast]
    · simp only [if_true, Int.neg_mul, Int.one_mul, Int.natAbs_neg, Int.natAbs_natCast]
  have hsum : fadd .f64 (fintg .zero y) 0 = FloatKind.f64.format.word (if M = 0 then false else sgn FloatKind.f64.format y) (rungOf FloatKind.f64.format M 0) := by
    rw [fadd_fin hfi hf0, hs0, Int.add_zero, hsT, hnat, ← hV, rung_V _ (rungOf_le _ _ _), hV]
    congr 1
    have hz : sgn FloatKind.f64.format 0 = false := by decide
    rw [hz, Bool.and_false]
    have hp := tp 1074
    clear hV hsT hnat hlo hhi
    generalize 2 ^ 1074 = Z at *
    by_cases h0 : M = 0
    · subst h0
      rw [if_pos (by simp), if_pos rfl]
    · have hpos : 0 < M * Z := Nat.mul_pos (by omega) hp
      generalize M * Z = X at *
      rw [if_neg h0]
      cases sgn FloatKind.f64.format y
      · rw [if_neg (by simp; omega)]; simp
      · rw [if_neg (by simp; omega)]; simp; omega
  constructor
  · rw [hsum]
    show _ = FloatKind.f64.format.nearest (decide ((if sgn FloatKind.f64.format y then -(M : Int) else M) < 0)) (if sgn FloatKind.f64.format y then -(M : Int) else M).natAbs 0
    rw [nearest_eq]
    have e1 : (if sgn FloatKind.f64.format y then -(M : Int) else M).natAbs = M := by cases sgn FloatKind.f64.format y <;> simp
    rw [e1]
    congr 1
    by_cases h0 : M = 0
    · subst h0; rw [if_pos rfl]; cases sgn FloatKind.f64.format y <;> simp
    · rw [if_neg h0]; cases sgn FloatKind.f64.format y <;> simp <;> omega
  · have hfs : fin .f64 (fadd .f64 (fintg .zero y) 0) = true := by
      rw [hsum]; exact fin_of (A := rungOf FloatKind.f64.format M 0) (by rw [rung_word .f64 _ (rungOf_le _ _ _)]; exact Nat.le_refl _) hr
    have hsg : sgv FloatKind.f64.format (fadd .f64 (fintg .zero y) 0) = (if sgn FloatKind.f64.format y then -1 else 1) * ((M * 2 ^ 1074 : Nat) : Int) := by
      rw [hsum, sgv_word .f64 _ (rungOf_le _ _ _), hV]
      clear hV hsT hnat hlo hhi
      generalize 2 ^ 1074 = Z
      by_cases h0 : M = 0
      · subst h0; simp
      · rw [if_neg h0]
    rw [fsub_fin hf hfs, rung_word .f64 _ (rungOf_le _ _ _)]
    refine rungOf_le_of _ (Nat.le_of_lt (pwr_lt (by omega))) (dle_same.2 ?_)
    rw [V_pwr (by omega), show 51 + 1023 = 1074 by rfl, hsg, sgv_eq]
    have e1 : ∀ Z : Nat, (M + 1) * Z = M * Z + Z := fun Z => by rw [Nat.add_mul, Nat.one_mul]
    rw [e1] at hhi
    generalize V FloatKind.f64.format (rung FloatKind.f64.format y) = X at *
    generalize M * 2 ^ 1074 = Y at *
    generalize 2 ^ 1074 = Z at *
    cases sgn FloatKind.f64.format y <;> simp <;> omega

end Go.Proofs.Ytdmcpgbnomhahaa
