/-
  A turn without whole ones is finite; the floor of a wide single is narrowed. No conditions.
-/
import Derived.Test.YtkjggmfblkkopaaFr
import Derived.Test.YtkjggmfblkkopaaFp
import Derived.Test.YtkjggmfblkkopaaWd
namespace Go.Proofs.Ytkjggmfblkkopaa
set_option linter.unusedVariables false
set_option linter.unusedSimpArgs false
open Go.RowKit

theorem cut_down_le (neg : Bool) {n d K : Nat} (h : n ≤ K * 2 ^ d) : Ieee.Toward.down.cut neg n d ≤ K := by
  unfold Ieee.Toward.cut
  simp only [Nat.shiftLeft_eq, Nat.one_mul]
  have hb : (neg && n % 2 ^ min d (n.log2 + 2) != 0).toNat ≤ if n % 2 ^ min d (n.log2 + 2) = 0 then 0 else 1 := by
    by_cases h0 : n % 2 ^ min d (n.log2 + 2) = 0
    · rw [h0]; cases neg <;> simp
    · rw [if_neg h0]; exact Bool.toNat_le _
  refine Nat.le_trans (Nat.add_le_add_left hb _) ?_
  by_cases hd : d ≤ n.log2 + 2
  · rw [Nat.min_eq_left hd]
    have hp := tp d
    have hdm := Nat.div_add_mod n (2 ^ d)
    generalize 2 ^ d = D at *
    by_cases h0 : n % D = 0
    · rw [if_pos h0]
      exact Nat.div_le_of_le_mul (by rw [Nat.mul_comm]; exact h)
    · rw [if_neg h0]
      have : n / D < K := by
        refine Nat.lt_of_mul_lt_mul_left (a := D) ?_
        rw [Nat.mul_comm D K]
        omega
      omega
  · rw [Nat.min_eq_right (by omega)]
    have hlt : n < 2 ^ (n.log2 + 1) := Nat.lt_log2_self
    have hlt2 : n < 2 ^ (n.log2 + 2) := Nat.lt_of_lt_of_le hlt (Nat.pow_le_pow_right (by decide) (by omega))
    rw [Nat.div_eq_of_lt hlt2, Nat.mod_eq_of_lt hlt2]
    by_cases h0 : n = 0
    · rw [if_pos h0]; omega
    · rw [if_neg h0]
      have : K ≠ 0 := fun hK => by subst hK; rw [Nat.zero_mul] at h; omega
      omega

theorem floor_facts {y K : Nat} (hf : fin .f64 y = true) (hK : V FloatKind.f64.format (rung FloatKind.f64.format y) ≤ K * 2 ^ 1074) :
    ∃ M, M ≤ K ∧ fintg .down y = FloatKind.f64.format.word (sgn FloatKind.f64.format y) (rungOf FloatKind.f64.format M 0) := by
  obtain ⟨m, e, h1, h2, h3⟩ := read_of_fin hf
  rw [least64] at h2 h3
  refine ⟨Ieee.Toward.down.cut (sgn FloatKind.f64.format y) (m <<< e.toNat) (-e).toNat, cut_down_le _ ?_, ?_⟩
  · rw [← h3] at hK
    rw [Nat.shiftLeft_eq]
    exact (shift_le (show (e - -1074).toNat + (-e).toNat = e.toNat + 1074 by omega)).1 hK
  · unfold fintg
    rw [if_neg (by rw [fin_not_nan hf]; simp)]
    have hd : FloatKind.f64.decode y = .number (sgn FloatKind.f64.format y) m e := h1
    rw [hd]
    show FloatKind.f64.format.nearest (sgn FloatKind.f64.format y) (Ieee.Toward.down.cut (sgn FloatKind.f64.format y) (m <<< e.toNat) (-e).toNat) 0 = _
    rw [nearest_eq]

theorem inf32 : FloatKind.f32.format.infRung = 2139095040 := by decide
theorem max_rung {x : Nat} (h : fin .f32 x = true) : rung FloatKind.f32.format x ≤ 2139095039 := by
  have := fin_lt h; rw [inf32] at this; omega

/-- The floor of a single, narrowed: it fits, has the single's sign, and is not past K where the single is not. -/
theorem floor32 {z : Nat} (hz : fin .f32 z = true) :
    cvtFits .f64 .f32 (fintg .down (fcvt .f32 .f64 z)) = true ∧ fin .f32 (fcvt .f64 .f32 (fintg .down (fcvt .f32 .f64 z))) = true ∧
      sgn FloatKind.f32.format (fcvt .f64 .f32 (fintg .down (fcvt .f32 .f64 z))) = sgn FloatKind.f32.format z ∧
      (V FloatKind.f32.format (rung FloatKind.f32.format z) ≤ 2 ^ 149 → rung FloatKind.f32.format (fcvt .f64 .f32 (fintg .down (fcvt .f32 .f64 z))) ≤ 1065353216) := by
  have hy : fin .f64 (fcvt .f32 .f64 z) = true := by rw [fin_wide]; exact hz
  have hV := V_wide hz
  have hs : sgn FloatKind.f64.format (fcvt .f32 .f64 z) = sgn FloatKind.f32.format z := sgn_wide (fin_not_nan hz)
  have gen : ∀ K A B : Nat, V FloatKind.f64.format (rung FloatKind.f64.format (fcvt .f32 .f64 z)) ≤ K * 2 ^ 1074 → rungOf FloatKind.f64.format K 0 ≤ A → A < FloatKind.f64.format.infRung →
      rungOf FloatKind.f32.format (V FloatKind.f64.format A) FloatKind.f64.format.leastPlace ≤ B → B < FloatKind.f32.format.infRung →
      cvtFits .f64 .f32 (fintg .down (fcvt .f32 .f64 z)) = true ∧ rung FloatKind.f32.format (fcvt .f64 .f32 (fintg .down (fcvt .f32 .f64 z))) ≤ B ∧
      sgn FloatKind.f32.format (fcvt .f64 .f32 (fintg .down (fcvt .f32 .f64 z))) = sgn FloatKind.f32.format z := by
    intro K A B h1 h2 h3 h4 h5
    obtain ⟨M, hM, hF⟩ := floor_facts hy h1
    have hr : rung FloatKind.f64.format (fintg .down (fcvt .f32 .f64 z)) ≤ A := by
      rw [hF, rung_word .f64 _ (rungOf_le _ _ _)]
      exact Nat.le_trans (rung_mono _ (dle_same.2 hM)) h2
    have hle := Nat.le_trans (fcvt_le (s := .f64) (k := .f32) (by decide) hr h3) h4
    refine ⟨fits_of fun _ => fin_of hle h5, hle, ?_⟩
    rw [sgn_cvt (fin_not_nan (fin_of hr h3)) (by decide), hF, sgn_word .f64 _ (Nat.lt_of_le_of_lt (rungOf_le _ _ _) (inf_lt_sw .f64)), hs]
  have hmx : V FloatKind.f64.format (rung FloatKind.f64.format (fcvt .f32 .f64 z)) ≤ 340282346638528859811704183484516925440 * 2 ^ 1074 := by
    rw [hV]
    have h1 := V_le FloatKind.f32.format (max_rung hz)
    have h2 : V FloatKind.f32.format 2139095039 * 2 ^ 925 = 340282346638528859811704183484516925440 * 2 ^ 1074 := by decide +kernel
    rw [← h2]
    exact Nat.mul_le_mul_right _ h1
  obtain ⟨g1, g2, g3⟩ := gen 340282346638528859811704183484516925440 (rungOf FloatKind.f64.format 340282346638528859811704183484516925440 0) 2139095039 hmx (Nat.le_refl _) (by decide +kernel) (by decide +kernel) (by decide)
  refine ⟨g1, fin_of g2 (by decide), g3, fun h => ?_⟩
  refine (gen 1 (rungOf FloatKind.f64.format 1 0) 1065353216 ?_ (Nat.le_refl _) (by decide +kernel) (by decide +kernel) (by decide)).2.1
  have h2 : 1 * 2 ^ 1074 = 2 ^ 149 * 2 ^ 925 := by decide +kernel
  rw [hV, h2]
  generalize (2 : Nat) ^ 925 = Z
  exact Nat.mul_le_mul_right _ h

def wHalf (x : Nat) : Nat := fadd .f32 x 1056964608
def wFloor (x : Nat) : Nat := fcvt .f64 .f32 (fintg .down (fcvt .f32 .f64 (wHalf x)))
def wOne (x : Nat) : Nat := bif flt .f32 (fsub .f32 x (wFloor x)) 3204448256 then fadd .f32 (fsub .f32 x (wFloor x)) 1065353216 else fsub .f32 x (wFloor x)
def wrapV (x : Nat) : Nat := bif !flt .f32 (wOne x) 1056964608 then 3204448256 else wOne x

theorem fin_half {x : Nat} (hx : fin .f32 x = true) : fin .f32 (wHalf x) = true :=
  fin_of (A := 2139095039) (Nat.le_trans (fadd_le (A := 2139095039) (B := 1056964608) (max_rung hx) (by decide) (by decide) (by decide)) (by decide +kernel)) (by decide)

theorem not_low {k : FloatKind} {u B : Nat} (hn : isNan k u = false) (hB : B < k.format.infRung) (h : -(V k.format B : Int) ≤ sgv k.format u) {c : Nat} (hc : fin k c = true) (hl : flt k u c = true) : fin k u = true := by
  rw [flt_iff] at hl
  have h2 : sgv k.format u < sgv k.format c := by
    simp only [Bool.and_eq_true, decide_eq_true_eq] at hl
    exact hl.2
  cases hf : fin k u with
  | true => rfl
  | false =>
    exfalso
    have hr := inf_rung hn hf
    have h3 := V_mono k.format hB
    have h4 := V_mono k.format (fin_lt hc)
    have eu := sgv_eq k.format u
    have ec := sgv_eq k.format c
    rw [hr] at eu
    cases hsu : sgn k.format u with
    | true => rw [hsu] at eu; simp at eu; omega
    | false =>
      rw [hsu] at eu
      cases hsc : sgn k.format c <;> rw [hsc] at ec <;> simp at eu ec <;> omega

theorem wrap_fin {x : Nat} (hx : fin .f32 x = true) : fin .f32 (wrapV x) = true := by
  obtain ⟨_, hN, hs, hone⟩ := floor32 (fin_half hx)
  have hN : fin .f32 (wFloor x) = true := hN
  have hd : -(V FloatKind.f32.format 2139095039 : Int) ≤ sgv FloatKind.f32.format x - sgv FloatKind.f32.format (wFloor x) := by
    have hVx := V_le FloatKind.f32.format (max_rung hx)
    have hVN := V_le FloatKind.f32.format (max_rung hN)
    have hsN : sgn FloatKind.f32.format (wFloor x) = sgn FloatKind.f32.format (wHalf x) := hs
    have eN := sgv_eq FloatKind.f32.format (wFloor x)
    have ex := sgv_eq FloatKind.f32.format x
    have hVN : V FloatKind.f32.format (rung FloatKind.f32.format (wFloor x)) ≤ V FloatKind.f32.format 2139095039 := hVN
    rw [hsN] at eN
    cases hh : sgn FloatKind.f32.format (wHalf x) with
    | true =>
      rw [hh] at eN
      cases hsx : sgn FloatKind.f32.format x <;> rw [hsx] at ex <;> simp at ex eN <;> omega
    | false =>
      rw [hh] at eN
      cases hsx : sgn FloatKind.f32.format x with
      | false => rw [hsx] at ex; simp at ex eN; omega
      | true =>
        -- x is not less than -1/2
        have hH : sgv FloatKind.f32.format 1056964608 = ((2 ^ 148 : Nat) : Int) := by decide +kernel
        have hfh : fin .f32 1056964608 = true := by decide
        have hz := fadd_fin hx hfh
        rw [hH] at hz
        have hlow : -((2 ^ 148 : Nat) : Int) ≤ sgv FloatKind.f32.format x := by
          have h1 : sgn FloatKind.f32.format (fadd .f32 x 1056964608) = false := hh
          rw [hz, sgn_word .f32 _ (Nat.lt_of_le_of_lt (rungOf_le _ _ _) (inf_lt_sw .f32))] at h1
          generalize ((2 ^ 148 : Nat) : Int) = Z at *
          by_cases h0 : sgv FloatKind.f32.format x + Z = 0
          · omega
          · rw [if_neg h0] at h1
            have := of_decide_eq_false h1
            omega
        have hzs := sgv_fadd hx hfh
        have hup : rndI FloatKind.f32.format FloatKind.f32.format.leastPlace (sgv FloatKind.f32.format x + sgv FloatKind.f32.format 1056964608) ≤ rndI FloatKind.f32.format FloatKind.f32.format.leastPlace (sgv FloatKind.f32.format 1056964608) := by
          refine rndI_mono _ _ ?_
          rw [hsx] at ex
          simp at ex
          omega
        rw [← hzs, rndI_word .f32 (by decide), hH] at hup
        have hVz : V FloatKind.f32.format (rung FloatKind.f32.format (wHalf x)) ≤ 2 ^ 149 := by
          have e2 := sgv_eq FloatKind.f32.format (wHalf x)
          rw [hh] at e2
          have h5 : sgv FloatKind.f32.format (wHalf x) ≤ ((2 ^ 148 : Nat) : Int) := hup
          rw [e2] at h5
          simp only [Bool.false_eq_true, if_false, Int.one_mul] at h5
          have : (2 : Nat) ^ 148 ≤ 2 ^ 149 := Nat.pow_le_pow_right (by decide) (by decide)
          omega
        have hr := V_le FloatKind.f32.format (hone hVz)
        have hr : V FloatKind.f32.format (rung FloatKind.f32.format (wFloor x)) ≤ V FloatKind.f32.format 1065353216 := hr
        have hc : V FloatKind.f32.format 1065353216 + 2 ^ 148 ≤ V FloatKind.f32.format 2139095039 := by decide +kernel
        have hsum := Nat.le_trans (Nat.add_le_add_right hr _) hc
        clear hr hc
        simp only [Bool.false_eq_true, if_false, Int.one_mul] at eN
        omega
  have hfmax : (-(V FloatKind.f32.format 2139095039 : Int)) = sgv FloatKind.f32.format 4286578687 := by
    have h1 : sgn FloatKind.f32.format 4286578687 = true := by decide
    have h2 : rung FloatKind.f32.format 4286578687 = 2139095039 := by decide
    rw [sgv_eq, h1, h2]; simp
  have hn1 : isNan .f32 (fsub .f32 x (wFloor x)) = false := by
    rw [fsub_fin hx hN]
    rw [isNan_iff, rung_word .f32 _ (rungOf_le _ _ _)]
    have := rungOf_le FloatKind.f32.format (sgv FloatKind.f32.format x - sgv FloatKind.f32.format (wFloor x)).natAbs FloatKind.f32.format.leastPlace
    exact decide_eq_false (by omega)
  have hl1 : -(V FloatKind.f32.format 2139095039 : Int) ≤ sgv FloatKind.f32.format (fsub .f32 x (wFloor x)) := by
    rw [sgv_fsub hx hN]
    have h := rndI_mono FloatKind.f32.format FloatKind.f32.format.leastPlace hd
    rw [hfmax, rndI_word .f32 (by decide), ← hfmax] at h
    exact h
  unfold wrapV
  cases hl : flt .f32 (wOne x) 1056964608 with
  | false => show fin .f32 3204448256 = true; decide
  | true =>
    show fin .f32 (wOne x) = true
    unfold wOne at hl ⊢
    cases hq : flt .f32 (fsub .f32 x (wFloor x)) 3204448256 with
    | false =>
      rw [hq] at hl
      exact not_low hn1 (by decide) hl1 (by decide) hl
    | true =>
      rw [hq] at hl
      have hf1 := not_low hn1 (by decide) hl1 (by decide) hq
      have hf2 : fin .f32 1065353216 = true := by decide
      refine not_low (B := 2139095039) ?_ (by decide) ?_ (by decide) hl
      · show isNan .f32 (fadd .f32 _ _) = false
        rw [fadd_fin hf1 hf2, isNan_iff, rung_word .f32 _ (rungOf_le _ _ _)]
        have := rungOf_le FloatKind.f32.format (sgv FloatKind.f32.format (fsub .f32 x (wFloor x)) + sgv FloatKind.f32.format 1065353216).natAbs FloatKind.f32.format.leastPlace
        exact decide_eq_false (by omega)
      · show _ ≤ sgv _ (fadd .f32 _ _)
        rw [sgv_fadd hf1 hf2]
        have h9 : (0 : Int) ≤ sgv FloatKind.f32.format 1065353216 := by decide +kernel
        have h := rndI_mono FloatKind.f32.format FloatKind.f32.format.leastPlace (show -(V FloatKind.f32.format 2139095039 : Int) ≤ sgv FloatKind.f32.format (fsub .f32 x (wFloor x)) + sgv FloatKind.f32.format 1065353216 by omega)
        rw [hfmax, rndI_word .f32 (by decide), ← hfmax] at h
        exact h

end Go.Proofs.Ytkjggmfblkkopaa
