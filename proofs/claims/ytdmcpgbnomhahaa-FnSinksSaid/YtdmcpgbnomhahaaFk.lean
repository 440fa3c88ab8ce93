/-
  FnSinks: what the numbers that are drawn are; one step sinks. No conditions.
-/
import Derived.Test.YtdmcpgbnomhahaaLk
namespace Go.Proofs.Ytdmcpgbnomhahaa
set_option linter.unusedVariables false
set_option linter.unusedSimpArgs false
open Go.RowKit

/-! ### The drawn numbers -/
def dBa (y : Nat) : Nat := fdiv .f32 (fint .f32 ((y % 9 : Nat) : Int)) (canon .f32 1098907648)
def dSc (y : Nat) : Nat := fdiv .f32 (fint .f32 (IntKind.i64.wrap (1 + ((y % 8 : Nat) : Int)))) (canon .f32 1090519040)
def dDr (y : Nat) : Nat := fdiv .f32 (fint .f32 ((y % 9 : Nat) : Int)) (canon .f32 1090519040)
def dLo (ra a : Nat) : Nat := fadd .f32 ra (fdiv .f32 (fint .f32 (IntKind.i64.wrap (1 + ((a % 8 : Nat) : Int)))) (canon .f32 1090519040))
def sg (x : Nat) : Bool := sgn FloatKind.f32.format x
def rg (x : Nat) : Nat := rung FloatKind.f32.format x
theorem dMa_ok (y : Nat) : pos (dMa y) = true ∧ rg (dMa y) ≤ 1082130432 ∧ sg (dMa y) = false := by
  have h : ∀ i : Fin 8, pos (fdiv .f32 (fint .f32 (IntKind.i64.wrap (1 + ((i.val : Nat) : Int)))) 1073741824) = true ∧ rg (fdiv .f32 (fint .f32 (IntKind.i64.wrap (1 + ((i.val : Nat) : Int)))) 1073741824) ≤ 1082130432 ∧ sg (fdiv .f32 (fint .f32 (IntKind.i64.wrap (1 + ((i.val : Nat) : Int)))) 1073741824) = false := by decide +kernel
  exact h ⟨y % 8, Nat.mod_lt _ (by decide)⟩
theorem dRa_ok (y : Nat) : pos (dRa y) = true := by
  have h : ∀ i : Fin 8, pos (fdiv .f32 (fint .f32 (IntKind.i64.wrap (1 + ((i.val : Nat) : Int)))) 1090519040) = true := by decide +kernel
  exact h ⟨y % 8, Nat.mod_lt _ (by decide)⟩
theorem dSp_ok (y : Nat) : fin .f32 (dSp y) = true := by
  have h : ∀ i : Fin 17, fin .f32 (fdiv .f32 (fint .f32 (IntKind.i64.wrap (((i.val : Nat) : Int) - 8))) 1115684864) = true := by decide +kernel
  exact h ⟨y % 17, Nat.mod_lt _ (by decide)⟩
theorem dSt_ok (y : Nat) : fin .f32 (dSt y) = true := by
  have h : ∀ i : Fin 17, fin .f32 (fdiv .f32 (fint .f32 (IntKind.i64.wrap (((i.val : Nat) : Int) - 8))) 1098907648) = true := by decide +kernel
  exact h ⟨y % 17, Nat.mod_lt _ (by decide)⟩
theorem dBa_ok (y : Nat) : massB (dBa y) = true ∧ rg (dBa y) ≤ 1056964608 ∧ sg (dBa y) = false := by
  have h : ∀ i : Fin 9, massB (fdiv .f32 (fint .f32 ((i.val : Nat) : Int)) (canon .f32 1098907648)) = true ∧ rg (fdiv .f32 (fint .f32 ((i.val : Nat) : Int)) (canon .f32 1098907648)) ≤ 1056964608 ∧ sg (fdiv .f32 (fint .f32 ((i.val : Nat) : Int)) (canon .f32 1098907648)) = false := by decide +kernel
  exact h ⟨y % 9, Nat.mod_lt _ (by decide)⟩
theorem dDr_ok (y : Nat) : massB (dDr y) = true ∧ rg (dDr y) ≤ 1065353216 ∧ sg (dDr y) = false := by
  have h : ∀ i : Fin 9, massB (fdiv .f32 (fint .f32 ((i.val : Nat) : Int)) (canon .f32 1090519040)) = true ∧ rg (fdiv .f32 (fint .f32 ((i.val : Nat) : Int)) (canon .f32 1090519040)) ≤ 1065353216 ∧ sg (fdiv .f32 (fint .f32 ((i.val : Nat) : Int)) (canon .f32 1090519040)) = false := by decide +kernel
  exact h ⟨y % 9, Nat.mod_lt _ (by decide)⟩
theorem dSc_ok (y : Nat) : pos (dSc y) = true ∧ fgt .f32 (fneg .f32 (fdiv .f32 (canon .f32 0) (dSc y))) 1109393408 = false ∧ fgt .f32 (fneg .f32 (fdiv .f32 (canon .f32 1056964608) (dSc y))) 1109393408 = false ∧ fgt .f32 (fneg .f32 (fdiv .f32 (canon .f32 1065353216) (dSc y))) 1109393408 = false := by
  have h : ∀ i : Fin 8, pos (dSc i.val) = true ∧ fgt .f32 (fneg .f32 (fdiv .f32 (canon .f32 0) (dSc i.val))) 1109393408 = false ∧ fgt .f32 (fneg .f32 (fdiv .f32 (canon .f32 1056964608) (dSc i.val))) 1109393408 = false ∧ fgt .f32 (fneg .f32 (fdiv .f32 (canon .f32 1065353216) (dSc i.val))) 1109393408 = false := by decide +kernel
  have e : dSc y = dSc (y % 8) := by unfold dSc; rw [Nat.mod_mod]
  rw [e]
  exact h ⟨y % 8, Nat.mod_lt _ (by decide)⟩
theorem dLo_ok (y a : Nat) : fin .f32 (dLo (dRa y) a) = true ∧ fgt .f32 (dLo (dRa y) a) (dRa y) = true ∧ sgv FloatKind.f32.format (dLo (dRa y) a) ≤ sgv FloatKind.f32.format 1073741824 := by
  have h : ∀ i j : Fin 8, fin .f32 (dLo (dRa i.val) j.val) = true ∧ fgt .f32 (dLo (dRa i.val) j.val) (dRa i.val) = true ∧ sgv FloatKind.f32.format (dLo (dRa i.val) j.val) ≤ sgv FloatKind.f32.format 1073741824 := by decide +kernel
  have e : dRa y = dRa (y % 8) := by unfold dRa; rw [Nat.mod_mod]
  have e2 : ∀ r, dLo r a = dLo r (a % 8) := fun r => by unfold dLo; rw [Nat.mod_mod]
  rw [e, e2]
  exact h ⟨y % 8, Nat.mod_lt _ (by decide)⟩ ⟨a % 8, Nat.mod_lt _ (by decide)⟩

/-! ### Air at three heights -/
def gapc (a b : Nat) : Nat := fmax .f64 (fsub .f64 a b) (fsub .f64 b a)
def thc (hi ba sc : Nat) : Nat := fmul .f32 ba (exV (fneg .f32 (fdiv .f32 hi sc)))
theorem thc_eq (hi ba sc : Nat) : th hi ba sc = thc hi ba sc := rfl
def cn1 (ba sc : Nat) : Bool := fgt .f64 (gapc (fcvt .f32 .f64 (thc (canon .f32 0) ba sc)) (fcvt .f32 .f64 ba)) (canon .f64 4547007122018943789)
def cn2 (ba sc : Nat) : Bool := fgt .f32 (thc (canon .f32 1056964608) ba sc) (thc (canon .f32 0) ba sc)
def cn3 (ba sc : Nat) : Bool := fgt .f32 (thc (canon .f32 1065353216) ba sc) (thc (canon .f32 1056964608) ba sc)
def cn4 (ba sc : Nat) : Bool := fgt .f64 (gapc (fmul .f64 (fcvt .f32 .f64 (thc (canon .f32 1056964608) ba sc)) (fcvt .f32 .f64 (thc (canon .f32 1056964608) ba sc))) (fmul .f64 (fcvt .f32 .f64 (thc (canon .f32 0) ba sc)) (fcvt .f32 .f64 (thc (canon .f32 1065353216) ba sc)))) (canon .f64 4547007122018943789)
theorem air_ok (x y : Nat) : cn1 (dBa x) (dSc y) = false ∧ cn2 (dBa x) (dSc y) = false ∧ cn3 (dBa x) (dSc y) = false ∧ cn4 (dBa x) (dSc y) = false ∧ fin .f32 (thc (canon .f32 0) (dBa x) (dSc y)) = true ∧ fin .f32 (thc (canon .f32 1056964608) (dBa x) (dSc y)) = true ∧ fin .f32 (thc (canon .f32 1065353216) (dBa x) (dSc y)) = true := by
  have h : ∀ i : Fin 9, ∀ j : Fin 8, cn1 (dBa i.val) (dSc j.val) = false ∧ cn2 (dBa i.val) (dSc j.val) = false ∧ cn3 (dBa i.val) (dSc j.val) = false ∧ cn4 (dBa i.val) (dSc j.val) = false ∧ fin .f32 (thc (canon .f32 0) (dBa i.val) (dSc j.val)) = true ∧ fin .f32 (thc (canon .f32 1056964608) (dBa i.val) (dSc j.val)) = true ∧ fin .f32 (thc (canon .f32 1065353216) (dBa i.val) (dSc j.val)) = true := by decide +kernel
  have e : dBa x = dBa (x % 9) := by unfold dBa; rw [Nat.mod_mod]
  have e2 : dSc y = dSc (y % 8) := by unfold dSc; rw [Nat.mod_mod]
  rw [e, e2]
  exact h ⟨x % 9, Nat.mod_lt _ (by decide)⟩ ⟨y % 8, Nat.mod_lt _ (by decide)⟩

/-! ### The exponential is finite and not below zero -/
def E64 : Nat := sqA (sqA (sqA (sqA (sqA (sqA (sqA (sqA 4608589793683570688)))))))
theorem sqr_sg {x A : Nat} (h : rung FloatKind.f64.format x ≤ A) (hA : A < FloatKind.f64.format.infRung) : sgn FloatKind.f64.format (sqr x) = false := by
  unfold sqr
  rw [fmul_fin (fin_of h hA) (fin_of h hA), sgn_word .f64 _ (Nat.lt_of_le_of_lt (rungOf_le _ _ _) (inf_lt_sw .f64))]
  cases sgn FloatKind.f64.format x <;> rfl
theorem exF_rg {t : Nat} (ht : In t (-(V FloatKind.f64.format 4605212093963042816 : Int)) (V FloatKind.f64.format 4594797519824748544 : Int)) : rung FloatKind.f64.format (exF t) ≤ E64 ∧ sgn FloatKind.f64.format (exF t) = false := by
  have h0 : rung FloatKind.f64.format (exP t) ≤ 4608589793683570688 := (exP_in ht).rg (by decide +kernel) (Int.le_refl _)
  have h1 := sqr_le h0 (by decide +kernel)
  have h2 := sqr_le h1 (by decide +kernel)
  have h3 := sqr_le h2 (by decide +kernel)
  have h4 := sqr_le h3 (by decide +kernel)
  have h5 := sqr_le h4 (by decide +kernel)
  have h6 := sqr_le h5 (by decide +kernel)
  have h7 := sqr_le h6 (by decide +kernel)
  have h8 := sqr_le h7 (by decide +kernel)
  exact ⟨h8, sqr_sg h7 (by decide +kernel)⟩
theorem exW_rg {y : Nat} (hn : isNan .f64 y = false) (h : fgt .f64 y 4630826316843712512 = false) : rung FloatKind.f64.format (exW y) ≤ E64 ∧ sgn FloatKind.f64.format (exW y) = false := by
  unfold exW
  rw [feq_self, hn]
  show rung _ (bif fgt .f64 y 4641240890982006784 then _ else _) ≤ _ ∧ sgn _ (bif fgt .f64 y 4641240890982006784 then _ else _) = _
  rw [fgt_iff, hn, show isNan .f64 4630826316843712512 = false by decide +kernel, show sgv FloatKind.f64.format 4630826316843712512 = (V FloatKind.f64.format 4630826316843712512 : Int) by decide +kernel] at h
  simp only [Bool.not_false, Bool.true_and, decide_eq_false_iff_not, Int.not_lt] at h
  have hb : V FloatKind.f64.format 4630826316843712512 ≤ V FloatKind.f64.format 4641240890982006784 := V_le _ (by decide +kernel)
  have hg : fgt .f64 y 4641240890982006784 = false := by
    rw [fgt_iff, hn, show isNan .f64 4641240890982006784 = false by decide +kernel, show sgv FloatKind.f64.format 4641240890982006784 = (V FloatKind.f64.format 4641240890982006784 : Int) by decide +kernel]
    simp only [Bool.not_false, Bool.true_and, decide_eq_false_iff_not, Int.not_lt]
    omega
  rw [hg]
  cases hl : flt .f64 y 13864612927836782592 with
  | true => exact ⟨by show rung FloatKind.f64.format 0 ≤ _; decide +kernel, by show sgn FloatKind.f64.format 0 = false; decide +kernel⟩
  | false =>
    show rung _ (exF (fdiv .f64 y 4643211215818981376)) ≤ _ ∧ sgn _ (exF (fdiv .f64 y 4643211215818981376)) = _
    rw [flt_iff, hn, show isNan .f64 13864612927836782592 = false by decide +kernel, show sgv FloatKind.f64.format 13864612927836782592 = -(V FloatKind.f64.format 4641240890982006784 : Int) by decide +kernel] at hl
    simp only [Bool.not_false, Bool.true_and, decide_eq_false_iff_not, Int.not_lt] at hl
    have hr : rung FloatKind.f64.format y ≤ 4641240890982006784 := by
      unfold sgv at h hl
      rcases Nat.lt_or_ge 4641240890982006784 (rung FloatKind.f64.format y) with g | g
      · exfalso
        have hm := V_mono FloatKind.f64.format g
        generalize V FloatKind.f64.format (rung FloatKind.f64.format y) = X at *
        generalize V FloatKind.f64.format 4641240890982006784 = Y at *
        generalize V FloatKind.f64.format 4630826316843712512 = Z at *
        cases hs : sgn FloatKind.f64.format y <;> rw [hs] at h hl <;> simp only [Bool.false_eq_true, if_true, if_false] at h hl <;> omega
      · exact g
    have hi : In y (-(V FloatKind.f64.format 4641240890982006784 : Int)) (V FloatKind.f64.format 4630826316843712512 : Int) := ⟨fin_of hr (by decide +kernel), hl, h⟩
    exact exF_rg (In.div2 (D := 4643211215818981376) hi (by decide +kernel) (by decide +kernel) (by decide +kernel) (by decide +kernel) (by decide +kernel) (by decide +kernel) (by decide +kernel) (by decide +kernel) (by decide +kernel) (by decide +kernel))
def E32 : Nat := rungOf FloatKind.f32.format (V FloatKind.f64.format E64) FloatKind.f64.format.leastPlace
theorem exV_rg {x : Nat} (hn : isNan .f32 x = false) (h : fgt .f32 x 1109393408 = false) : rg (exV x) ≤ E32 ∧ sg (exV x) = false := by
  have e := fgt_wide x 1109393408
  rw [show fcvt .f32 .f64 1109393408 = 4630826316843712512 by decide +kernel] at e
  have hw := exW_rg (y := fcvt .f32 .f64 x) (by rw [isNan_cvt]; exact hn) (by rw [e, h])
  unfold exV rg sg
  refine ⟨fcvt_le (by decide) hw.1 (by decide +kernel), ?_⟩
  rw [fcvt_fin (by decide) (fin_of hw.1 (by decide +kernel)), sgn_word .f32 _ (Nat.lt_of_le_of_lt (rungOf_le _ _ _) (inf_lt_sw .f32))]
  exact hw.2

/-! ### The root -/
theorem fsqrt_sg {x : Nat} (hx : fin .f64 x = true) (hs : sgn FloatKind.f64.format x = false) : sgn FloatKind.f64.format (fsqrt x) = false := by
  obtain ⟨m, i, h1, h2, h3⟩ := read_of_fin hx
  rw [hs] at h1
  unfold fsqrt Ieee.Format.sqrt
  rw [h1]
  by_cases hm0 : m = 0
  · subst hm0
    have : Ieee.Datum.root (FloatKind.f64.format.fractionBits + 2) (.number false 0 i) = some (.number false 0 i) := by
      unfold Ieee.Datum.root; simp
    rw [this]
    exact sgn_nearest .f64 false 0 i
  · have hroot : ∃ (n : Nat) (p : Int), Ieee.Datum.root (FloatKind.f64.format.fractionBits + 2) (.number false m i) = some (.number false n p) := by
      unfold Ieee.Datum.root
      simp only [hm0, if_false, Bool.false_eq_true]
      exact ⟨_, _, rfl⟩
    obtain ⟨n, p, r4⟩ := hroot
    rw [r4]
    exact sgn_nearest .f64 false n p
theorem root_rg {x : Nat} (h : rg x ≤ 1090519040) (hs : sg x = false) : rg (rootV x) ≤ 1077936128 ∧ sg (rootV x) = false := by
  have hf : fin .f32 x = true := fin_of h (by decide)
  have h1 : rung FloatKind.f64.format (fcvt .f32 .f64 x) ≤ 4620693217682128896 := Nat.le_trans (fcvt_le (by decide) h (by decide)) (by decide +kernel)
  have hf1 : fin .f64 (fcvt .f32 .f64 x) = true := by rw [fin_wide]; exact hf
  have hs1 : sgn FloatKind.f64.format (fcvt .f32 .f64 x) = false := by rw [sgn_cvt (fin_not_nan hf) (by decide)]; exact hs
  have h2 : rung FloatKind.f64.format (fsqrt (fcvt .f32 .f64 x)) ≤ 4613937818241073152 := fsqrt_le hf1 hs1 (by decide) (Nat.le_trans (Nat.mul_le_mul_right _ (V_le _ h1)) (by decide +kernel))
  unfold rootV rg sg
  refine ⟨Nat.le_trans (fcvt_le (by decide) h2 (by decide)) (by decide +kernel), ?_⟩
  rw [fcvt_fin (by decide) (fin_of h2 (by decide)), sgn_word .f32 _ (Nat.lt_of_le_of_lt (rungOf_le _ _ _) (inf_lt_sw .f32))]
  exact fsqrt_sg hf1 hs1

/-! ### One step -/
def mA (A B : Nat) : Nat := rungOf FloatKind.f32.format (V FloatKind.f32.format A * V FloatKind.f32.format B) (2 * FloatKind.f32.format.leastPlace)
theorem mul_rg {x y A B : Nat} (hx : rg x ≤ A) (hy : rg y ≤ B) (sx : sg x = false) (sy : sg y = false) (hA : A < FloatKind.f32.format.infRung) (hB : B < FloatKind.f32.format.infRung) : rg (fmul .f32 x y) ≤ mA A B ∧ sg (fmul .f32 x y) = false := by
  refine ⟨fmul_le hx hy hA hB, ?_⟩
  unfold sg at *
  rw [fmul_fin (fin_of hx hA) (fin_of hy hB), sgn_word .f32 _ (Nat.lt_of_le_of_lt (rungOf_le _ _ _) (inf_lt_sw .f32)), sx, sy]; rfl
theorem fgt_sgv {x y : Nat} (hx : fin .f32 x = true) (hy : fin .f32 y = true) (h : fgt .f32 x y = true) : sgv FloatKind.f32.format y < sgv FloatKind.f32.format x := by
  rw [fgt_iff, fin_not_nan hx, fin_not_nan hy] at h
  simpa using h
theorem fgt_not {x y : Nat} (h : sgv FloatKind.f32.format x ≤ sgv FloatKind.f32.format y) : fgt .f32 x y = false := by
  rw [fgt_iff, decide_eq_false (by omega)]; simp
theorem gt_le {x y : Nat} (hx : fin .f32 x = true) (hy : fin .f32 y = true) : (!fgt .f32 x y) = fle .f32 x y := by
  rw [fgt_iff, fle_iff, fin_not_nan hx, fin_not_nan hy]
  simp only [Bool.not_false, Bool.true_and]
  rw [← decide_not]
  exact decide_eq_decide.2 Int.not_lt
/-- What is known of the number that sinks. -/
def Low (x : Nat) : Prop := fin .f32 x = true ∧ sgv FloatKind.f32.format x ≤ sgv FloatKind.f32.format 1073741824
structure Air (ma ra sp stt ba sc dr : Nat) : Prop where
  ma1 : rg ma ≤ 1082130432
  ma2 : sg ma = false
  ra0 : pos ra = true
  sc0 : pos sc = true
  ba1 : rg ba ≤ 1056964608
  ba2 : sg ba = false
  dr1 : rg dr ≤ 1065353216
  dr2 : sg dr = false
  air : airB ma ra sp stt dr ba sc (canon .f32 1048576000) = true
theorem fin_pos {x : Nat} (h : pos x = true) : fin .f32 x = true := (pos_sgv h).1
theorem skA_in {ra lo sc : Nat} (h1 : fin .f32 lo = true) (h2 : pos ra = true) (h3 : fgt .f32 lo ra = true) (h4 : pos sc = true) : isNan .f32 (skA ra lo sc) = false ∧ fgt .f32 (skA ra lo sc) 1109393408 = false := by
  unfold skA
  obtain ⟨hsf, hsg⟩ := pos_sgv h4
  obtain ⟨hrf, hrg⟩ := pos_sgv h2
  have g3 := fgt_sgv h1 hrf h3
  have hss : sgn FloatKind.f32.format sc = false := by
    unfold sgv at hsg
    cases hs : sgn FloatKind.f32.format sc with
    | false => rfl
    | true => rw [hs] at hsg; simp only [if_true] at hsg; omega
  have hs0 : V FloatKind.f32.format (rung FloatKind.f32.format sc) ≠ 0 := by
    unfold sgv at hsg
    rw [hss] at hsg; simp only [Bool.false_eq_true, if_false] at hsg; omega
  have hdf := fin_fsub_pos (k := .f32) h1 hrf (by omega) g3
  have hds := sgn_fsub_pos (k := .f32) h1 hrf g3
  obtain ⟨r, r1, r2⟩ := fdiv_word hdf hsf hs0
  have hqr : rung FloatKind.f32.format (fdiv .f32 (fsub .f32 lo ra) sc) ≤ FloatKind.f32.format.infRung := by rw [r2, rung_word .f32 _ r1]; exact r1
  have hqn : isNan .f32 (fdiv .f32 (fsub .f32 lo ra) sc) = false := by rw [isNan_iff]; exact decide_eq_false (by omega)
  have hqs : sgn FloatKind.f32.format (fdiv .f32 (fsub .f32 lo ra) sc) = false := by
    rw [r2, sgn_word .f32 _ (Nat.lt_of_le_of_lt r1 (inf_lt_sw .f32)), hds, hss]; rfl
  have hn := sgv_fneg (k := .f32) hqn
  have hn2 : isNan .f32 (fneg .f32 (fdiv .f32 (fsub .f32 lo ra) sc)) = false := by rw [isNan_iff, rung_fneg hqn]; exact decide_eq_false (by omega)
  have h40 : (0 : Int) < sgv FloatKind.f32.format 1109393408 := by decide +kernel
  refine ⟨hn2, ?_⟩
  rw [fgt_iff, hn2, show isNan .f32 1109393408 = false by decide +kernel, hn]
  simp only [Bool.not_false, Bool.true_and, decide_eq_false_iff_not, Int.not_lt]
  have hq0 : 0 ≤ sgv FloatKind.f32.format (fdiv .f32 (fsub .f32 lo ra) sc) := by
    unfold sgv; rw [hqs]; simp only [Bool.false_eq_true, if_false]; omega
  omega
theorem step_ok {ma ra sp stt ba sc dr now : Nat} (h : Air ma ra sp stt ba sc dr) (hl : Low now) (hg : fgt .f32 now ra = true) :
    skOk ma ra now dr ba sc (canon .f32 1048576000) = true ∧ Low (skX ma ra now dr ba sc (canon .f32 1048576000)) ∧ fgt .f32 (skX ma ra now dr ba sc (canon .f32 1048576000)) now = false := by
  obtain ⟨hf, h2⟩ := hl
  obtain ⟨hrf, hrg⟩ := pos_sgv h.ra0
  have g3 := fgt_sgv hf hrf hg
  have hns : sg now = false := by
    unfold sg
    have h9 : 0 < sgv FloatKind.f32.format now := by omega
    unfold sgv at h9
    cases hs : sgn FloatKind.f32.format now with
    | false => rfl
    | true => rw [hs] at h9; simp only [if_true] at h9; omega
  have hnr : rg now ≤ 1073741824 := by
    unfold rg
    rcases Nat.lt_or_ge 1073741824 (rung FloatKind.f32.format now) with g | g
    · exfalso
      have hm := V_mono FloatKind.f32.format g
      have e2 : sgv FloatKind.f32.format 1073741824 = (V FloatKind.f32.format 1073741824 : Int) := by decide +kernel
      have hns' : sgn FloatKind.f32.format now = false := hns
      rw [e2] at h2
      unfold sgv at h2
      rw [hns'] at h2
      simp only [Bool.false_eq_true, if_false] at h2
      omega
    · exact g
  have hdf := fin_fsub_pos (k := .f32) hf hrf (by omega) g3
  have hA := skA_in hf h.ra0 hg h.sc0
  have hE := exV_rg hA.1 hA.2
  have hT := mul_rg h.ba1 hE.1 h.ba2 hE.2 (by decide +kernel) (by decide +kernel)
  have hD := mul_rg (x := canon .f32 1048576000) (A := 1048576000) (by decide +kernel) h.dr1 (by decide +kernel) h.dr2 (by decide +kernel) (by decide +kernel)
  have hDT := mul_rg hD.1 hT.1 hD.2 hT.2 (by decide +kernel) (by decide +kernel)
  have hM := mul_rg h.ma1 hnr h.ma2 hns (by decide +kernel) (by decide +kernel)
  have hR := root_rg (Nat.le_trans hM.1 (by decide +kernel)) hM.2
  have hB := mul_rg hDT.1 hR.1 hDT.2 hR.2 (by decide +kernel) (by decide +kernel)
  have hthin : fin .f32 (thinV ra now ba sc) = true := fin_of hT.1 (by decide +kernel)
  have hbf : fin .f32 (fmul .f32 (fmul .f32 (fmul .f32 (canon .f32 1048576000) dr) (thinV ra now ba sc)) (rootV (fmul .f32 ma now))) = true := fin_of hB.1 (by decide +kernel)
  have hX := fsub_le (k := .f32) hnr hB.1 (by decide +kernel) (by decide +kernel)
  have hXf : fin .f32 (skX ma ra now dr ba sc (canon .f32 1048576000)) = true := fin_of hX (by decide +kernel)
  have hle : sgv FloatKind.f32.format (skX ma ra now dr ba sc (canon .f32 1048576000)) ≤ sgv FloatKind.f32.format now := by
    unfold skX
    rw [sgv_fsub hf hbf, ← rndI_word .f32 (x := now) (Nat.le_of_lt (fin_lt hf))]
    refine rndI_mono _ _ ?_
    have hb0 : 0 ≤ sgv FloatKind.f32.format (fmul .f32 (fmul .f32 (fmul .f32 (canon .f32 1048576000) dr) (thinV ra now ba sc)) (rootV (fmul .f32 ma now))) := by
      have hs : sgn FloatKind.f32.format (fmul .f32 (fmul .f32 (fmul .f32 (canon .f32 1048576000) dr) (thinV ra now ba sc)) (rootV (fmul .f32 ma now))) = false := hB.2
      unfold sgv
      rw [hs]; simp only [Bool.false_eq_true, if_false]; omega
    rw [rndI_word .f32 (x := now) (Nat.le_of_lt (fin_lt hf))]
    omega
  refine ⟨?_, ⟨hXf, Int.le_trans hle h2⟩, fgt_not hle⟩
  unfold skOk
  rw [hXf, hthin, hdf]; rfl

end Go.Proofs.Ytdmcpgbnomhahaa
