/-
  The logarithm: halving, doubling, bounds. No conditions.
-/
import Derived.Test.YtkjggmfblkkopaaDg
import Derived.Test.YtkjggmfblkkopaaEb
namespace Go.Proofs.Ytkjggmfblkkopaa
set_option linter.unusedVariables false
set_option linter.unusedSimpArgs false
open Go.RowKit

theorem V_pwr_ne {e : Nat} (h : 1 ≤ e) : V FloatKind.f64.format (pwr e) ≠ 0 := by
  rw [V_pwr h]; exact Nat.ne_of_gt (tp _)
theorem two_f : fin .f64 4611686018427387904 = true ∧ sgn FloatKind.f64.format 4611686018427387904 = false ∧ rung FloatKind.f64.format 4611686018427387904 = pwr 1024 := by decide +kernel
theorem c15_f : fin .f64 4609434218613702656 = true ∧ sgn FloatKind.f64.format 4609434218613702656 = false ∧ rung FloatKind.f64.format 4609434218613702656 = 4609434218613702656 := by decide +kernel
theorem c075_f : fin .f64 4604930618986332160 = true ∧ sgn FloatKind.f64.format 4604930618986332160 = false ∧ rung FloatKind.f64.format 4604930618986332160 = 4604930618986332160 := by decide +kernel
theorem one_f : fin .f64 4607182418800017408 = true ∧ sgn FloatKind.f64.format 4607182418800017408 = false ∧ rung FloatKind.f64.format 4607182418800017408 = pwr 1023 := by decide +kernel

def dnI (k y : Nat) : Prop := k ≤ 128 ∧ sgn FloatKind.f64.format y = false ∧ pwr 874 ≤ rung FloatKind.f64.format y ∧ rung FloatKind.f64.format y ≤ pwr (1023 + k)
def upI (k y : Nat) : Prop := k ≤ 149 ∧ sgn FloatKind.f64.format y = false ∧ pwr (1023 - k) ≤ rung FloatKind.f64.format y ∧ rung FloatKind.f64.format y ≤ 4609434218613702656
instance (k y : Nat) : Decidable (dnI k y) := by unfold dnI; infer_instance
instance (k y : Nat) : Decidable (upI k y) := by unfold upI; infer_instance
theorem dnI_fin {k y : Nat} (h : dnI k y) : fin .f64 y = true := fin_pwr h.2.2.2 (by have := h.1; omega)
theorem upI_fin {k y : Nat} (h : upI k y) : fin .f64 y = true := fin_of h.2.2.2 (by decide +kernel)
theorem dn_end {y : Nat} (h : dnI 0 y) : fge .f64 y 4609434218613702656 = false := by
  rw [fge_rung (dnI_fin h) c15_f.1 h.2.1 c15_f.2.1, c15_f.2.2]
  have := h.2.2.2
  unfold pwr at this
  exact decide_eq_false (by omega)
theorem dn_step {k y : Nat} (h : dnI (k + 1) y) (hb : fge .f64 y 4609434218613702656 = true) : dnI k (fdiv .f64 y 4611686018427387904) := by
  obtain ⟨h1, h2, h3, h4⟩ := h
  have hf := dnI_fin (k := k + 1) (y := y) ⟨h1, h2, h3, h4⟩
  rw [fge_rung hf c15_f.1 h2 c15_f.2.1, c15_f.2.2] at hb
  have hb := of_decide_eq_true hb
  obtain ⟨r, r1, r2⟩ := fdiv_word hf two_f.1 (by rw [two_f.2.2]; exact V_pwr_ne (by omega))
  refine ⟨by omega, ?_, ?_, ?_⟩
  · rw [r2, sgn_word .f64 _ (Nat.lt_of_le_of_lt r1 (inf_lt_sw .f64)), h2, two_f.2.1]; rfl
  · exact divL (b := 1023) (c := 1024) hf (by unfold pwr; omega) two_f.1 two_f.2.2 (by omega) (by omega) (by omega) (by omega) (by omega)
  · exact divB (a := 1023 + (k + 1)) (b := 1024) h4 two_f.1 (by rw [two_f.2.2]; exact Nat.le_refl _) (by omega) (by omega) (by omega) (by omega) (by omega) (by omega)
theorem up_start {k y : Nat} (h : dnI k y) (hb : fge .f64 y 4609434218613702656 = false) : upI 149 y := by
  have hf := dnI_fin h
  obtain ⟨h1, h2, h3, h4⟩ := h
  rw [fge_rung hf c15_f.1 h2 c15_f.2.1, c15_f.2.2] at hb
  have hb := of_decide_eq_false hb
  exact ⟨by omega, h2, h3, by omega⟩
theorem up_end {y : Nat} (h : upI 0 y) : flt .f64 y 4604930618986332160 = false := by
  rw [flt_rung (upI_fin h) c075_f.1 h.2.1 c075_f.2.1, c075_f.2.2]
  have := h.2.2.1
  unfold pwr at this
  exact decide_eq_false (by omega)
theorem up_step {k y : Nat} (h : upI (k + 1) y) (hb : flt .f64 y 4604930618986332160 = true) : upI k (fmul .f64 y 4611686018427387904) := by
  have hf := upI_fin h
  obtain ⟨h1, h2, h3, h4⟩ := h
  rw [flt_rung hf c075_f.1 h2 c075_f.2.1, c075_f.2.2] at hb
  have hb := of_decide_eq_true hb
  refine ⟨by omega, ?_, ?_, ?_⟩
  · rw [fmul_fin hf two_f.1, sgn_word .f64 _ (Nat.lt_of_le_of_lt (rungOf_le _ _ _) (inf_lt_sw .f64)), h2, two_f.2.1]; rfl
  · exact mulL (b := 1023 - (k + 1)) (c := 1024) hf h3 two_f.1 two_f.2.2 (by omega) (by omega) (by omega) (by omega) (by omega)
  · exact Nat.le_trans (fmul_le (A := 4604930618986332160) (B := pwr 1024) (Nat.le_of_lt hb) (by rw [two_f.2.2]; exact Nat.le_refl _) (by decide +kernel) (by decide +kernel)) (by decide +kernel)

/-! ### The exponent as a number -/
theorem e_up {e : Int} (h0 : 0 ≤ e) (h1 : e < 150) : fadd .f64 (fint .f64 e) 4607182418800017408 = fint .f64 (e + 1) := by
  have key : ∀ k : Nat, k < 150 → fadd .f64 (fint .f64 (k : Int)) 4607182418800017408 = fint .f64 ((k : Int) + 1) := by decide +kernel
  have := key e.toNat (by omega)
  rwa [Int.toNat_of_nonneg h0] at this
theorem e_dn {e : Int} (h0 : -150 ≤ e) (h1 : e < 150) : fsub .f64 (fint .f64 e) 4607182418800017408 = fint .f64 (e - 1) := by
  have key : ∀ k : Nat, k < 300 → fsub .f64 (fint .f64 ((k : Int) - 150)) 4607182418800017408 = fint .f64 ((k : Int) - 150 - 1) := by decide +kernel
  have := key (e + 150).toNat (by omega)
  rwa [Int.toNat_of_nonneg (by omega), show e + 150 - 150 = e by omega] at this
theorem e_bd {e : Int} (h0 : -150 ≤ e) (h1 : e ≤ 149) : rung FloatKind.f64.format (fint .f64 e) ≤ 4639481672377565184 := by
  have key : ∀ k : Nat, k < 300 → rung FloatKind.f64.format (fint .f64 ((k : Int) - 150)) ≤ 4639481672377565184 := by decide +kernel
  have := key (e + 150).toNat (by omega)
  rwa [Int.toNat_of_nonneg (by omega), show e + 150 - 150 = e by omega] at this

/-! ### The series -/
def lgS (y : Nat) : Nat := fdiv .f64 (fsub .f64 y 4607182418800017408) (fadd .f64 y 4607182418800017408)
def lgQs (u q : Nat) (k : Int) : Nat := fadd .f64 (fdiv .f64 4607182418800017408 (fint .f64 k)) (fmul .f64 u q)
def lgQ (u : Nat) : Nat := lgQs u (lgQs u (lgQs u (lgQs u (lgQs u (lgQs u (lgQs u (lgQs u (lgQs u (lgQs u (lgQs u (lgQs u (lgQs u 0 25) 23) 21) 19) 17) 15) 13) 11) 9) 7) 5) 3) 1
def lgT (y e : Nat) : Nat := fadd .f64 (fmul .f64 4611686018427387904 (fmul .f64 (lgS y) (lgQ (fmul .f64 (lgS y) (lgS y))))) (fmul .f64 e 4604418534313441775)
theorem lgQs_b {u q : Nat} {k : Int} (hu : rung FloatKind.f64.format u ≤ pwr 1021) (hq : rung FloatKind.f64.format q ≤ pwr 1024) (hk : rung FloatKind.f64.format (fdiv .f64 4607182418800017408 (fint .f64 k)) ≤ pwr 1023) : rung FloatKind.f64.format (lgQs u q k) ≤ pwr 1024 :=
  addB (a := 1023) hk (Nat.le_trans (mulB (c := 1022) hu hq (by omega) (by omega) (by omega) (by omega) (by omega) (by omega) (by omega)) (pwr_le (by omega))) (by omega) (by omega) (by omega)
theorem lgQ_b {u : Nat} (hu : rung FloatKind.f64.format u ≤ pwr 1021) : rung FloatKind.f64.format (lgQ u) ≤ pwr 1024 := by
  have hq0 : rung FloatKind.f64.format 0 ≤ pwr 1024 := by decide +kernel
  exact (lgQs_b hu (lgQs_b hu (lgQs_b hu (lgQs_b hu (lgQs_b hu (lgQs_b hu (lgQs_b hu (lgQs_b hu (lgQs_b hu (lgQs_b hu (lgQs_b hu (lgQs_b hu (lgQs_b hu hq0 (by decide +kernel)) (by decide +kernel)) (by decide +kernel)) (by decide +kernel)) (by decide +kernel)) (by decide +kernel)) (by decide +kernel)) (by decide +kernel)) (by decide +kernel)) (by decide +kernel)) (by decide +kernel)) (by decide +kernel)) (by decide +kernel))
theorem lgS_b {y : Nat} (hf : fin .f64 y = true) (hs : sgn FloatKind.f64.format y = false) (h1 : 4604930618986332160 ≤ rung FloatKind.f64.format y) (h2 : rung FloatKind.f64.format y ≤ 4609434218613702656) : rung FloatKind.f64.format (lgS y) ≤ pwr 1022 := by
  have hv : (V FloatKind.f64.format 4604930618986332160 : Int) ≤ sgv FloatKind.f64.format y ∧ sgv FloatKind.f64.format y ≤ V FloatKind.f64.format 4609434218613702656 := by
    have a := V_le FloatKind.f64.format h1; have b := V_le FloatKind.f64.format h2
    unfold sgv; rw [hs]; simp only [Bool.false_eq_true, if_false]; omega
  have ho : sgv FloatKind.f64.format 4607182418800017408 = V FloatKind.f64.format 4607182418800017408 := by decide +kernel
  have f1 : fin .f64 (fsub .f64 y 4607182418800017408) = true := fin_of (fsub_le (A := 4609434218613702656) (B := pwr 1023) h2 (by rw [one_f.2.2]; exact Nat.le_refl _) (by decide +kernel) (by decide +kernel)) (by decide +kernel)
  have f2 : fin .f64 (fadd .f64 y 4607182418800017408) = true := fin_of (fadd_le (A := 4609434218613702656) (B := pwr 1023) h2 (by rw [one_f.2.2]; exact Nat.le_refl _) (by decide +kernel) (by decide +kernel)) (by decide +kernel)
  have i1 : In (fsub .f64 y 4607182418800017408) (-(V FloatKind.f64.format (pwr 1022) : Int)) (V FloatKind.f64.format (pwr 1022) : Int) := by
    refine ⟨f1, ?_, ?_⟩
    · rw [sgv_fsub hf one_f.1, ho]
      exact Int.le_trans (by decide +kernel) (rndI_mono _ _ (show (V FloatKind.f64.format 4604930618986332160 : Int) - V FloatKind.f64.format 4607182418800017408 ≤ _ by omega))
    · rw [sgv_fsub hf one_f.1, ho]
      exact Int.le_trans (rndI_mono _ _ (show _ ≤ (V FloatKind.f64.format 4609434218613702656 : Int) - V FloatKind.f64.format 4607182418800017408 by omega)) (by decide +kernel)
  have i2 : (V FloatKind.f64.format (pwr 1023) : Int) ≤ sgv FloatKind.f64.format (fadd .f64 y 4607182418800017408) := by
    rw [sgv_fadd hf one_f.1, ho]
    exact Int.le_trans (by decide +kernel) (rndI_mono _ _ (show (V FloatKind.f64.format 4604930618986332160 : Int) + V FloatKind.f64.format 4607182418800017408 ≤ _ by omega))
  have hp : 0 < V FloatKind.f64.format (pwr 1023) := by decide +kernel
  have i3 : pwr 1023 ≤ rung FloatKind.f64.format (fadd .f64 y 4607182418800017408) := by
    rcases Nat.lt_or_ge (rung FloatKind.f64.format (fadd .f64 y 4607182418800017408)) (pwr 1023) with g | g
    · have := V_mono FloatKind.f64.format g
      unfold sgv at i2
      generalize V FloatKind.f64.format (pwr 1023) = P at *
      generalize V FloatKind.f64.format (rung FloatKind.f64.format (fadd .f64 y 4607182418800017408)) = Z at *
      cases h9 : sgn FloatKind.f64.format (fadd .f64 y 4607182418800017408) <;> rw [h9] at i2 <;> simp only [if_true, if_false, Bool.false_eq_true] at i2 <;> omega
    · exact g
  exact divB (a := 1022) (b := 1023) (i1.rg (Int.le_refl _) (Int.le_refl _)) f2 i3 (by omega) (by omega) (by omega) (by omega) (by omega) (by omega)
theorem lgT_b {y : Nat} {e : Int} (hf : fin .f64 y = true) (hs : sgn FloatKind.f64.format y = false) (h1 : 4604930618986332160 ≤ rung FloatKind.f64.format y) (h2 : rung FloatKind.f64.format y ≤ 4609434218613702656) (h3 : -150 ≤ e) (h4 : e ≤ 149) : rung FloatKind.f64.format (lgT y (fint .f64 e)) ≤ 4637159503819702272 := by
  have a1 := lgS_b hf hs h1 h2
  have a2 := mulB (c := 1021) a1 a1 (by omega) (by omega) (by omega) (by omega) (by omega) (by omega) (by omega)
  have a3 := lgQ_b a2
  have a4 := mulB (c := 1023) a1 a3 (by omega) (by omega) (by omega) (by omega) (by omega) (by omega) (by omega)
  have a5 := mulB (x := 4611686018427387904) (a := 1024) (c := 1024) (by rw [two_f.2.2]; exact Nat.le_refl _) a4 (by omega) (by omega) (by omega) (by omega) (by omega) (by omega) (by omega)
  have a6 := fmul_le (k := .f64) (y := 4604418534313441775) (A := 4639481672377565184) (B := 4604418534313441775) (e_bd h3 h4) (by decide +kernel) (by decide +kernel) (by decide +kernel)
  exact Nat.le_trans (fadd_le a5 a6 (by decide +kernel) (by decide +kernel)) (by decide +kernel)

/-! ### As a 32-bit number -/
theorem lg_fits {w : Nat} (h : rung FloatKind.f64.format w ≤ 4637159503819702272) : cvtFits .f64 .f32 w = true := fits_le (A := 4637159503819702272) (fun _ => h) (by decide +kernel) (by decide +kernel)
theorem third_le {x : Nat} (h : rung FloatKind.f32.format x ≤ 1121189888) : fgt .f32 (fdiv .f32 x 1077936128) 1109393408 = false := by
  have hb : rung FloatKind.f32.format (fdiv .f32 x 1077936128) ≤ 1109393408 := fdiv_bnd (A := 1121189888) (D := 1077936128) h (by decide +kernel) (by decide +kernel) (by decide +kernel) (by decide +kernel) (by decide +kernel) (by decide +kernel)
  rw [fgt_iff, show sgv FloatKind.f32.format 1109393408 = V FloatKind.f32.format 1109393408 by decide +kernel]
  have hv := V_le FloatKind.f32.format hb
  have : ¬ ((V FloatKind.f32.format 1109393408 : Int) < sgv FloatKind.f32.format (fdiv .f32 x 1077936128)) := by
    unfold sgv
    split <;> omega
  rw [decide_eq_false this, Bool.and_false]
theorem lg_third {w : Nat} (h : rung FloatKind.f64.format w ≤ 4637159503819702272) : exOk (fdiv .f32 (fcvt .f64 .f32 w) 1077936128) = true :=
  exOk_of (third_le (Nat.le_trans (fcvt_le (by decide) h (by decide +kernel)) (by decide +kernel)))

/-! ### A widened number that is above zero -/
theorem wide_dn {x : Nat} (hf : fin .f32 x = true) (hp : fgt .f32 x 0 = true) : dnI 128 (fcvt .f32 .f64 x) := by
  have hn := fin_not_nan hf
  rw [fgt_iff, hn, show isNan .f32 0 = false by decide +kernel, show sgv FloatKind.f32.format 0 = 0 by decide +kernel] at hp
  simp only [Bool.not_false, Bool.true_and, decide_eq_true_eq] at hp
  have hs : sgn FloatKind.f32.format x = false := by
    unfold sgv at hp
    cases h : sgn FloatKind.f32.format x with
    | false => rfl
    | true => rw [h] at hp; simp only [if_true] at hp; omega
  have h1 : 1 ≤ V FloatKind.f32.format (rung FloatKind.f32.format x) := by
    unfold sgv at hp; rw [hs] at hp; simp only [Bool.false_eq_true, if_false] at hp; omega
  refine ⟨Nat.le_refl _, by rw [sgn_wide hn]; exact hs, ?_, ?_⟩
  · rw [fcvt_fin (by decide) hf, rung_word .f64 _ (rungOf_le _ _ _)]
    refine Nat.le_trans (show pwr 874 ≤ rungOf FloatKind.f64.format 1 FloatKind.f32.format.leastPlace by decide +kernel) (rung_mono _ (dle_same.2 h1))
  · refine Nat.le_trans (fcvt_le (by decide) (A := 2139095039) ?_ (by decide +kernel)) (by decide +kernel)
    have := fin_lt hf
    have e2 : FloatKind.f32.format.infRung = 2139095040 := by decide
    omega

end Go.Proofs.Ytkjggmfblkkopaa
