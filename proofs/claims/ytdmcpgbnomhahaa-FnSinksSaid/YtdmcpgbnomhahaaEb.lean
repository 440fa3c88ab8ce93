/-
  The exponential series: bounds. No conditions.
-/
import Derived.Test.YtdmcpgbnomhahaaIv
import Derived.Test.YtdmcpgbnomhahaaWd
namespace Go.Proofs.Ytdmcpgbnomhahaa
set_option linter.unusedVariables false
set_option linter.unusedSimpArgs false
open Go.RowKit

theorem In.div2 {x y A1 A2 B1 B2 D : Nat} (hx : In x (-(V FloatKind.f64.format A1 : Int)) (V FloatKind.f64.format A2 : Int)) (hA1 : A1 < FloatKind.f64.format.infRung) (hA2 : A2 < FloatKind.f64.format.infRung) (hy : fin .f64 y = true) (hs : sgn FloatKind.f64.format y = false) (hD : D ≤ rung FloatKind.f64.format y) (hD0 : 0 < D) (hB1 : B1 < FloatKind.f64.format.infRung) (hB2 : B2 < FloatKind.f64.format.infRung)
    (h1 : V FloatKind.f64.format A1 * 2 ^ (- FloatKind.f64.format.leastPlace).toNat ≤ V FloatKind.f64.format B1 * V FloatKind.f64.format D) (h2 : V FloatKind.f64.format A2 * 2 ^ (- FloatKind.f64.format.leastPlace).toNat ≤ V FloatKind.f64.format B2 * V FloatKind.f64.format D) : In (fdiv .f64 x y) (-(V FloatKind.f64.format B1 : Int)) (V FloatKind.f64.format B2 : Int) := by
  have h0 : V FloatKind.f64.format (rung FloatKind.f64.format y) ≠ 0 := by
    have := V_mono FloatKind.f64.format (Nat.lt_of_lt_of_le hD0 hD)
    omega
  obtain ⟨r, r1, r2⟩ := fdiv_word hx.f hy h0
  have er : rung FloatKind.f64.format (fdiv .f64 x y) = r := by rw [r2]; exact rung_word .f64 _ r1
  have es : sgv FloatKind.f64.format (fdiv .f64 x y) = (if sgn FloatKind.f64.format x then -1 else 1) * (V FloatKind.f64.format r : Int) := by
    rw [r2, hs, Bool.xor_false]; exact sgv_word .f64 _ r1
  have hl := hx.l; have hh := hx.h
  unfold sgv at hl hh
  have key : ∀ A B, rung FloatKind.f64.format x ≤ A → A < FloatKind.f64.format.infRung → B < FloatKind.f64.format.infRung → V FloatKind.f64.format A * 2 ^ (- FloatKind.f64.format.leastPlace).toNat ≤ V FloatKind.f64.format B * V FloatKind.f64.format D → fin .f64 (fdiv .f64 x y) = true ∧ V FloatKind.f64.format r ≤ V FloatKind.f64.format B := fun A B a b c d => by
    have := fdiv_bnd a b hy hD hD0 c d
    exact ⟨fin_of this c, V_le _ (er ▸ this)⟩
  have low : ∀ A, V FloatKind.f64.format (rung FloatKind.f64.format x) ≤ V FloatKind.f64.format A → rung FloatKind.f64.format x ≤ A := fun A a => by
    rcases Nat.lt_or_ge A (rung FloatKind.f64.format x) with g | g
    · have := V_mono FloatKind.f64.format g; omega
    · exact g
  cases hsx : sgn FloatKind.f64.format x
  · rw [hsx] at hl hh es
    simp only [Bool.false_eq_true, if_true, if_false] at hl hh es
    obtain ⟨k1, k2⟩ := key A2 B2 (low A2 (by omega)) hA2 hB2 h2
    exact ⟨k1, by rw [es]; omega, by rw [es]; omega⟩
  · rw [hsx] at hl hh es
    simp only [Bool.false_eq_true, if_true, if_false] at hl hh es
    obtain ⟨k1, k2⟩ := key A1 B1 (low A1 (by omega)) hA1 hB1 h1
    exact ⟨k1, by rw [es]; omega, by rw [es]; omega⟩

def exSt (t p : Nat) (k : Int) : Nat := fadd .f64 4607182418800017408 (fdiv .f64 (fmul .f64 t p) (fint .f64 k))
def sqr (x : Nat) : Nat := fmul .f64 x x
def exP (t : Nat) : Nat := exSt t (exSt t (exSt t (exSt t (exSt t (exSt t (exSt t (exSt t (exSt t (exSt t (exSt t (exSt t 4607182418800017408 12) 11) 10) 9) 8) 7) 6) 5) 4) 3) 2) 1
def exF (t : Nat) : Nat := sqr (sqr (sqr (sqr (sqr (sqr (sqr (sqr (exP t))))))))
def exW (y : Nat) : Nat := bif !feq .f64 y y then y else bif fgt .f64 y 4641240890982006784 then 9218868437227405312 else bif flt .f64 y 13864612927836782592 then 0 else exF (fdiv .f64 y 4643211215818981376)

theorem exSt_in {t p : Nat} {k : Int} (ht : In t (-(V FloatKind.f64.format 4605212093963042816 : Int)) (V FloatKind.f64.format 4594797519824748544 : Int)) (hp : In p (-(V FloatKind.f64.format 4593671619917905920 : Int)) (V FloatKind.f64.format 4608589793683570688 : Int)) (hk : fin .f64 (fint .f64 k) = true ∧ sgn FloatKind.f64.format (fint .f64 k) = false ∧ 2 ^ (- FloatKind.f64.format.leastPlace).toNat ≤ V FloatKind.f64.format (rung FloatKind.f64.format (fint .f64 k))) : In (exSt t p k) (-(V FloatKind.f64.format 4593671619917905920 : Int)) (V FloatKind.f64.format 4608589793683570688 : Int) := by
  unfold exSt
  have h1 : In (fmul .f64 t p) (-(V FloatKind.f64.format 4607463893776728064 : Int)) (V FloatKind.f64.format 4598175219545276416 : Int) := In.mul (A := 4605212093963042816) (B := 4608589793683570688) (M := V FloatKind.f64.format 4594797519824748544 * V FloatKind.f64.format 4608589793683570688) (N := V FloatKind.f64.format 4605212093963042816 * V FloatKind.f64.format 4608589793683570688) ht hp (ht.rg (Int.le_refl _) (by decide +kernel)) (hp.rg (by decide +kernel) (Int.le_refl _)) (by decide +kernel) (by decide +kernel) (by decide +kernel)
    (by decide +kernel) (by decide +kernel) (by decide +kernel) (by decide +kernel) (by decide +kernel) (by decide +kernel)
  have h2 := h1.div (by decide +kernel) (by decide +kernel) hk.1 hk.2.1 hk.2.2
  have h3 : In 4607182418800017408 (V FloatKind.f64.format 4607182418800017408 : Int) (V FloatKind.f64.format 4607182418800017408 : Int) := ⟨by decide +kernel, by decide +kernel, by decide +kernel⟩
  exact In.add (A := 4607182418800017408) (B := 4607463893776728064) h3 h2 (by decide +kernel) (h2.rg (Int.le_refl _) (by decide +kernel)) (by decide +kernel) (by decide +kernel) (by decide +kernel) (by decide +kernel) (by decide +kernel)

theorem exP_in {t : Nat} (ht : In t (-(V FloatKind.f64.format 4605212093963042816 : Int)) (V FloatKind.f64.format 4594797519824748544 : Int)) : In (exP t) (-(V FloatKind.f64.format 4593671619917905920 : Int)) (V FloatKind.f64.format 4608589793683570688 : Int) := by
  unfold exP
  have h0 : In 4607182418800017408 (-(V FloatKind.f64.format 4593671619917905920 : Int)) (V FloatKind.f64.format 4608589793683570688 : Int) := ⟨by decide +kernel, by decide +kernel, by decide +kernel⟩
  exact exSt_in ht (exSt_in ht (exSt_in ht (exSt_in ht (exSt_in ht (exSt_in ht (exSt_in ht (exSt_in ht (exSt_in ht (exSt_in ht (exSt_in ht (exSt_in ht h0 (by decide +kernel)) (by decide +kernel)) (by decide +kernel)) (by decide +kernel)) (by decide +kernel)) (by decide +kernel)) (by decide +kernel)) (by decide +kernel)) (by decide +kernel)) (by decide +kernel)) (by decide +kernel)) (by decide +kernel)

def sqA (A : Nat) : Nat := rungOf FloatKind.f64.format (V FloatKind.f64.format A * V FloatKind.f64.format A) (2 * FloatKind.f64.format.leastPlace)
theorem sqr_le {x A : Nat} (h : rung FloatKind.f64.format x ≤ A) (hA : A < FloatKind.f64.format.infRung) : rung FloatKind.f64.format (sqr x) ≤ sqA A := fmul_le h h hA hA

theorem exF_fits {t : Nat} (ht : In t (-(V FloatKind.f64.format 4605212093963042816 : Int)) (V FloatKind.f64.format 4594797519824748544 : Int)) : cvtFits .f64 .f32 (exF t) = true := by
  have h0 : rung FloatKind.f64.format (exP t) ≤ 4608589793683570688 := (exP_in ht).rg (by decide +kernel) (Int.le_refl _)
  have h1 := sqr_le h0 (by decide +kernel)
  have h2 := sqr_le h1 (by decide +kernel)
  have h3 := sqr_le h2 (by decide +kernel)
  have h4 := sqr_le h3 (by decide +kernel)
  have h5 := sqr_le h4 (by decide +kernel)
  have h6 := sqr_le h5 (by decide +kernel)
  have h7 := sqr_le h6 (by decide +kernel)
  have h8 := sqr_le h7 (by decide +kernel)
  exact fits_le (fun _ => h8) (by decide +kernel) (by decide +kernel)

theorem exW_fits {y : Nat} (h : fgt .f64 y 4630826316843712512 = false) : cvtFits .f64 .f32 (exW y) = true := by
  unfold exW
  rw [feq_self]
  cases hn : isNan .f64 y with
  | true =>
    show cvtFits .f64 .f32 y = true
    exact fits_le (A := 0) (fun hf => absurd hn (by rw [fin_not_nan hf]; simp)) (by decide +kernel) (by decide +kernel)
  | false =>
    show cvtFits .f64 .f32 (bif fgt .f64 y 4641240890982006784 then _ else _) = true
    cases fgt .f64 y 4641240890982006784 with
    | true => show cvtFits .f64 .f32 9218868437227405312 = true; decide +kernel
    | false =>
      cases hl : flt .f64 y 13864612927836782592 with
      | true => show cvtFits .f64 .f32 0 = true; decide +kernel
      | false =>
        show cvtFits .f64 .f32 (exF (fdiv .f64 y 4643211215818981376)) = true
        rw [fgt_iff, hn, show isNan .f64 4630826316843712512 = false by decide +kernel, show sgv FloatKind.f64.format 4630826316843712512 = (V FloatKind.f64.format 4630826316843712512 : Int) by decide +kernel] at h
        rw [flt_iff, hn, show isNan .f64 13864612927836782592 = false by decide +kernel, show sgv FloatKind.f64.format 13864612927836782592 = -(V FloatKind.f64.format 4641240890982006784 : Int) by decide +kernel] at hl
        simp only [Bool.not_false, Bool.true_and, decide_eq_false_iff_not, Int.not_lt] at h hl
        have hr : rung FloatKind.f64.format y ≤ 4641240890982006784 := by
          have hb : V FloatKind.f64.format 4630826316843712512 ≤ V FloatKind.f64.format 4641240890982006784 := V_le _ (by decide +kernel)
          unfold sgv at h hl
          rcases Nat.lt_or_ge 4641240890982006784 (rung FloatKind.f64.format y) with g | g
          · exfalso
            have hm := V_mono FloatKind.f64.format g
            generalize V FloatKind.f64.format (rung FloatKind.f64.format y) = X at *
            generalize V FloatKind.f64.format 4641240890982006784 = Y at *
            generalize V FloatKind.f64.format 4630826316843712512 = Z at *
            cases hs : sgn FloatKind.f64.format y <;> rw [hs] at h hl <;> simp only [Bool.false_eq_true, if_true, if_false] at h hl <;> omega
          · exact g
        have hi : In y (-(V FloatKind.f64.format 4641240890982006784 : Int)) (V FloatKind.f64.format 4630826316843712512 : Int) := ⟨fin_of hr (by decide +kernel), hl, h⟩
        exact exF_fits (In.div2 (D := 4643211215818981376) hi (by decide +kernel) (by decide +kernel) (by decide +kernel) (by decide +kernel) (by decide +kernel) (by decide +kernel) (by decide +kernel) (by decide +kernel) (by decide +kernel) (by decide +kernel))

/-- Whether the result can be narrowed; closed to the evaluator. -/
noncomputable def exOk (x : Nat) : Bool := @decide (cvtFits .f64 .f32 (exW (fcvt .f32 .f64 x)) = true) (Classical.propDecidable _)
theorem exOk_iff (x : Nat) : exOk x = true ↔ cvtFits .f64 .f32 (exW (fcvt .f32 .f64 x)) = true := by unfold exOk; exact @decide_eq_true_iff _ (Classical.propDecidable _)
def exV (x : Nat) : Nat := fcvt .f64 .f32 (exW (fcvt .f32 .f64 x))
theorem exOk_of {x : Nat} (h : fgt .f32 x 1109393408 = false) : exOk x = true := by
  refine (exOk_iff x).2 (exW_fits ?_)
  have e := fgt_wide x 1109393408
  rw [show fcvt .f32 .f64 1109393408 = 4630826316843712512 by decide +kernel] at e
  rw [e, h]

end Go.Proofs.Ytdmcpgbnomhahaa
