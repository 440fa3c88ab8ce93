/-
  The angle of a point, for spec and impl alike. No conditions.
-/
import Derived.Test.YtkjggmfblkkopaaWd
namespace Go.Proofs.Ytkjggmfblkkopaa
set_option linter.unusedVariables false
set_option linter.unusedSimpArgs false
open Go.RowKit

def angSt (t : Nat) : Nat := fdiv .f64 t (fadd .f64 4607182418800017408 (fsqrt (fadd .f64 4607182418800017408 (fmul .f64 t t))))
def angPs (u : Nat) (k : Int) (p : Nat) : Nat := fsub .f64 (fdiv .f64 4607182418800017408 (fint .f64 k)) (fmul .f64 u p)
def angP (u : Nat) : Nat := (angPs u 1 (angPs u 3 (angPs u 5 (angPs u 7 (angPs u 9 (angPs u 11 (angPs u 13 (angPs u 15 0))))))))
def angT (a b : Nat) : Nat := bif fgt .f64 a b then fdiv .f64 b a else fdiv .f64 a b
def angR (t : Nat) : Nat := fdiv .f64 (fmul .f64 4620693217682128896 (fmul .f64 t (angP (fmul .f64 t t)))) 4618760256179416344
def angA (a b : Nat) : Nat := angR (angSt (angSt (angSt (angT a b))))
def angB (a b : Nat) : Nat := bif fgt .f64 a b then fsub .f64 4598175219545276416 (angA a b) else angA a b
def angC (x a b : Nat) : Nat := bif flt .f64 x 0 then fsub .f64 4602678819172646912 (angB a b) else angB a b
def angW (y x : Nat) : Nat := bif flt .f64 y 0 then fneg .f64 (angC x (fabs .f64 y) (fabs .f64 x)) else angC x (fabs .f64 y) (fabs .f64 x)

theorem rung_one : rung FloatKind.f64.format 4607182418800017408 = pwr 1023 := by decide
theorem sgv_one : sgv FloatKind.f64.format 4607182418800017408 = ((2 ^ 1074 : Nat) : Int) := by decide +kernel

theorem sgn_sq {x : Nat} (hx : fin .f64 x = true) : sgn FloatKind.f64.format (fmul .f64 x x) = false := by
  rw [fmul_fin hx hx, sgn_word .f64 _ (Nat.lt_of_le_of_lt (rungOf_le _ _ _) (inf_lt_sw .f64))]
  cases sgn FloatKind.f64.format x <;> rfl

/-- 1 and a number that is not negative. -/
theorem one_plus {z a : Nat} (hz : rung FloatKind.f64.format z ≤ pwr a) (h1 : 1023 ≤ a) (ha : a < 2000) (hs : sgn FloatKind.f64.format z = false) :
    rung FloatKind.f64.format (fadd .f64 4607182418800017408 z) ≤ pwr (a + 1) ∧ pwr 1023 ≤ rung FloatKind.f64.format (fadd .f64 4607182418800017408 z) ∧ sgn FloatKind.f64.format (fadd .f64 4607182418800017408 z) = false := by
  have hf := fin_pwr hz (by omega)
  refine ⟨addB (a := a) (by rw [rung_one]; exact pwr_le h1) hz (by omega) (by omega) (by omega), ?_⟩
  have hsz : sgv FloatKind.f64.format z = ((V FloatKind.f64.format (rung FloatKind.f64.format z) : Nat) : Int) := by unfold sgv; rw [hs]; rfl
  have hp := tp 1074
  rw [fadd_fin (by decide) hf, hsz, sgv_one]
  rw [rung_word .f64 _ (rungOf_le _ _ _), sgn_word .f64 _ (Nat.lt_of_le_of_lt (rungOf_le _ _ _) (inf_lt_sw .f64))]
  constructor
  · refine rungOf_ge_of _ (Nat.le_of_lt (pwr_lt (by omega))) (dle_same.2 ?_)
    rw [V_pwr (by omega), show 51 + 1023 = 1074 by rfl]
    omega
  · rw [if_neg (by omega)]
    exact decide_eq_false (by omega)

theorem sqrt_pos {x a b : Nat} (hx : rung FloatKind.f64.format x ≤ pwr a) (h1 : 1 ≤ a) (ha : a < 2047) (hs : sgn FloatKind.f64.format x = false) (hb : a + 1023 ≤ 2 * b) (hb1 : 1 ≤ b) (hb2 : b < 2047) :
    rung FloatKind.f64.format (fsqrt x) ≤ pwr b ∧ sgn FloatKind.f64.format (fsqrt x) = false := by
  have hf := fin_pwr hx ha
  constructor
  · refine fsqrt_le hf hs (pwr_lt hb2) ?_
    refine Nat.le_trans (Nat.mul_le_mul_right _ (V_le _ hx)) ?_
    rw [V_pwr h1, V_pwr hb1, least64, ← Nat.pow_add, ← Nat.pow_add]
    exact Nat.pow_le_pow_right (by decide) (by omega)
  · obtain ⟨m, e, h1, _, _⟩ := read_of_fin hf
    rw [hs] at h1
    unfold fsqrt Ieee.Format.sqrt
    rw [h1]
    have key : ∃ m' e', Ieee.Datum.root (FloatKind.f64.format.fractionBits + 2) (.number false m e) = some (.number false m' e') := by
      unfold Ieee.Datum.root
      simp only []
      split
      · exact ⟨_, _, rfl⟩
      · exact ⟨_, _, rfl⟩
    obtain ⟨m', e', hk⟩ := key
    rw [hk]
    exact sgn_nearest .f64 false m' e'

theorem angSt_b {t : Nat} (ht : rung FloatKind.f64.format t ≤ pwr 1023) : rung FloatKind.f64.format (angSt t) ≤ pwr 1023 := by
  have hf := fin_pwr ht (by omega)
  have hsq := mulB ht ht (c := 1023) (by omega) (by omega) (by omega) (by omega) (by omega) (by omega) (by omega)
  obtain ⟨h1, h2, h3⟩ := one_plus hsq (by omega) (by omega) (sgn_sq hf)
  obtain ⟨k1, k2⟩ := sqrt_pos (b := 1024) h1 (by omega) (by omega) h3 (by omega) (by omega) (by omega)
  obtain ⟨g1, g2, g3⟩ := one_plus k1 (by omega) (by omega) k2
  unfold angSt
  exact divB ht (fin_pwr g1 (by omega)) g2 (by omega) (by omega) (by omega) (by omega) (by omega) (by omega)

theorem angPs_b {u p a : Nat} {k : Int} (hu : rung FloatKind.f64.format u ≤ pwr 1023) (hp : rung FloatKind.f64.format p ≤ pwr a) (h1 : 1023 ≤ a) (ha : a ≤ 1150) (hk : rung FloatKind.f64.format (fdiv .f64 4607182418800017408 (fint .f64 k)) ≤ pwr 1023) : rung FloatKind.f64.format (angPs u k p) ≤ pwr (a + 1) := by
  unfold angPs
  exact subB (a := a) (Nat.le_trans hk (pwr_le h1)) (mulB hu hp (by omega) (by omega) (by omega) (by omega) (by omega) (by omega) (by omega)) (by omega) (by omega) (by omega)

theorem angP_b {u : Nat} (hu : rung FloatKind.f64.format u ≤ pwr 1023) : rung FloatKind.f64.format (angP u) ≤ pwr 1031 := by
  unfold angP
  have h15 := angPs_b (a := 1023) (p := 0) hu (by decide) (k := 15) (by omega) (by omega) (by decide +kernel)
  have h13 := angPs_b hu h15 (k := 13) (by omega) (by omega) (by decide +kernel)
  have h11 := angPs_b hu h13 (k := 11) (by omega) (by omega) (by decide +kernel)
  have h9 := angPs_b hu h11 (k := 9) (by omega) (by omega) (by decide +kernel)
  have h7 := angPs_b hu h9 (k := 7) (by omega) (by omega) (by decide +kernel)
  have h5 := angPs_b hu h7 (k := 5) (by omega) (by omega) (by decide +kernel)
  have h3 := angPs_b hu h5 (k := 3) (by omega) (by omega) (by decide +kernel)
  have h1 := angPs_b hu h3 (k := 1) (by omega) (by omega) (by decide +kernel)
  exact h1

theorem angR_b {t : Nat} (ht : rung FloatKind.f64.format t ≤ pwr 1023) : rung FloatKind.f64.format (angR t) ≤ pwr 1034 := by
  unfold angR
  have h1 := mulB ht ht (c := 1023) (by omega) (by omega) (by omega) (by omega) (by omega) (by omega) (by omega)
  have h2 := mulB (c := 1031) ht (angP_b h1) (by omega) (by omega) (by omega) (by omega) (by omega) (by omega) (by omega)
  have h3 : rung FloatKind.f64.format (fmul .f64 4620693217682128896 (fmul .f64 t (angP (fmul .f64 t t)))) ≤ pwr 1034 := mulB (a := 1026) (show rung FloatKind.f64.format 4620693217682128896 ≤ pwr 1026 by decide) h2 (by omega) (by omega) (by omega) (by omega) (by omega) (by omega) (by omega)
  exact divB (b := 1023) h3 (by decide) (by decide) (by omega) (by omega) (by omega) (by omega) (by omega) (by omega)

theorem div_one_le {a b : Nat} (ha : fin .f64 a = true) (hb : fin .f64 b = true) (h : rung FloatKind.f64.format a ≤ rung FloatKind.f64.format b) (hp : 0 < rung FloatKind.f64.format b) : rung FloatKind.f64.format (fdiv .f64 a b) ≤ pwr 1023 := by
  have h0 := V_mono FloatKind.f64.format hp
  refine fdiv_le ha hb (by omega) (pwr_lt (by omega)) ?_
  rw [V_pwr (by omega), least64, show (- (-1074 : Int)).toNat = 1074 by decide, show 51 + 1023 = 1074 by rfl]
  generalize 2 ^ 1074 = Z
  rw [Nat.mul_comm]
  exact Nat.mul_le_mul_left _ (V_le _ h)

/-- The angle narrows. -/
theorem angW_b {y x : Nat} (hy : fin .f64 y = true) (hx : fin .f64 x = true) (h0 : (feq .f64 y 0 && feq .f64 x 0) = false) : rung FloatKind.f64.format (angW y x) ≤ pwr 1036 := by
  have hny := fin_not_nan hy
  have hnx := fin_not_nan hx
  obtain ⟨a1, a2, a3⟩ := fabs_rung hny
  obtain ⟨b1, b2, b3⟩ := fabs_rung hnx
  have hfa : fin .f64 (fabs .f64 y) = true := (fin_iff .f64 _).2 (by rw [a1]; exact fin_lt hy)
  have hfb : fin .f64 (fabs .f64 x) = true := (fin_iff .f64 _).2 (by rw [b1]; exact fin_lt hx)
  have hT : rung FloatKind.f64.format (angT (fabs .f64 y) (fabs .f64 x)) ≤ pwr 1023 := by
    unfold angT
    have hgt : fgt .f64 (fabs .f64 y) (fabs .f64 x) = decide (V FloatKind.f64.format (rung FloatKind.f64.format x) < V FloatKind.f64.format (rung FloatKind.f64.format y)) := by
      rw [fgt_iff, a3, b3, sgv_abs hny, sgv_abs hnx]
      simp
    cases hc : fgt .f64 (fabs .f64 y) (fabs .f64 x) with
    | true =>
      rw [hgt] at hc
      have hlt := of_decide_eq_true hc
      have hr : rung FloatKind.f64.format x < rung FloatKind.f64.format y := by
        rcases Nat.lt_or_ge (rung FloatKind.f64.format x) (rung FloatKind.f64.format y) with h | h
        · exact h
        · have := V_le FloatKind.f64.format h; omega
      exact div_one_le hfb hfa (by rw [a1, b1]; omega) (by rw [a1]; omega)
    | false =>
      rw [hgt] at hc
      have hle := of_decide_eq_false hc
      have hr : rung FloatKind.f64.format y ≤ rung FloatKind.f64.format x := by
        rcases Nat.lt_or_ge (rung FloatKind.f64.format x) (rung FloatKind.f64.format y) with h | h
        · have := V_mono FloatKind.f64.format h; omega
        · exact h
      refine div_one_le hfa hfb (by rw [a1, b1]; omega) ?_
      rw [b1]
      rcases Nat.eq_zero_or_pos (rung FloatKind.f64.format x) with h | h
      · exfalso
        have hz : ∀ {z : Nat}, isNan .f64 z = false → rung FloatKind.f64.format z = 0 → feq .f64 z 0 = true := fun {z} hn hr => by
          rw [feq_iff, hn, show isNan .f64 0 = false by decide, show sgv FloatKind.f64.format 0 = 0 by decide]
          have : sgv FloatKind.f64.format z = 0 := by rw [sgv_eq, hr, V_zero]; simp
          rw [this]; rfl
        rw [hz hny (by omega), hz hnx h] at h0
        cases h0
      · exact h
  have hA := angR_b (angSt_b (angSt_b (angSt_b hT)))
  have hB : rung FloatKind.f64.format (angB (fabs .f64 y) (fabs .f64 x)) ≤ pwr 1035 := by
    unfold angB
    exact condB (subB (a := 1034) (show rung FloatKind.f64.format 4598175219545276416 ≤ pwr 1034 by decide) hA (by omega) (by omega) (by omega)) (Nat.le_trans hA (pwr_le (by omega)))
  have hC : rung FloatKind.f64.format (angC x (fabs .f64 y) (fabs .f64 x)) ≤ pwr 1036 := by
    unfold angC
    exact condB (subB (a := 1035) (show rung FloatKind.f64.format 4602678819172646912 ≤ pwr 1035 by decide) hB (by omega) (by omega) (by omega)) (Nat.le_trans hB (pwr_le (by omega)))
  unfold angW
  refine condB ?_ hC
  rw [rung_fneg (fin_not_nan (fin_pwr hC (by omega)))]
  exact hC

/-- The angle of a point. -/
noncomputable def angleV (y x : Nat) : Nat :=
  bif fin .f32 y && fin .f32 x then (bif feq .f32 y 0 && feq .f32 x 0 then 0 else fcvt .f64 .f32 (angW (fcvt .f32 .f64 y) (fcvt .f32 .f64 x))) else qnan .f32

theorem ang_fits {y x : Nat} (hy : fin .f32 y = true) (hx : fin .f32 x = true) (h0 : (feq .f32 y 0 && feq .f32 x 0) = false) : cvtFits .f64 .f32 (angW (fcvt .f32 .f64 y) (fcvt .f32 .f64 x)) = true :=
  fits_pwr (angW_b (by rw [fin_wide]; exact hy) (by rw [fin_wide]; exact hx) (by rw [feq_zero, feq_zero]; exact h0)) (by omega)

noncomputable def k_aw0 : Ctr Try.prog := (mkF Try.prog mix [k_nan, k_abs, k_Sqrt] 123 Try.f123 (bodyOf Try.f123) Try.func123 (by kernel_rfl) (by kernel_rfl) [0, 1, 4, 5, 6, 7, 8, 9, 10, 11, 12, 13, 23, 30, 38, 46, 61, 76, 80, 84, 198] 88 (by kernel_rfl) (by kernel_rfl)).mg
def awV (y x : Nat) : Nat := bif bif !feq .f64 (fsub .f64 y y) 0 then true else !feq .f64 (fsub .f64 x x) 0 then qnan .f64 else bif bif feq .f64 x 0 then feq .f64 y 0 else false then 0 else angW y x
theorem aw0_ev (y x : Nat) (mem : Mem) : k_aw0.run [.one (.fl .f64 y), .one (.fl .f64 x)] mem = .leaf (.one (.fl .f64 (awV y x)), []) := by kernel_rfl
noncomputable def k_aw : Ctr Try.prog := k_aw0.to (runFF .f64 fun y x => .leaf (.one (.fl .f64 (awV y x)))) (weak_FF (C := k_aw0) fun y x mem _ _ => by
  rw [aw0_ev]; exact Weak.refl _)
noncomputable def k_l01Narrow3 : Ctr Try.prog := mkC Try.prog mix [] 121 Try.f121 (bodyOf Try.f121) Try.func121 (by kernel_rfl) (by kernel_rfl) []
noncomputable def k_l01Angle0 : Ctr Try.prog := mkC Try.prog mix [k_l01Narrow3, k_aw] 67 Try.f67 (bodyOf Try.f67) Try.func67 (by kernel_rfl) (by kernel_rfl) []
theorem l01Angle_ev (y x : Nat) (mem : Mem) : k_l01Angle0.run [.one (.fl .f32 y), .one (.fl .f32 x)] mem = .need (cvtFits .f64 .f32 (awV (fcvt .f32 .f64 y) (fcvt .f32 .f64 x))) (.leaf (.one (.fl .f32 (fcvt .f64 .f32 (awV (fcvt .f32 .f64 y) (fcvt .f32 .f64 x)))), [])) := by kernel_rfl
theorem l01Angle_v (y x : Nat) : cvtFits .f64 .f32 (awV (fcvt .f32 .f64 y) (fcvt .f32 .f64 x)) = true ∧ fcvt .f64 .f32 (awV (fcvt .f32 .f64 y) (fcvt .f32 .f64 x)) = angleV y x := by
  unfold awV angleV
  rw [fin_sub, fin_sub, fin_wide, fin_wide, feq_zero, feq_zero]
  have hq : cvtFits .f64 .f32 (qnan .f64) = true ∧ fcvt .f64 .f32 (qnan .f64) = qnan .f32 := by decide +kernel
  have hz : cvtFits .f64 .f32 0 = true ∧ fcvt .f64 .f32 0 = 0 := by decide +kernel
  cases hy : fin .f32 y with
  | false => exact hq
  | true =>
    cases hx : fin .f32 x with
    | false => exact hq
    | true =>
      have hf := ang_fits hy hx
      cases h1 : feq .f32 x 0 with
      | true =>
        cases h2 : feq .f32 y 0 with
        | true => exact hz
        | false => rw [h1, h2] at hf; exact ⟨hf rfl, rfl⟩
      | false =>
        rw [h1, Bool.and_false] at hf
        rw [Bool.and_false]
        exact ⟨hf rfl, rfl⟩
noncomputable def k_l01Angle : Ctr Try.prog := k_l01Angle0.to (runFF .f32 fun y x => .leaf (.one (.fl .f32 (angleV y x)))) (weak_FF (C := k_l01Angle0) fun y x mem _ _ => ⟨fun Φ hΦ h => by
  rw [l01Angle_ev]
  obtain ⟨h1, h2⟩ := l01Angle_v y x
  refine T.h_need h1 ?_
  rw [h2]; exact h⟩)
noncomputable def k_ia0 : Ctr Try.prog := (mkF Try.prog mix [k_abs, k_Sqrt] 125 Try.f125 (bodyOf Try.f125) Try.func125 (by kernel_rfl) (by kernel_rfl) [0, 1, 4, 5, 6, 7, 8, 9, 10, 11, 21, 25, 26, 40, 57, 61, 65] 69 (by kernel_rfl) (by kernel_rfl)).mg
theorem ia0_ev (y x : Nat) (mem : Mem) : k_ia0.run [.one (.fl .f64 y), .one (.fl .f64 x)] mem = .leaf (.one (.fl .f64 (angW y x)), []) := by kernel_rfl
noncomputable def k_iangle : Ctr Try.prog := k_ia0.to (runFF .f64 fun y x => .leaf (.one (.fl .f64 (angW y x)))) (weak_FF (C := k_ia0) fun y x mem _ _ => by
  rw [ia0_ev]; exact Weak.refl _)
noncomputable def k_AngleTurns0 : Ctr Try.prog := (mkF Try.prog mix [k_IsFinite, k_nan, k_iangle] 70 Try.f70 (bodyOf Try.f70) Try.func70 (by kernel_rfl) (by kernel_rfl) [0, 1, 4, 5, 16, 198] 29 (by kernel_rfl) (by kernel_rfl)).mg
def atN (y x : Nat) : Bool := bif bif !fin .f32 y then true else !fin .f32 x then cvtFits .f64 .f32 (qnan .f64) else true
def atM (y x : Nat) : Bool := bif bif !fin .f32 y then true else !fin .f32 x then true else bif bif feq .f32 y 0 then feq .f32 x 0 else false then true else cvtFits .f64 .f32 (angW (fcvt .f32 .f64 y) (fcvt .f32 .f64 x))
def atV (y x : Nat) : Nat := bif bif !fin .f32 y then true else !fin .f32 x then fcvt .f64 .f32 (qnan .f64) else bif bif feq .f32 y 0 then feq .f32 x 0 else false then 0 else fcvt .f64 .f32 (angW (fcvt .f32 .f64 y) (fcvt .f32 .f64 x))
theorem AngleTurns_ev (y x : Nat) (mem : Mem) : k_AngleTurns0.run [.one (.fl .f32 y), .one (.fl .f32 x)] mem = .need (atN y x) (.need (atM y x) (.leaf (.one (.fl .f32 (atV y x)), []))) := by kernel_rfl
theorem AngleTurns_v (y x : Nat) : atN y x = true ∧ atM y x = true ∧ atV y x = angleV y x := by
  unfold atN atM atV angleV
  have hq : cvtFits .f64 .f32 (qnan .f64) = true ∧ fcvt .f64 .f32 (qnan .f64) = qnan .f32 := by decide +kernel
  rw [hq.1, hq.2]
  cases hy : fin .f32 y with
  | false => exact ⟨rfl, rfl, rfl⟩
  | true =>
    cases hx : fin .f32 x with
    | false => exact ⟨rfl, rfl, rfl⟩
    | true =>
      have hf := ang_fits hy hx
      cases h1 : feq .f32 y 0 with
      | true =>
        cases h2 : feq .f32 x 0 with
        | true => exact ⟨rfl, rfl, rfl⟩
        | false => rw [h1, h2] at hf; exact ⟨rfl, hf rfl, rfl⟩
      | false =>
        rw [h1, Bool.false_and] at hf
        exact ⟨rfl, hf rfl, rfl⟩
noncomputable def k_AngleTurns : Ctr Try.prog := k_AngleTurns0.to (runFF .f32 fun y x => .leaf (.one (.fl .f32 (angleV y x)))) (weak_FF (C := k_AngleTurns0) fun y x mem _ _ => ⟨fun Φ hΦ h => by
  rw [AngleTurns_ev]
  obtain ⟨h1, h2, h3⟩ := AngleTurns_v y x
  refine T.h_need h1 (T.h_need h2 ?_)
  rw [h3]; exact h⟩)

end Go.Proofs.Ytkjggmfblkkopaa
