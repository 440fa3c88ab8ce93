/-
  Constants out of bits; the sine of turns, for spec and impl alike. No conditions.
-/
import Derived.Test.YtdmcpgbnomhahaaFp
import Derived.Test.YtdmcpgbnomhahaaFo
namespace Go.Proofs.Ytdmcpgbnomhahaa
set_option linter.unusedVariables false
set_option linter.unusedSimpArgs false
open Go.RowKit

def constRun : List AV → T AV
  | [.one (.int .u64 (.ofNat n))] => match Nat.ble n 18446744073709551615 with
    | true => .leaf (.one (.fl .f64 (canon .f64 n)))
    | false => .fail
  | _ => .fail
theorem const_ok {P : Program} (ρ : Rho) (w : World) (args : List AV) (vals : Array Value) (h : RelA ρ args vals.toList) : PureOK P ρ w (Extern.MathFloatBits.float64frombits vals) (constRun args) := by
  unfold constRun
  split <;> try exact .fail
  rename_i n
  obtain ⟨v, rfl, hv⟩ := one_val h
  have hv : v = .int .u64 (Int.ofNat n) := hv
  subst hv
  split <;> try exact .fail
  rename_i hn
  refine .leaf (v := .float .f64 n) rfl ⟨n, rfl, ?_, rfl⟩
  have h1 := Nat.le_of_ble_eq_true hn
  have e : (2 : Nat) ^ FloatKind.f64.format.width = 18446744073709551616 := by decide
  omega

noncomputable def k_cbits : Ctr Try.prog := extCtr (f := 108) Try.func108 (by kernel_rfl) (by kernel_rfl) (by kernel_rfl) (e := Extern.MathFloatBits.float64frombits) (by kernel_rfl) constRun const_ok
noncomputable def k_inf : Ctr Try.prog := mkC Try.prog mix [k_cbits] 111 Try.f111 (bodyOf Try.f111) Try.func111 (by kernel_rfl) (by kernel_rfl) []

/-! ### The sine -/

def frac0 (f : Nat) : Nat := bif flt .f64 f 0 then fadd .f64 f 4607182418800017408 else f
def sinSt (u : Nat) (k : Int) (p : Nat) : Nat := fsub .f64 4607182418800017408 (fdiv .f64 (fmul .f64 u p) (fint .f64 (2 * k * (2 * k + 1))))
def sinP (u : Nat) : Nat := sinSt u 1 (sinSt u 2 (sinSt u 3 (sinSt u 4 (sinSt u 5 (sinSt u 6 (sinSt u 7 (sinSt u 8 4607182418800017408)))))))
def sinG (f : Nat) : Nat := bif fgt .f64 f 4598175219545276416 then fsub .f64 4602678819172646912 f else f
def sinH (f : Nat) : Nat := sinG (bif fge .f64 f 4602678819172646912 then fsub .f64 f 4602678819172646912 else f)
def sinZ (z : Nat) : Nat := fmul .f64 z (sinP (fmul .f64 z z))
def sinF (f : Nat) : Nat := bif fge .f64 f 4602678819172646912 then fneg .f64 (sinZ (fmul .f64 (sinH f) 4618760256179416344)) else sinZ (fmul .f64 (sinH f) 4618760256179416344)

theorem sinSt_b {u p a : Nat} {k : Int} (hu : rung FloatKind.f64.format u ≤ pwr 1035) (hp : rung FloatKind.f64.format p ≤ pwr a) (h1 : 1023 ≤ a) (ha : a ≤ 1150) (hk : fin .f64 (fint .f64 (2 * k * (2 * k + 1))) = true ∧ pwr 1023 ≤ rung FloatKind.f64.format (fint .f64 (2 * k * (2 * k + 1)))) : rung FloatKind.f64.format (sinSt u k p) ≤ pwr (a + 13) := by
  unfold sinSt
  refine subB (a := a + 12) (Nat.le_trans (m := pwr 1023) (show rung FloatKind.f64.format 4607182418800017408 ≤ pwr 1023 by decide) (pwr_le (by omega))) (divB (a := a + 12) (b := 1023) (mulB (a := 1035) (b := a) (c := a + 12) hu hp (by omega) (by omega) (by omega) (by omega) (by omega) (by omega) (by omega)) hk.1 hk.2 (by omega) (by omega) (by omega) (by omega) (by omega) (by omega)) (by omega) (by omega) (by omega)

theorem sinP_b {u : Nat} (hu : rung FloatKind.f64.format u ≤ pwr 1035) : rung FloatKind.f64.format (sinP u) ≤ pwr 1127 := by
  unfold sinP
  have h8 := sinSt_b (a := 1023) (k := 8) (p := 4607182418800017408) hu (by decide) (by omega) (by omega) (by decide +kernel)
  have h7 := sinSt_b (k := 7) hu h8 (by omega) (by omega) (by decide +kernel)
  have h6 := sinSt_b (k := 6) hu h7 (by omega) (by omega) (by decide +kernel)
  have h5 := sinSt_b (k := 5) hu h6 (by omega) (by omega) (by decide +kernel)
  have h4 := sinSt_b (k := 4) hu h5 (by omega) (by omega) (by decide +kernel)
  have h3 := sinSt_b (k := 3) hu h4 (by omega) (by omega) (by decide +kernel)
  have h2 := sinSt_b (k := 2) hu h3 (by omega) (by omega) (by decide +kernel)
  have h1 := sinSt_b (k := 1) hu h2 (by omega) (by omega) (by decide +kernel)
  exact h1

theorem sinF_b {f : Nat} (hf : rung FloatKind.f64.format f ≤ pwr 1024) : rung FloatKind.f64.format (sinF f) ≤ pwr 1135 := by
  have hH : rung FloatKind.f64.format (sinH f) ≤ pwr 1026 := by
    unfold sinH sinG
    have h1 : rung FloatKind.f64.format (bif fge .f64 f 4602678819172646912 then fsub .f64 f 4602678819172646912 else f) ≤ pwr 1025 :=
      condB (subB (a := 1024) hf (by decide) (by omega) (by omega) (by omega)) (Nat.le_trans hf (pwr_le (by omega)))
    exact condB (subB (a := 1025) (by decide) h1 (by omega) (by omega) (by omega)) (Nat.le_trans h1 (pwr_le (by omega)))
  have hz : rung FloatKind.f64.format (fmul .f64 (sinH f) 4618760256179416344) ≤ pwr 1029 := mulB (b := 1026) hH (by decide) (by omega) (by omega) (by omega) (by omega) (by omega) (by omega) (by omega)
  have hZ : rung FloatKind.f64.format (sinZ (fmul .f64 (sinH f) 4618760256179416344)) ≤ pwr 1133 := by
    unfold sinZ
    exact mulB hz (sinP_b (mulB hz hz (by omega) (by omega) (by omega) (by omega) (by omega) (by omega) (by omega))) (by omega) (by omega) (by omega) (by omega) (by omega) (by omega) (by omega)
  unfold sinF
  refine condB ?_ (Nat.le_trans hZ (pwr_le (by omega)))
  rw [rung_fneg (fin_not_nan (fin_pwr hZ (by omega)))]
  exact Nat.le_trans hZ (pwr_le (by omega))

theorem frac0_b {f : Nat} (hf : rung FloatKind.f64.format f ≤ pwr 1023) : rung FloatKind.f64.format (frac0 f) ≤ pwr 1024 := by
  unfold frac0
  exact condB (addB hf (by decide) (by omega) (by omega) (by omega)) (Nat.le_trans hf (pwr_le (by omega)))

/-- The sine of a 32-bit number of turns. -/
noncomputable def sineV (x : Nat) : Nat :=
  bif fin .f32 x then (bif fge .f64 (fabs .f64 (fcvt .f32 .f64 x)) 4841369599423283200 then 0 else
    fcvt .f64 .f32 (sinF (frac0 (fsub .f64 (fcvt .f32 .f64 x) (fadd .f64 (fintg .zero (fcvt .f32 .f64 x)) 0))))) else qnan .f32

theorem small_of {y : Nat} (hn : isNan .f64 y = false) (h : fge .f64 (fabs .f64 y) 4841369599423283200 = false) : rung FloatKind.f64.format y < 4841369599423283200 := by
  have hn2 : isNan .f64 4841369599423283200 = false := by decide
  obtain ⟨e1, e2, e3⟩ := fabs_rung hn
  rw [fge_iff, e3, hn2, sgv_abs hn] at h
  have hs : sgv FloatKind.f64.format 4841369599423283200 = ((V FloatKind.f64.format 4841369599423283200 : Nat) : Int) := by decide +kernel
  rw [hs] at h
  simp only [Bool.not_false, Bool.true_and, decide_eq_false_iff_not] at h
  rcases Nat.lt_or_ge (rung FloatKind.f64.format y) 4841369599423283200 with g | g
  · exact g
  · exfalso
    have := V_le FloatKind.f64.format g
    omega

theorem far_eq {y : Nat} (hn : isNan .f64 y = false) : (fge .f64 y 4841369599423283200 || fle .f64 y 14064741636278059008) = fge .f64 (fabs .f64 y) 4841369599423283200 := by
  have hn2 : isNan .f64 4841369599423283200 = false := by decide
  have hn3 : isNan .f64 14064741636278059008 = false := by decide
  obtain ⟨e1, e2, e3⟩ := fabs_rung hn
  rw [fge_iff, fge_iff, fle_iff, e3, hn2, hn3, hn, sgv_abs hn]
  have hs : sgv FloatKind.f64.format 4841369599423283200 = ((V FloatKind.f64.format 4841369599423283200 : Nat) : Int) := by decide +kernel
  have hs2 : sgv FloatKind.f64.format 14064741636278059008 = -((V FloatKind.f64.format 4841369599423283200 : Nat) : Int) := by decide +kernel
  have hp : 0 < V FloatKind.f64.format 4841369599423283200 := by decide +kernel
  rw [hs, hs2]
  unfold sgv
  simp only [Bool.not_false, Bool.true_and]
  generalize V FloatKind.f64.format 4841369599423283200 = A at *
  generalize V FloatKind.f64.format (rung FloatKind.f64.format y) = B at *
  rw [Bool.eq_iff_iff, Bool.or_eq_true, decide_eq_true_iff, decide_eq_true_iff, decide_eq_true_iff]
  cases sgn FloatKind.f64.format y <;> simp <;> omega


end Go.Proofs.Ytdmcpgbnomhahaa
