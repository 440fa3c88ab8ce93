/-
  Constants out of bits; the sine of turns, for spec and impl alike. No conditions.
-/
import Derived.Test.YtkjggmfblkkopaaFp
import Derived.Test.YtkjggmfblkkopaaFo
namespace Go.Proofs.Ytkjggmfblkkopaa
set_option linter.unusedVariables false
set_option linter.unusedSimpArgs false
open Go.RowKit

def constRun : List AV → T AV
  | [.one (.int .u64 (.ofNat n))] => match Nat.ble n 18446744073709551615 with
    | true => .leaf (.one (.fl .f64 (canon .f64 n)))
    | false => .fail
  | _ => .fail
theorem const_ok {P : Program} (ρ : Rho) (w : World) (args : List AV) (vals : Array Value) (h : RelA ρ args vals.toList) : PureOK P ρ w (Extern.MathFloatBits.float64frombits vals) (constRun args) := by
  unfold constRun
  split <;> try exact .fail
  rename_i n
  obtain ⟨v, rfl, hv⟩ := one_val h
  have hv : v = .int .u64 (Int.ofNat n) := hv
  subst hv
  split <;> try exact .fail
  rename_i hn
  refine .leaf (v := .float .f64 n) rfl ⟨n, rfl, ?_, rfl⟩
  have h1 := Nat.le_of_ble_eq_true hn
  have e : (2 : Nat) ^ FloatKind.f64.format.width = 18446744073709551616 := by decide
  omega

noncomputable def k_cbits : Ctr Try.prog := extCtr (f := 146) Try.func146 (by kernel_rfl) (by kernel_rfl) (by kernel_rfl) (e := Extern.MathFloatBits.float64frombits) (by kernel_rfl) constRun const_ok
noncomputable def k_nan : Ctr Try.prog := mkC Try.prog mix [k_cbits] 124 Try.f124 (bodyOf Try.f124) Try.func124 (by kernel_rfl) (by kernel_rfl) []
noncomputable def k_inf : Ctr Try.prog := mkC Try.prog mix [k_cbits] 134 Try.f134 (bodyOf Try.f134) Try.func134 (by kernel_rfl) (by kernel_rfl) []

/-! ### The sine -/

def frac0 (f : Nat) : Nat := bif flt .f64 f 0 then fadd .f64 f 4607182418800017408 else f
def sinSt (u : Nat) (k : Int) (p : Nat) : Nat := fsub .f64 4607182418800017408 (fdiv .f64 (fmul .f64 u p) (fint .f64 (2 * k * (2 * k + 1))))
def sinP (u : Nat) : Nat := sinSt u 1 (sinSt u 2 (sinSt u 3 (sinSt u 4 (sinSt u 5 (sinSt u 6 (sinSt u 7 (sinSt u 8 4607182418800017408)))))))
def sinG (f : Nat) : Nat := bif fgt .f64 f 4598175219545276416 then fsub .f64 4602678819172646912 f else f
def sinH (f : Nat) : Nat := sinG (bif fge .f64 f 4602678819172646912 then fsub .f64 f 4602678819172646912 else f)
def sinZ (z : Nat) : Nat := fmul .f64 z (sinP (fmul .f64 z z))
def sinF (f : Nat) : Nat := bif fge .f64 f 4602678819172646912 then fneg .f64 (sinZ (fmul .f64 (sinH f) 4618760256179416344)) else sinZ (fmul .f64 (sinH f) 4618760256179416344)

theorem sinSt_b {u p a : Nat} {k : Int} (hu : rung FloatKind.f64.format u ≤ pwr 1035) (hp : rung FloatKind.f64.format p ≤ pwr a) (h1 : 1023 ≤ a) (ha : a ≤ 1150) (hk : fin .f64 (fint .f64 (2 * k * (2 * k + 1))) = true ∧ pwr 1023 ≤ rung FloatKind.f64.format (fint .f64 (2 * k * (2 * k + 1)))) : rung FloatKind.f64.format (sinSt u k p) ≤ pwr (a + 13) := by
  unfold sinSt
  refine subB (a := a + 12) (Nat.le_trans (m := pwr 1023) (show rung FloatKind.f64.format 4607182418800017408 ≤ pwr 1023 by decide) (pwr_le (by omega))) (divB (a := a + 12) (b := 1023) (mulB (a := 1035) (b := a) (c := a + 12) hu hp (by omega) (by omega) (by omega) (by omega) (by omega) (by omega) (by omega)) hk.1 hk.2 (by omega) (by omega) (by omega) (by omega) (by omega) (by omega)) (by omega) (by omega) (by omega)

theorem sinP_b {u : Nat} (hu : rung FloatKind.f64.format u ≤ pwr 1035) : rung FloatKind.f64.format (sinP u) ≤ pwr 1127 := by
  unfold sinP
  have h8 := sinSt_b (a := 1023) (k := 8) (p := 4607182418800017408) hu (by decide) (by omega) (by omega) (by decide +kernel)
  have h7 := sinSt_b (k := 7) hu h8 (by omega) (by omega) (by decide +kernel)
  have h6 := sinSt_b (k := 6) hu h7 (by omega) (by omega) (by decide +kernel)
  have h5 := sinSt_b (k := 5) hu h6 (by omega) (by omega) (by decide +kernel)
  have h4 := sinSt_b (k := 4) hu h5 (by omega) (by omega) (by decide +kernel)
  have h3 := sinSt_b (k := 3) hu h4 (by omega) (by omega) (by decide +kernel)
  have h2 := sinSt_b (k := 2) hu h3 (by omega) (by omega) (by decide +kernel)
  have h1 := sinSt_b (k := 1) hu h2 (by omega) (by omega) (by decide +kernel)
  exact h1

theorem sinF_b {f : Nat} (hf : rung FloatKind.f64.format f ≤ pwr 1024) : rung FloatKind.f64.format (sinF f) ≤ pwr 1135 := by
  have hH : rung FloatKind.f64.format (sinH f) ≤ pwr 1026 := by
    unfold sinH sinG
    have h1 : rung FloatKind.f64.format (bif fge .f64 f 4602678819172646912 then fsub .f64 f 4602678819172646912 else f) ≤ pwr 1025 :=
      condB (subB (a := 1024) hf (by decide) (by omega) (by omega) (by omega)) (Nat.le_trans hf (pwr_le (by omega)))
    exact condB (subB (a := 1025) (by decide) h1 (by omega) (by omega) (by omega)) (Nat.le_trans h1 (pwr_le (by omega)))
  have hz : rung FloatKind.f64.format (fmul .f64 (sinH f) 4618760256179416344) ≤ pwr 1029 := mulB (b := 1026) hH (by decide) (by omega) (by omega) (by omega) (by omega) (by omega) (by omega) (by omega)
  have hZ : rung FloatKind.f64.format (sinZ (fmul .f64 (sinH f) 4618760256179416344)) ≤ pwr 1133 := by
    unfold sinZ
    exact mulB hz (sinP_b (mulB hz hz (by omega) (by omega) (by omega) (by omega) (by omega) (by omega) (by omega))) (by omega) (by omega) (by omega) (by omega) (by omega) (by omega) (by omega)
  unfold sinF
  refine condB ?_ (Nat.le_trans hZ (pwr_le (by omega)))
  rw [rung_fneg (fin_not_nan (fin_pwr hZ (by omega)))]
  exact Nat.le_trans hZ (pwr_le (by omega))

theorem frac0_b {f : Nat} (hf : rung FloatKind.f64.format f ≤ pwr 1023) : rung FloatKind.f64.format (frac0 f) ≤ pwr 1024 := by
  unfold frac0
  exact condB (addB hf (by decide) (by omega) (by omega) (by omega)) (Nat.le_trans hf (pwr_le (by omega)))

/-- The sine of a 32-bit number of turns. -/
noncomputable def sineV (x : Nat) : Nat :=
  bif fin .f32 x then (bif fge .f64 (fabs .f64 (fcvt .f32 .f64 x)) 4841369599423283200 then 0 else
    fcvt .f64 .f32 (sinF (frac0 (fsub .f64 (fcvt .f32 .f64 x) (fadd .f64 (fintg .zero (fcvt .f32 .f64 x)) 0))))) else qnan .f32

theorem small_of {y : Nat} (hn : isNan .f64 y = false) (h : fge .f64 (fabs .f64 y) 4841369599423283200 = false) : rung FloatKind.f64.format y < 4841369599423283200 := by
  have hn2 : isNan .f64 4841369599423283200 = false := by decide
  obtain ⟨e1, e2, e3⟩ := fabs_rung hn
  rw [fge_iff, e3, hn2, sgv_abs hn] at h
  have hs : sgv FloatKind.f64.format 4841369599423283200 = ((V FloatKind.f64.format 4841369599423283200 : Nat) : Int) := by decide +kernel
  rw [hs] at h
  simp only [Bool.not_false, Bool.true_and, decide_eq_false_iff_not] at h
  rcases Nat.lt_or_ge (rung FloatKind.f64.format y) 4841369599423283200 with g | g
  · exact g
  · exfalso
    have := V_le FloatKind.f64.format g
    omega

theorem far_eq {y : Nat} (hn : isNan .f64 y = false) : (fge .f64 y 4841369599423283200 || fle .f64 y 14064741636278059008) = fge .f64 (fabs .f64 y) 4841369599423283200 := by
  have hn2 : isNan .f64 4841369599423283200 = false := by decide
  have hn3 : isNan .f64 14064741636278059008 = false := by decide
  obtain ⟨e1, e2, e3⟩ := fabs_rung hn
  rw [fge_iff, fge_iff, fle_iff, e3, hn2, hn3, hn, sgv_abs hn]
  have hs : sgv FloatKind.f64.format 4841369599423283200 = ((V FloatKind.f64.format 4841369599423283200 : Nat) : Int) := by decide +kernel
  have hs2 : sgv FloatKind.f64.format 14064741636278059008 = -((V FloatKind.f64.format 4841369599423283200 : Nat) : Int) := by decide +kernel
  have hp : 0 < V FloatKind.f64.format 4841369599423283200 := by decide +kernel
  rw [hs, hs2]
  unfold sgv
  simp only [Bool.not_false, Bool.true_and]
  generalize V FloatKind.f64.format 4841369599423283200 = A at *
  generalize V FloatKind.f64.format (rung FloatKind.f64.format y) = B at *
  rw [Bool.eq_iff_iff, Bool.or_eq_true, decide_eq_true_iff, decide_eq_true_iff, decide_eq_true_iff]
  cases sgn FloatKind.f64.format y <;> simp <;> omega

noncomputable def k_sw0 : Ctr Try.prog := (mkF Try.prog mix [k_nan] 139 Try.f139 (bodyOf Try.f139) Try.func139 (by kernel_rfl) (by kernel_rfl) [0, 2, 3, 4, 5, 6, 7, 8, 12, 19, 26, 31, 35, 44, 59, 198] 67 (by kernel_rfl) (by kernel_rfl)).mg
theorem sw0_ev (x : Nat) (mem : Mem) : k_sw0.run [.one (.fl .f64 x)] mem =
    .need (bif !feq .f64 (fsub .f64 x x) 0 then true else bif bif fge .f64 x 4841369599423283200 then true else fle .f64 x 14064741636278059008 then true else (ftoi .f64 .i64 x).isSome)
      (.leaf (.one (.fl .f64 (bif !feq .f64 (fsub .f64 x x) 0 then qnan .f64 else bif bif fge .f64 x 4841369599423283200 then true else fle .f64 x 14064741636278059008 then 0 else sinF (frac0 (fsub .f64 x (fint .f64 ((ftoi .f64 .i64 x).getD 0)))))), [])) := by kernel_rfl
def sw_run : List AV → Mem → T Res
  | [.one (.fl .f64 x)], _ => .need (bif !feq .f64 (fsub .f64 x x) 0 then true else bif bif fge .f64 x 4841369599423283200 then true else fle .f64 x 14064741636278059008 then true else (ftoi .f64 .i64 x).isSome)
      (.leaf (.one (.fl .f64 (bif !feq .f64 (fsub .f64 x x) 0 then qnan .f64 else bif bif fge .f64 x 4841369599423283200 then true else fle .f64 x 14064741636278059008 then 0 else sinF (frac0 (fsub .f64 x (fint .f64 ((ftoi .f64 .i64 x).getD 0)))))), []))
  | _, _ => .fail
noncomputable def k_sw : Ctr Try.prog := k_sw0.to sw_run (by
  intro args mem _
  unfold sw_run
  split
  · exact Weak.of_eq (sw0_ev _ _)
  · exact Weak.fail _)
noncomputable def k_l01Narrow2 : Ctr Try.prog := mkC Try.prog mix [] 121 Try.f121 (bodyOf Try.f121) Try.func121 (by kernel_rfl) (by kernel_rfl) []
noncomputable def k_l01Sine0 : Ctr Try.prog := mkC Try.prog mix [k_l01Narrow2, k_sw] 104 Try.f104 (bodyOf Try.f104) Try.func104 (by kernel_rfl) (by kernel_rfl) []
def swV (y : Nat) : Nat := bif !feq .f64 (fsub .f64 y y) 0 then qnan .f64 else bif bif fge .f64 y 4841369599423283200 then true else fle .f64 y 14064741636278059008 then 0 else sinF (frac0 (fsub .f64 y (fint .f64 ((ftoi .f64 .i64 y).getD 0))))
def swN (x : Nat) : Bool := bif !feq .f64 (fsub .f64 x x) 0 then true else bif bif fge .f64 x 4841369599423283200 then true else fle .f64 x 14064741636278059008 then true else (ftoi .f64 .i64 x).isSome
theorem l01Sine_ev (x : Nat) (mem : Mem) : k_l01Sine0.run [.one (.fl .f32 x)] mem = .need (swN (fcvt .f32 .f64 x)) (.need (cvtFits .f64 .f32 (swV (fcvt .f32 .f64 x))) (.leaf (.one (.fl .f32 (fcvt .f64 .f32 (swV (fcvt .f32 .f64 x)))), []))) := by kernel_rfl
theorem l01Sine_v (x : Nat) : swN (fcvt .f32 .f64 x) = true ∧ cvtFits .f64 .f32 (swV (fcvt .f32 .f64 x)) = true ∧ fcvt .f64 .f32 (swV (fcvt .f32 .f64 x)) = sineV x := by
  unfold swN swV sineV
  rw [fin_sub, fin_wide]
  cases hf : fin .f32 x with
  | false => exact ⟨rfl, show cvtFits .f64 .f32 (qnan .f64) = true by decide +kernel, show fcvt .f64 .f32 (qnan .f64) = qnan .f32 by decide +kernel⟩
  | true =>
    have hfy : fin .f64 (fcvt .f32 .f64 x) = true := by rw [fin_wide]; exact hf
    have hn := fin_not_nan hfy
    have hfar := far_eq hn
    have e : (bif fge .f64 (fcvt .f32 .f64 x) 4841369599423283200 then true else fle .f64 (fcvt .f32 .f64 x) 14064741636278059008) = fge .f64 (fabs .f64 (fcvt .f32 .f64 x)) 4841369599423283200 := by
      rw [← hfar]; cases fge .f64 (fcvt .f32 .f64 x) 4841369599423283200 <;> rfl
    rw [e]
    cases hg : fge .f64 (fabs .f64 (fcvt .f32 .f64 x)) 4841369599423283200 with
    | true => exact ⟨rfl, show cvtFits .f64 .f32 0 = true by decide +kernel, show fcvt .f64 .f32 0 = 0 by decide +kernel⟩
    | false =>
      obtain ⟨h1, h2, h3⟩ := trunc_same hfy (small_of hn hg)
      refine ⟨h1, ?_, ?_⟩
      · show cvtFits .f64 .f32 (sinF (frac0 (fsub .f64 (fcvt .f32 .f64 x) (fint .f64 ((ftoi .f64 .i64 (fcvt .f32 .f64 x)).getD 0))))) = true
        rw [← h2]
        exact fits_pwr (sinF_b (frac0_b h3)) (by omega)
      · rw [← h2]; rfl
noncomputable def k_l01Sine : Ctr Try.prog := k_l01Sine0.to (runF .f32 fun x => .leaf (.one (.fl .f32 (sineV x)))) (weak_F (C := k_l01Sine0) fun x mem _ => ⟨fun Φ hΦ h => by
  rw [l01Sine_ev]
  obtain ⟨h1, h2, h3⟩ := l01Sine_v x
  refine T.h_need h1 (T.h_need h2 ?_)
  rw [h3]; exact h⟩)
noncomputable def k_bh : Ctr Try.prog := (mkF Try.prog mix [k_Trunc] 152 Try.f152 (bodyOf Try.f152) Try.func152 (by kernel_rfl) (by kernel_rfl) [0, 2, 3, 10] 14 (by kernel_rfl) (by kernel_rfl)).mg
noncomputable def k_is0 : Ctr Try.prog := (mkF Try.prog mix [k_bh] 141 Try.f141 (bodyOf Try.f141) Try.func141 (by kernel_rfl) (by kernel_rfl) [0, 2, 3, 4, 5, 6, 7, 8, 9, 13, 17, 26, 44] 48 (by kernel_rfl) (by kernel_rfl)).mg
theorem is0_ev (x : Nat) (mem : Mem) : k_is0.run [.one (.fl .f64 x)] mem = .leaf (.one (.fl .f64 (sinF (frac0 (fsub .f64 x (fadd .f64 (fintg .zero x) 0))))), []) := by kernel_rfl
noncomputable def k_isine : Ctr Try.prog := k_is0.to (runF .f64 fun x => .leaf (.one (.fl .f64 (sinF (frac0 (fsub .f64 x (fadd .f64 (fintg .zero x) 0))))))) (weak_F (C := k_is0) fun x mem _ => by
  rw [is0_ev]; exact Weak.refl _)
noncomputable def k_SineTurns0 : Ctr Try.prog := mkC Try.prog mix [k_IsFinite, k_nan, k_abs, k_isine] 109 Try.f109 (bodyOf Try.f109) Try.func109 (by kernel_rfl) (by kernel_rfl) []
def isV (y : Nat) : Nat := sinF (frac0 (fsub .f64 y (fadd .f64 (fintg .zero y) 0)))
theorem SineTurns_ev (x : Nat) (mem : Mem) : k_SineTurns0.run [.one (.fl .f32 x)] mem = .ite (!fin .f32 x) (.need (cvtFits .f64 .f32 (qnan .f64)) (.leaf (.one (.fl .f32 (fcvt .f64 .f32 (qnan .f64))), []))) (.ite (fge .f64 (fabs .f64 (fcvt .f32 .f64 x)) 4841369599423283200) (.leaf (.one (.fl .f32 0), []))
    (.need (cvtFits .f64 .f32 (isV (fcvt .f32 .f64 x))) (.leaf (.one (.fl .f32 (fcvt .f64 .f32 (isV (fcvt .f32 .f64 x)))), [])))) := by kernel_rfl
noncomputable def k_SineTurns : Ctr Try.prog := k_SineTurns0.to (runF .f32 fun x => .leaf (.one (.fl .f32 (sineV x)))) (weak_F (C := k_SineTurns0) fun x mem _ => ⟨fun Φ hΦ h => by
  rw [SineTurns_ev]
  have key : ∀ z, z = sineV x → Φ (.one (.fl .f32 z), []) := fun z hz => by rw [hz]; exact h
  refine T.h_ite (fun hc => T.h_need (by decide +kernel) (key _ ?_)) (fun hc => ?_)
  · have hf : fin .f32 x = false := by simpa using hc
    unfold sineV; rw [hf]
    show fcvt .f64 .f32 (qnan .f64) = qnan .f32
    decide +kernel
  · have hf : fin .f32 x = true := by simpa using hc
    have hfy : fin .f64 (fcvt .f32 .f64 x) = true := by rw [fin_wide]; exact hf
    have hn := fin_not_nan hfy
    refine T.h_ite (fun hg => key _ ?_) (fun hg => ?_)
    · unfold sineV; rw [hf, hg]; rfl
    · obtain ⟨h1, h2, h3⟩ := trunc_same hfy (small_of hn hg)
      refine T.h_need (fits_pwr (sinF_b (frac0_b h3)) (by omega)) (key _ ?_)
      unfold sineV; rw [hf, hg]; rfl⟩)

end Go.Proofs.Ytkjggmfblkkopaa
