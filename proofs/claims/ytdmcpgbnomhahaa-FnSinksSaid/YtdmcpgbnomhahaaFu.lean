/-
  FnSinks: the run and the law's tail. No conditions.
-/
import Derived.Test.YtdmcpgbnomhahaaFk
namespace Go.Proofs.Ytdmcpgbnomhahaa
set_option linter.unusedVariables false
set_option linter.unusedSimpArgs false
open Go.RowKit

abbrev RunR := Bool × Nat × (Nat × (Nat → Nat))
structure RunOK (ma ra sp stt ba sc dr s n : Nat) (a : Nat × (Nat → Nat)) (r : RunR) : Prop where
  ok : r.1 = false
  low : Low r.2.2.1
  ge : s ≤ r.2.1
  le : r.2.1 ≤ n
  old : ∀ q, q < s → r.2.2.2 q = a.2 q
  now : r.2.2.1 = if r.2.1 = s then a.1 else r.2.2.2 (r.2.1 - 1)
  each : ∀ j, s ≤ j → j < r.2.1 → lkS ma ra sp stt ba sc dr (if j = s then a.1 else r.2.2.2 (j - 1)) (r.2.2.2 j) = true
  last : fgt .f32 r.2.2.1 ra = true → r.2.1 = n
theorem run_ok {ma ra sp stt ba sc dr : Nat} (h : Air ma ra sp stt ba sc dr) : ∀ (c s : Nat) (a : Nat × (Nat → Nat)), Low a.1 →
    RunOK ma ra sp stt ba sc dr s (s + c) a (endX (s + c) (iterX (skG ma ra dr ba sc (canon .f32 1048576000)) c s a))
  | 0, s, a, hl => ⟨rfl, hl, Nat.le_refl _, Nat.le_refl _, fun _ _ => rfl, (if_pos rfl).symm, fun j h1 h2 => absurd (show j < s from h2) (by omega), fun _ => rfl⟩
  | c + 1, s, a, hl => by
    have hrf : fin .f32 ra = true := fin_pos h.ra0
    cases hg : fgt .f32 a.1 ra with
    | false =>
      have e : skG ma ra dr ba sc (canon .f32 1048576000) s a = .inr (false, s, a) := by unfold skG; rw [hg]
      have hu : iterX (skG ma ra dr ba sc (canon .f32 1048576000)) (c + 1) s a = .inr (false, s, a) := by rw [iterX, e]
      rw [hu]
      exact ⟨rfl, hl, Nat.le_refl _, Nat.le_add_right _ _, fun _ _ => rfl, (if_pos rfl).symm, fun j h1 h2 => absurd (show j < s from h2) (by omega), fun hh => absurd (hg.symm.trans hh) (by decide)⟩
    | true =>
      obtain ⟨hk, hl2, hng⟩ := step_ok h hl hg
      generalize hx : skX ma ra a.1 dr ba sc (canon .f32 1048576000) = x at hl2 hng
      have e : skG ma ra dr ba sc (canon .f32 1048576000) s a = .inl (x, fun q => if q = s then x else a.2 q) := by unfold skG; rw [hg, hk, hx]
      have hu : iterX (skG ma ra dr ba sc (canon .f32 1048576000)) (c + 1) s a = iterX (skG ma ra dr ba sc (canon .f32 1048576000)) c (s + 1) (x, fun q => if q = s then x else a.2 q) := by rw [iterX, e]
      rw [hu, show s + (c + 1) = (s + 1) + c by omega]
      have ih := run_ok h c (s + 1) (x, fun q => if q = s then x else a.2 q) hl2
      revert ih
      generalize endX (s + 1 + c) (iterX (skG ma ra dr ba sc (canon .f32 1048576000)) c (s + 1) (x, fun q => if q = s then x else a.2 q)) = r
      intro ih
      have hs : r.2.2.2 s = x := by rw [ih.old s (Nat.lt_succ_self s)]; exact if_pos rfl
      have hge := ih.ge
      refine ⟨ih.ok, ih.low, by omega, ih.le, fun q hq => ?_, ?_, fun j h1 h2 => ?_, ih.last⟩
      · rw [ih.old q (by omega)]; exact if_neg (by omega)
      · rw [if_neg (by omega), ih.now]
        by_cases hn : r.2.1 = s + 1
        · rw [if_pos hn, hn, Nat.add_sub_cancel, hs]
        · rw [if_neg hn]
      · by_cases hj : j = s
        · subst hj
          rw [if_pos rfl, hs]
          unfold lkS skAll
          have hfle : fle .f32 a.1 ra = false := by rw [← gt_le hl.1 hrf, hg]; rfl
          rw [hfle, hx, hng, feq_self, fin_not_nan hl2.1, h.air, hl.1, hg, hk, decide_eq_true rfl]; rfl
        · have := ih.each j (by omega) h2
          rw [if_neg hj]
          by_cases hj2 : j = s + 1
          · rw [if_pos hj2] at this
            rw [hj2, Nat.add_sub_cancel, hs, ← hj2]
            exact this
          · rw [if_neg hj2] at this
            exact this

/-- The law's tail: the run, the tests, the loop. -/
noncomputable def fsT (okk : Bool) (ma ra sp stt ba sc dr lo : Nat) (st : Int) : T Res :=
  .need (skTest ma ra sp stt lo dr ba sc (canon .f32 1048576000) st) (.need (!(skRun ma ra lo dr ba sc (canon .f32 1048576000) st).1)
    (.ite (cn1 ba sc) (.leaf (.one (.tt false), [])) (.ite (cn2 ba sc) (.leaf (.one (.tt false), [])) (.ite (cn3 ba sc) (.leaf (.one (.tt false), [])) (.ite (cn4 ba sc) (.leaf (.one (.tt false), []))
    (.ite (decide (st < ((skRun ma ra lo dr ba sc (canon .f32 1048576000) st).2.1 : Int))) (.leaf (.one (.tt false), [])) (.need okk
    (.ite ((!fgt .f32 (skRun ma ra lo dr ba sc (canon .f32 1048576000) st).2.2.1 ra) == fle .f32 (iter (fun j (_ : Nat) => (skRun ma ra lo dr ba sc (canon .f32 1048576000) st).2.2.2 j) ((skRun ma ra lo dr ba sc (canon .f32 1048576000) st).2.1 - Int.toNat 0) (Int.toNat 0) lo) ra)
      (.ite (!fgt .f32 (skRun ma ra lo dr ba sc (canon .f32 1048576000) st).2.2.1 ra) (.leaf (.one (.tt true), [])) (.leaf (.one (.bo (decide (((skRun ma ra lo dr ba sc (canon .f32 1048576000) st).2.1 : Int) = st))), []))) (.leaf (.one (.tt false), []))))))))))
theorem skRun_ok {ma ra sp stt ba sc dr lo : Nat} (h : Air ma ra sp stt ba sc dr) (hl : Low lo) (st : Int) :
    RunOK ma ra sp stt ba sc dr 0 st.toNat (lo, (fun _ => canon .f32 0 : Nat → Nat)) (skRun ma ra lo dr ba sc (canon .f32 1048576000) st) := by
  have := run_ok h st.toNat 0 (lo, (fun _ => canon .f32 0 : Nat → Nat)) hl
  rw [Nat.zero_add] at this
  exact this
theorem run_lk {ma ra sp stt ba sc dr lo : Nat} (h : Air ma ra sp stt ba sc dr) (hl : Low lo) (st : Int) :
    lkB ma ra sp stt ba sc dr lo (skRun ma ra lo dr ba sc (canon .f32 1048576000) st).2.1 (skRun ma ra lo dr ba sc (canon .f32 1048576000) st).2.2.2 = true := by
  have hr := skRun_ok h hl st
  unfold lkB
  exact decide_eq_true fun j hj => hr.each j (Nat.zero_le _) hj
theorem fsT_yes {ma ra sp stt dr lo x y : Nat} {okk : Bool} {st : Int} (h : Air ma ra sp stt (dBa x) (dSc y) dr) (hl : Low lo) (hg : fgt .f32 lo ra = true) (h0 : 0 ≤ st) (h1 : st ≤ 64) (hk : okk = true) :
    (fsT okk ma ra sp stt (dBa x) (dSc y) dr lo st).holds fun r => r.1 = .one (.tt true) ∨ r.1 = .one (.bo true) := by
  have hr := skRun_ok h hl st
  have hrf : fin .f32 ra = true := fin_pos h.ra0
  obtain ⟨c1, c2, c3, c4, _⟩ := air_ok x y
  unfold fsT
  revert hr
  generalize skRun ma ra lo dr (dBa x) (dSc y) (canon .f32 1048576000) st = r
  intro hr
  have hit : iter (fun j (_ : Nat) => r.2.2.2 j) (r.2.1 - Int.toNat 0) (Int.toNat 0) lo = r.2.2.1 := by
    rw [show r.2.1 - Int.toNat 0 = r.2.1 from Nat.sub_zero _, show Int.toNat 0 = 0 from rfl, iter_f r.2.2.2 lo r.2.1 0 lo rfl, Nat.zero_add, hr.now]; rfl
  have hle := hr.le
  refine T.h_need ?_ (T.h_need (by rw [hr.ok]; rfl) (T.h_ite (fun hc => absurd (c1.symm.trans hc) (by decide)) (fun _ => T.h_ite (fun hc => absurd (c2.symm.trans hc) (by decide)) (fun _ => T.h_ite (fun hc => absurd (c3.symm.trans hc) (by decide)) (fun _ => T.h_ite (fun hc => absurd (c4.symm.trans hc) (by decide)) (fun _ => T.h_ite (fun hc => absurd (of_decide_eq_true hc) (by omega)) (fun _ => T.h_need hk (T.h_ite (fun _ => T.h_ite (fun _ => T.h_leaf (.inl rfl)) (fun hc => T.h_leaf (.inr ?_))) (fun hc => ?_)))))))))
  · unfold skTest
    rw [h.air, hl.1, hg, decide_eq_true h0, decide_eq_true h1]; rfl
  · have hg2 : fgt .f32 r.2.2.1 ra = true := by revert hc; cases fgt .f32 r.2.2.1 ra <;> simp
    have e := hr.last hg2
    show AV.one (SV.bo (decide (((r.2.1 : Nat) : Int) = st))) = _
    rw [decide_eq_true (by rw [e]; omega)]
  · exfalso
    rw [hit, gt_le hr.low.1 hrf] at hc
    revert hc
    cases fle .f32 r.2.2.1 ra <;> simp
theorem air_of_draw (y1 y2 y3 y4 y5 y6 y7 : Nat) : Air (dMa y1) (dRa y2) (dSp y3) (dSt y4) (dBa y5) (dSc y6) (dDr y7) where
  ma1 := (dMa_ok y1).2.1
  ma2 := (dMa_ok y1).2.2
  ra0 := dRa_ok y2
  sc0 := (dSc_ok y6).1
  ba1 := (dBa_ok y5).2.1
  ba2 := (dBa_ok y5).2.2
  dr1 := (dDr_ok y7).2.1
  dr2 := (dDr_ok y7).2.2
  air := by
    unfold airB vb
    rw [(dMa_ok y1).1, dRa_ok y2, dSp_ok y3, dSt_ok y4, (dDr_ok y7).1, (dBa_ok y5).1, (dSc_ok y6).1, show massB (canon .f32 1048576000) = true by decide +kernel]; rfl
theorem low_of_draw (y a : Nat) : Low (dLo (dRa y) a) ∧ fgt .f32 (dLo (dRa y) a) (dRa y) = true := ⟨⟨(dLo_ok y a).1, (dLo_ok y a).2.2⟩, (dLo_ok y a).2.1⟩
theorem th_of_draw (y1 y2 y3 y4 y5 y6 : Nat) : thOk (dMa y1) (dRa y2) (dSp y3) (dSt y4) (dBa y5) (dSc y6) (canon .f32 0) = true ∧ thOk (dMa y1) (dRa y2) (dSp y3) (dSt y4) (dBa y5) (dSc y6) (canon .f32 1056964608) = true ∧ thOk (dMa y1) (dRa y2) (dSp y3) (dSt y4) (dBa y5) (dSc y6) (canon .f32 1065353216) = true := by
  obtain ⟨s0, s1, s2, s3⟩ := dSc_ok y6
  obtain ⟨_, _, _, _, t1, t2, t3⟩ := air_ok y5 y6
  have t1 : fin .f32 (th (canon .f32 0) (dBa y5) (dSc y6)) = true := t1
  have t2 : fin .f32 (th (canon .f32 1056964608) (dBa y5) (dSc y6)) = true := t2
  have t3 : fin .f32 (th (canon .f32 1065353216) (dBa y5) (dSc y6)) = true := t3
  unfold thOk vb
  rw [(dMa_ok y1).1, dRa_ok y2, dSp_ok y3, dSt_ok y4, (dBa_ok y5).1, s0, exOk_of s1, exOk_of s2, exOk_of s3, t1, t2, t3, show fin .f32 (canon .f32 0) = true by decide +kernel, show fin .f32 (canon .f32 1056964608) = true by decide +kernel, show fin .f32 (canon .f32 1065353216) = true by decide +kernel]
  exact ⟨rfl, rfl, rfl⟩

end Go.Proofs.Ytdmcpgbnomhahaa
