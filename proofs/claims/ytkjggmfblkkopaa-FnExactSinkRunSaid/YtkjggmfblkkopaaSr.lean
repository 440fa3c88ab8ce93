/-
  SinkRun in words. No conditions.
-/
import Derived.Test.YtkjggmfblkkopaaSk
namespace Go.Proofs.Ytkjggmfblkkopaa
set_option linter.unusedVariables false
set_option linter.unusedSimpArgs false
open Go.RowKit

noncomputable def skRun (ma ra lo dr ba sc ti : Nat) (st : Int) : Bool × Nat × (Nat × (Nat → Nat)) := skEnd ma ra dr ba sc ti st.toNat 0 (lo, (fun _ => canon .f32 0 : Nat → Nat))
noncomputable def skTest (ma ra sp stt lo dr ba sc ti : Nat) (st : Int) : Bool := airB ma ra sp stt dr ba sc ti && (fin .f32 lo && (fgt .f32 lo ra && (decide (0 ≤ st) && decide (st ≤ 64))))
theorem skIt {ma ra dr ba sc ti : Nat} : ∀ (c s : Nat) (a : Nat × (Nat → Nat)), s ≤ (endX (s + c) (iterX (skG ma ra dr ba sc ti) c s a)).2.1 ∧ (endX (s + c) (iterX (skG ma ra dr ba sc ti) c s a)).2.1 ≤ s + c ∧ ((endX (s + c) (iterX (skG ma ra dr ba sc ti) c s a)).2.1 = s → (endX (s + c) (iterX (skG ma ra dr ba sc ti) c s a)).2.2 = a)
  | 0, s, a => ⟨Nat.le_refl _, Nat.le_refl _, fun _ => rfl⟩
  | c + 1, s, a => by
    cases hg : fgt .f32 a.1 ra with
    | false =>
      have e : skG ma ra dr ba sc ti s a = .inr (false, s, a) := by unfold skG; rw [hg]
      have hu : iterX (skG ma ra dr ba sc ti) (c + 1) s a = .inr (false, s, a) := by rw [iterX, e]
      rw [hu]; exact ⟨Nat.le_refl _, Nat.le_add_right _ _, fun _ => rfl⟩
    | true =>
      cases hk : skOk ma ra a.1 dr ba sc ti with
      | false =>
        have e : skG ma ra dr ba sc ti s a = .inr (true, s, a) := by unfold skG; rw [hg, hk]
        have hu : iterX (skG ma ra dr ba sc ti) (c + 1) s a = .inr (true, s, a) := by rw [iterX, e]
        rw [hu]; exact ⟨Nat.le_refl _, Nat.le_add_right _ _, fun _ => rfl⟩
      | true =>
        have e : skG ma ra dr ba sc ti s a = .inl (skX ma ra a.1 dr ba sc ti, fun q => if q = s then skX ma ra a.1 dr ba sc ti else a.2 q) := by unfold skG; rw [hg, hk]
        have hu : iterX (skG ma ra dr ba sc ti) (c + 1) s a = iterX (skG ma ra dr ba sc ti) c (s + 1) (skX ma ra a.1 dr ba sc ti, fun q => if q = s then skX ma ra a.1 dr ba sc ti else a.2 q) := by rw [iterX, e]
        rw [hu, show s + (c + 1) = (s + 1) + c by omega]
        obtain ⟨i1, i2, i3⟩ := skIt (ma := ma) (ra := ra) (dr := dr) (ba := ba) (sc := sc) (ti := ti) c (s + 1) (skX ma ra a.1 dr ba sc ti, fun q => if q = s then skX ma ra a.1 dr ba sc ti else a.2 q)
        exact ⟨Nat.le_trans (Nat.le_succ s) i1, i2, fun h => absurd i1 (by rw [h]; omega)⟩
theorem skRun_le (ma ra lo dr ba sc ti : Nat) (st : Int) : (skRun ma ra lo dr ba sc ti st).2.1 ≤ st.toNat := by
  have := (skIt (ma := ma) (ra := ra) (dr := dr) (ba := ba) (sc := sc) (ti := ti) st.toNat 0 (lo, (fun _ => canon .f32 0 : Nat → Nat))).2.1
  rw [Nat.zero_add] at this
  exact this
theorem skRun_0 (ma ra lo dr ba sc ti : Nat) (st : Int) (h : (skRun ma ra lo dr ba sc ti st).2.1 = 0) : (skRun ma ra lo dr ba sc ti st).2.2.1 = lo := by
  have := (skIt (ma := ma) (ra := ra) (dr := dr) (ba := ba) (sc := sc) (ti := ti) st.toNat 0 (lo, (fun _ => canon .f32 0 : Nat → Nat))).2.2
  rw [Nat.zero_add] at this
  exact congrArg Prod.fst (this h)
theorem sSr0_ev (ma ra sp stt lo dr ba sc ti : Nat) (st : Int) : k_sSr0.run [.agg [.fl .f32 ma, .fl .f32 ra, .fl .f32 sp, .fl .f32 stt], .one (.fl .f32 lo), .one (.fl .f32 dr), .one (.fl .f32 ba), .one (.fl .f32 sc), .one (.fl .f32 ti), .one (.num .i64 st)] [] =
    .need (bif bif !airB ma ra sp stt dr ba sc ti then true else bif !fin .f32 lo then true else bif !fgt .f32 lo ra then true else !bif decide (0 ≤ st) then decide (st ≤ 64) else false then true else ks_ok { ma := ma, ra := ra, sp := sp, stt := stt, dr := dr, ba := ba, sc := sc, ti := ti, st := st } { i := 0, lo := lo, n := 0, f := (fun _ => canon .f32 0 : Nat → Nat) }) (.ite (bif !airB ma ra sp stt dr ba sc ti then true else bif !fin .f32 lo then true else bif !fgt .f32 lo ra then true else !bif decide (0 ≤ st) then decide (st ≤ 64) else false) (.leaf (.tup [.one (.val (.slice none 0 0)), .one (.tt false), .one (.tt false)], [])) (.ite (skRun ma ra lo dr ba sc ti st).1 (.leaf (.tup [.one (.val (.slice none 0 0)), .one (.tt false), .one (.tt false)], [])) (.leaf (.tup [.one (.so 1 1 (skRun ma ra lo dr ba sc ti st).2.1 2), .one (.bo (!fgt .f32 (skRun ma ra lo dr ba sc ti st).2.2.1 ra)), .one (.tt true)], [some (.box [.fl .f32 ma, .fl .f32 ra, .fl .f32 sp, .fl .f32 stt]), some (.grow (skRun ma ra lo dr ba sc ti st).2.1 [.fl .f32 (skRun ma ra lo dr ba sc ti st).2.2.2] 2 22), none])))) := by kernel_rfl
theorem iSr0_ev (ma ra sp stt lo dr ba sc ti : Nat) (st : Int) : k_iSr0.run [.agg [.fl .f32 ma, .fl .f32 ra, .fl .f32 sp, .fl .f32 stt], .one (.fl .f32 lo), .one (.fl .f32 dr), .one (.fl .f32 ba), .one (.fl .f32 sc), .one (.fl .f32 ti), .one (.num .i64 st)] [] =
    .need (bif bif !vb ma ra sp stt then true else bif !fin .f32 lo then true else bif !fgt .f32 lo ra then true else bif !massB dr then true else bif !massB ba then true else bif !pos sc then true else bif !massB ti then true else !bif decide (0 ≤ st) then decide (st ≤ 64) else false then true else ki_ok { ma := ma, ra := ra, sp := sp, stt := stt, dr := dr, ba := ba, sc := sc, ti := ti, st := st } { i := 0, lo := lo, n := 0, f := (fun _ => canon .f32 0 : Nat → Nat) }) (.ite (bif !vb ma ra sp stt then true else bif !fin .f32 lo then true else bif !fgt .f32 lo ra then true else bif !massB dr then true else bif !massB ba then true else bif !pos sc then true else bif !massB ti then true else !bif decide (0 ≤ st) then decide (st ≤ 64) else false) (.leaf (.tup [.one (.val (.slice none 0 0)), .one (.tt false), .one (.tt false)], [])) (.ite (skRun ma ra lo dr ba sc ti st).1 (.leaf (.tup [.one (.val (.slice none 0 0)), .one (.tt false), .one (.tt false)], [])) (.leaf (.tup [.one (.so 1 1 (bif decide (0 < (((skRun ma ra lo dr ba sc ti st).2.1 : Nat) : Int)) then (skRun ma ra lo dr ba sc ti st).2.1 else (skRun ma ra lo dr ba sc ti st).2.1) 2), .one (.bo (bif decide (0 < (((skRun ma ra lo dr ba sc ti st).2.1 : Nat) : Int)) then !fgt .f32 (skRun ma ra lo dr ba sc ti st).2.2.1 ra else false)), .one (.tt true)], [some (.box [.fl .f32 ma, .fl .f32 ra, .fl .f32 sp, .fl .f32 stt]), some (.grow (skRun ma ra lo dr ba sc ti st).2.1 [.fl .f32 (skRun ma ra lo dr ba sc ti st).2.2.2] 2 22), none])))) := by kernel_rfl
noncomputable def run_Sr : List AV → Mem → T Res
  | [.agg [.fl .f32 ma, .fl .f32 ra, .fl .f32 sp, .fl .f32 stt], .one (.fl .f32 lo), .one (.fl .f32 dr), .one (.fl .f32 ba), .one (.fl .f32 sc), .one (.fl .f32 ti), .one (.num .i64 st)], [] => .ite (skTest ma ra sp stt lo dr ba sc ti st) (.ite (skRun ma ra lo dr ba sc ti st).1 (.leaf (.tup [.one (.val (.slice none 0 0)), .one (.tt false), .one (.tt false)], [])) (.leaf (.tup [.one (.su 1 1 0 (skRun ma ra lo dr ba sc ti st).2.1 false), .one (.bo (!fgt .f32 (skRun ma ra lo dr ba sc ti st).2.2.1 ra)), .one (.tt true)], [none, some (.cols (skRun ma ra lo dr ba sc ti st).2.1 [.fl .f32 (skRun ma ra lo dr ba sc ti st).2.2.2]), none]))) (.leaf (.tup [.one (.val (.slice none 0 0)), .one (.tt false), .one (.tt false)], []))
  | _, _ => .fail
theorem sCS (A F G S1 S2 : Bool) : (bif !A then true else bif !F then true else bif !G then true else !bif S1 then S2 else false) = !(A && (F && (G && (S1 && S2)))) := by
  cases A <;> cases F <;> cases G <;> cases S1 <;> cases S2 <;> rfl
theorem sCSx (ma ra sp stt lo dr ba sc ti : Nat) (st : Int) : (bif !airB ma ra sp stt dr ba sc ti then true else bif !fin .f32 lo then true else bif !fgt .f32 lo ra then true else !bif decide (0 ≤ st) then decide (st ≤ 64) else false) = !skTest ma ra sp stt lo dr ba sc ti st := sCS (airB ma ra sp stt dr ba sc ti) (fin .f32 lo) (fgt .f32 lo ra) (decide (0 ≤ st)) (decide (st ≤ 64))
theorem iCS (ma ra sp stt lo dr ba sc ti : Nat) (st : Int) : (bif !vb ma ra sp stt then true else bif !fin .f32 lo then true else bif !fgt .f32 lo ra then true else bif !massB dr then true else bif !massB ba then true else bif !pos sc then true else bif !massB ti then true else !bif decide (0 ≤ st) then decide (st ≤ 64) else false) = !skTest ma ra sp stt lo dr ba sc ti st := by
  unfold skTest airB
  cases vb ma ra sp stt <;> cases fin .f32 lo <;> cases fgt .f32 lo ra <;> cases massB dr <;> cases massB ba <;> cases pos sc <;> cases massB ti <;> cases decide (0 ≤ st) <;> cases decide (st ≤ 64) <;> rfl
theorem skTest_ok {ma ra sp stt lo dr ba sc ti : Nat} {st : Int} (h : skTest ma ra sp stt lo dr ba sc ti st = true) : 0 ≤ st ∧ st ≤ 64 ∧ airB ma ra sp stt dr ba sc ti = true ∧ fin .f32 lo = true ∧ fgt .f32 lo ra = true := by
  unfold skTest at h
  simp only [Bool.and_eq_true, decide_eq_true_eq] at h
  exact ⟨h.2.2.2.1, h.2.2.2.2, h.1, h.2.1, h.2.2.1⟩
theorem sr_sh {Φ : Res → Prop} {nil row row' : Res} {m : Bool} : ∀ (t e : Bool), (t = true → m = true) → (t = true → Φ row' → Φ row) → (T.ite t (T.ite e (.leaf nil) (.leaf row')) (.leaf nil)).holds Φ → (T.need (bif !t then true else m) (T.ite (!t) (.leaf nil) (T.ite e (.leaf nil) (.leaf row)))).holds Φ := by
  intro t e hm hr h
  have ht0 : (!t) = false → t = true := by cases t <;> simp
  have ht1 : (!t) = true → t = false := by cases t <;> simp
  refine T.h_need (needT fun g => hm (ht0 g)) (T.h_ite (fun g => T.h_leaf (h.2 (ht1 g))) (fun g => T.h_ite (fun he => T.h_leaf ((h.1 (ht0 g)).1 he)) (fun he => T.h_leaf (hr (ht0 g) ((h.1 (ht0 g)).2 he)))))
set_option maxHeartbeats 4000000 in
noncomputable def k_sSr : Ctr Try.prog := (k_sSr0.to run_Sr (by
  intro args mem hm
  unfold run_Sr
  split
  · rename_i ma ra sp stt lo dr ba sc ti st
    constructor
    intro Φ hΦ h
    rw [sSr0_ev, sCSx ma ra sp stt lo dr ba sc ti st]
    refine sr_sh _ _ (fun ht => ?_) (fun ht hp => ?_) h
    · obtain ⟨h1, h2, h3, h4, h5⟩ := skTest_ok ht
      exact decide_eq_true ⟨h1, h2, h3, h4, rfl, Int.le_refl 0, h1⟩
    · obtain ⟨h1, h2, h3, h4, h5⟩ := skTest_ok ht
      have hb : (!fgt .f32 (skRun ma ra lo dr ba sc ti st).2.2.1 ra) = !fgt .f32 (skRun ma ra lo dr ba sc ti st).2.2.1 ra := by
        rfl
      have hn : (skRun ma ra lo dr ba sc ti st).2.1 = (skRun ma ra lo dr ba sc ti st).2.1 := by
        rfl
      rw [hb, hn]
      refine hΦ _ (.tup [.one (.su 1 1 0 (skRun ma ra lo dr ba sc ti st).2.1 false), .one (.bo (!fgt .f32 (skRun ma ra lo dr ba sc ti st).2.2.1 ra)), .one (.tt true)], [none, some (.cols (skRun ma ra lo dr ba sc ti st).2.1 [.fl .f32 (skRun ma ra lo dr ba sc ti st).2.2.2]), none]) ⟨⟨BlLe.grown (Nat.le_refl _), trivial⟩, fun ρ v hv => ?_⟩ hp
      obtain ⟨vs, hvs, hl⟩ := hv
      refine ⟨vs, hvs, ?_⟩
      match vs.toList, hl with
      | [a, b, d], hl => exact ⟨AvLe.grown ρ a hl.1, hl.2.1, hl.2.2.1, trivial⟩
  · exact Weak.fail _)).su.own
set_option maxHeartbeats 4000000 in
noncomputable def k_iSr : Ctr Try.prog := (k_iSr0.to run_Sr (by
  intro args mem hm
  unfold run_Sr
  split
  · rename_i ma ra sp stt lo dr ba sc ti st
    constructor
    intro Φ hΦ h
    rw [iSr0_ev, iCS ma ra sp stt lo dr ba sc ti st]
    refine sr_sh _ _ (fun ht => ?_) (fun ht hp => ?_) h
    · obtain ⟨h1, h2, h3, h4, h5⟩ := skTest_ok ht
      exact decide_eq_true ⟨h1, h2, h3, h4, rfl, Int.le_refl 0, h1⟩
    · obtain ⟨h1, h2, h3, h4, h5⟩ := skTest_ok ht
      have hb : (bif decide (0 < (((skRun ma ra lo dr ba sc ti st).2.1 : Nat) : Int)) then !fgt .f32 (skRun ma ra lo dr ba sc ti st).2.2.1 ra else false) = !fgt .f32 (skRun ma ra lo dr ba sc ti st).2.2.1 ra := by
        cases hz : decide (0 < (((skRun ma ra lo dr ba sc ti st).2.1 : Nat) : Int)) with
        | true => rfl
        | false =>
          have h0 : (skRun ma ra lo dr ba sc ti st).2.1 = 0 := by have := of_decide_eq_false hz; omega
          rw [skRun_0 ma ra lo dr ba sc ti st h0, h5]; rfl
      have hn : (bif decide (0 < (((skRun ma ra lo dr ba sc ti st).2.1 : Nat) : Int)) then (skRun ma ra lo dr ba sc ti st).2.1 else (skRun ma ra lo dr ba sc ti st).2.1) = (skRun ma ra lo dr ba sc ti st).2.1 := by
        cases decide (0 < (((skRun ma ra lo dr ba sc ti st).2.1 : Nat) : Int)) <;> rfl
      rw [hb, hn]
      refine hΦ _ (.tup [.one (.su 1 1 0 (skRun ma ra lo dr ba sc ti st).2.1 false), .one (.bo (!fgt .f32 (skRun ma ra lo dr ba sc ti st).2.2.1 ra)), .one (.tt true)], [none, some (.cols (skRun ma ra lo dr ba sc ti st).2.1 [.fl .f32 (skRun ma ra lo dr ba sc ti st).2.2.2]), none]) ⟨⟨BlLe.grown (Nat.le_refl _), trivial⟩, fun ρ v hv => ?_⟩ hp
      obtain ⟨vs, hvs, hl⟩ := hv
      refine ⟨vs, hvs, ?_⟩
      match vs.toList, hl with
      | [a, b, d], hl => exact ⟨AvLe.grown ρ a hl.1, hl.2.1, hl.2.2.1, trivial⟩
  · exact Weak.fail _)).su.own

end Go.Proofs.Ytkjggmfblkkopaa
