/-
  SinkRun of the program in words. No conditions.
-/
import Derived.Test.YtdmcpgbnomhahaaSm
namespace Go.Proofs.Ytdmcpgbnomhahaa
set_option linter.unusedVariables false
set_option linter.unusedSimpArgs false
open Go.RowKit

noncomputable def k_sr_i_within : Ctr Try.prog := (mkF Try.prog mix [] 56 Try.f56 (bodyOf Try.f56) Try.func56 (by kernel_rfl) (by kernel_rfl) [0, 1, 2, 6, 198] 15 (by kernel_rfl) (by kernel_rfl)).mg
structure Cki where
  ma : Nat
  ra : Nat
  sp : Nat
  stt : Nat
  dr : Nat
  ba : Nat
  sc : Nat
  ti : Nat
  st : Int
def Cki.base (c : Cki) : Mem := []
structure Vki where
  i : Int
  lo : Nat
  n : Nat
  f : Nat → Nat
noncomputable abbrev kiRoot : Code := bodyOf Try.f35
def ki_st (c : Cki) (v : Vki) : FSt := ⟨[(1, .one (.fl .f32 v.lo)), (2, .one (.fl .f32 c.dr)), (3, .one (.fl .f32 c.ba)), (4, .one (.fl .f32 c.sc)), (5, .one (.fl .f32 c.ti)), (7, .one (.ptr 0 4 0 0)), (14, .one (.val (.slice none 0 0))), (15, .one (.tt false)), (16, .one (.tt false)), (17, .one (.so 1 1 v.n 2)), (61, .one (.num .i64 c.st)), (62, .one (.num .i64 v.i))], c.base ++ [some (.box [.fl .f32 c.ma, .fl .f32 c.ra, .fl .f32 c.sp, .fl .f32 c.stt]), some (.grow v.n [.fl .f32 v.f] 2 22), none]⟩
noncomputable def skG (ma ra dr ba sc ti : Nat) (j : Nat) (a : Nat × (Nat → Nat)) : (Nat × (Nat → Nat)) ⊕ (Bool × Nat × (Nat × (Nat → Nat))) := match fgt .f32 a.1 ra with
  | false => .inr (false, j, a)
  | true => match skOk ma ra a.1 dr ba sc ti with
    | false => .inr (true, j, a)
    | true => .inl (skX ma ra a.1 dr ba sc ti, fun q => if q = j then skX ma ra a.1 dr ba sc ti else a.2 q)
noncomputable def skEnd (ma ra dr ba sc ti n s : Nat) (a : Nat × (Nat → Nat)) : Bool × Nat × (Nat × (Nat → Nat)) := endX n (iterX (skG ma ra dr ba sc ti) (n - s) s a)
noncomputable def ki_step (c : Cki) (v : Vki) : T (Nx Vki) :=
  .ite (decide (v.1 < c.9)) (.need (bif !fgt FloatKind.f32 v.2 c.2 then true else bif !skAll c.1 c.2 c.3 c.4 v.2 c.5 c.6 c.7 c.8 then true else decide (v.3 ≤ v.3)) (.need (bif !fgt FloatKind.f32 v.2 c.2 then true else bif !skAll c.1 c.2 c.3 c.4 v.2 c.5 c.6 c.7 c.8 then true else decide (0 < 1)) (.need (bif !fgt FloatKind.f32 v.2 c.2 then true else bif !skAll c.1 c.2 c.3 c.4 v.2 c.5 c.6 c.7 c.8 then true else decide (v.3 + 1 ≤ 1073741824)) (.ite (!fgt FloatKind.f32 v.2 c.2) (.leaf (.out (EX.exit 0) ⟨[(1, AV.one (SV.fl FloatKind.f32 v.2)), (2, AV.one (SV.fl FloatKind.f32 c.5)), (3, AV.one (SV.fl FloatKind.f32 c.6)), (4, AV.one (SV.fl FloatKind.f32 c.7)), (5, AV.one (SV.fl FloatKind.f32 c.8)), (7, AV.one (SV.ptr 0 4 0 0)), (14, AV.one (SV.val (Value.slice none 0 0))), (15, AV.one (SV.tt false)), (16, AV.one (SV.tt false)), (17, AV.one (SV.so 1 1 v.3 2)), (61, AV.one (SV.num IntKind.i64 c.9)), (62, AV.one (SV.num IntKind.i64 v.1))], c.base ++ [some (.box [.fl .f32 c.ma, .fl .f32 c.ra, .fl .f32 c.sp, .fl .f32 c.stt]), some (.grow v.n [.fl .f32 v.f] 2 22), none]⟩)) (.ite (!skAll c.1 c.2 c.3 c.4 v.2 c.5 c.6 c.7 c.8) (.leaf (.out (EX.ret) ⟨[(1, AV.one (SV.fl FloatKind.f32 v.2)), (2, AV.one (SV.fl FloatKind.f32 c.5)), (3, AV.one (SV.fl FloatKind.f32 c.6)), (4, AV.one (SV.fl FloatKind.f32 c.7)), (5, AV.one (SV.fl FloatKind.f32 c.8)), (7, AV.one (SV.ptr 0 4 0 0)), (14, AV.one (SV.val (Value.slice none 0 0))), (15, AV.one (SV.tt false)), (16, AV.one (SV.tt false)), (17, AV.one (SV.so 1 1 v.3 2)), (61, AV.one (SV.num IntKind.i64 c.9)), (62, AV.one (SV.num IntKind.i64 v.1))], c.base ++ [some (.box [.fl .f32 c.ma, .fl .f32 c.ra, .fl .f32 c.sp, .fl .f32 c.stt]), some (.grow v.n [.fl .f32 v.f] 2 22), none]⟩)) (.leaf (.go { i := IntKind.i64.wrap (v.1 + 1), lo := bif skAll c.1 c.2 c.3 c.4 v.2 c.5 c.6 c.7 c.8 then skX c.1 c.2 v.2 c.5 c.6 c.7 c.8 else 0, n := v.3 + 1, f := fun q => if q = v.n then bif skAll c.ma c.ra c.sp c.stt v.lo c.dr c.ba c.sc c.ti then skX c.ma c.ra v.lo c.dr c.ba c.sc c.ti else 0 else v.f q }))))))) (.leaf (.out (EX.exit 0) ⟨[(1, AV.one (SV.fl FloatKind.f32 v.2)), (2, AV.one (SV.fl FloatKind.f32 c.5)), (3, AV.one (SV.fl FloatKind.f32 c.6)), (4, AV.one (SV.fl FloatKind.f32 c.7)), (5, AV.one (SV.fl FloatKind.f32 c.8)), (7, AV.one (SV.ptr 0 4 0 0)), (14, AV.one (SV.val (Value.slice none 0 0))), (15, AV.one (SV.tt false)), (16, AV.one (SV.tt false)), (17, AV.one (SV.so 1 1 v.3 2)), (61, AV.one (SV.num IntKind.i64 c.9)), (62, AV.one (SV.num IntKind.i64 v.1))], c.base ++ [some (.box [.fl .f32 c.ma, .fl .f32 c.ra, .fl .f32 c.sp, .fl .f32 c.stt]), some (.grow v.n [.fl .f32 v.f] 2 22), none]⟩))
theorem ki_round (c : Cki) (v : Vki) : roundF Try.prog 98 [k_iSink] kiRoot [] c.base [0, 1, 2, 3, 4, 5, 6, 7, 14, 15, 16, 17, 18, 19, 59, 61, 62, 63, 68, 80, 198] [1, 2, 3, 4, 5, 7, 14, 15, 16, 17, 61, 62] 0 (ki_st c v) = (ki_step c v).map (nxF (ki_st c)) := by kernel_rfl
def ki_ok (c : Cki) (v : Vki) : Bool := decide (0 ≤ c.st ∧ c.st ≤ 64 ∧ airB c.ma c.ra c.sp c.stt c.dr c.ba c.sc c.ti = true ∧ fin .f32 v.lo = true ∧ v.n = v.i.toNat ∧ 0 ≤ v.i ∧ v.i ≤ c.st)
def ki_X (j : Nat) (a : Nat × (Nat → Nat)) : Vki := { i := (j : Int), lo := a.1, n := j, f := a.2 }
noncomputable def ki_e (x : Cki × Vki) : Bool × Nat × (Nat × (Nat → Nat)) := skEnd x.1.ma x.1.ra x.1.dr x.1.ba x.1.sc x.1.ti x.1.st.toNat x.2.i.toNat (x.2.lo, x.2.f)
noncomputable def ki_R (x : Cki × Vki) : T (EX × FSt) := .need (ki_ok x.1 x.2) (.ite (ki_e x).1 (.leaf (.ret, ki_st x.1 (ki_X (ki_e x).2.1 (ki_e x).2.2))) (.leaf (.normal, ki_st x.1 (ki_X (ki_e x).2.1 (ki_e x).2.2))))
theorem ki_tri (x : Cki × Vki) : TriR Try.prog 98 x.1.base (.block 0 (.loop (bodyB kiRoot 0))) (ki_st x.1 x.2) (ki_R x) := by
  obtain ⟨c, v⟩ := x
  refine triR_of mix (root := kiRoot) (by kernel_rfl) (by kernel_rfl) [0, 1, 2, 3, 4, 5, 6, 7, 14, 15, 16, 17, 18, 19, 59, 61, 62, 63, 68, 80, 198] [1, 2, 3, 4, 5, 7, 14, 15, 16, 17, 61, 62] (ki_st c) (ki_step c) (ki_round c) v _ ((c.st.toNat - v.i.toNat) + 1) (fun Φ h => ?_)
  have h0 := h.1
  have h3 := h.2
  simp only [ki_ok, decide_eq_true_eq] at h0
  obtain ⟨hs0, hs1, hair, hfin, hn, hi0, hin⟩ := h0
  have hv : v = ki_X v.i.toNat (v.lo, v.f) := by
    obtain ⟨i, lo, n, f⟩ := v
    have hn : n = i.toNat := hn
    have hi0 : 0 ≤ i := hi0
    subst hn
    simp only [ki_X, Int.toNat_of_nonneg hi0]
  have hair0 := hair
  unfold airB vb at hair
  simp only [Bool.and_eq_true] at hair
  obtain ⟨⟨hma, hra, hsp, hstt⟩, hdr, hba, hsc, hti⟩ := hair
  have key := T_iterXI (ki_step c) ki_X c.st.toNat (skG c.ma c.ra c.dr c.ba c.sc c.ti) (fun a => (.exit 0, ki_st c (ki_X c.st.toNat a))) (fun o => (match o.1 with | true => .ret | false => .exit 0, ki_st c (ki_X o.2.1 o.2.2))) (fun _ a => fin .f32 a.1 = true)
    (fun j a b hj hI hb => ?_) (fun j a hj hI Ψ h1 h2 => ?_) (fun a Ψ hΨ => ?_) (fun a => by simp) (fun o => by cases o.1 <;> simp) (c.st.toNat - v.i.toNat) v.i.toNat (v.lo, v.f) (by omega) hfin (fun r => Φ (blkEx 0 r.1, r.2)) (fun b hb => ?_) (fun o ho => ?_)
  · exact (congrArg (fun z => (loopTree (ki_step c) (c.st.toNat - v.i.toNat + 1) z).holds fun r => Φ (blkEx 0 r.1, r.2)) hv).mpr key
  · unfold skG at hb
    cases hg : fgt .f32 a.1 c.ra <;> rw [hg] at hb
    · cases hb
    · cases hk : skOk c.ma c.ra a.1 c.dr c.ba c.sc c.ti <;> rw [hk] at hb
      · cases hb
      · cases hb
        unfold skOk at hk
        simp only [Bool.and_eq_true] at hk
        exact hk.1
  · unfold ki_step
    have hall : fgt .f32 a.1 c.ra = true → skAll c.ma c.ra c.sp c.stt a.1 c.dr c.ba c.sc c.ti = skOk c.ma c.ra a.1 c.dr c.ba c.sc c.ti := fun hg => by
      unfold skAll; rw [hair0, hI, hg]; rfl
    refine T.h_ite (fun _ => ?_) (fun hc => absurd hc ?_)
    · refine (T.h_need (needT fun _ => needT fun _ => decide_eq_true (Nat.le_refl _)) (T.h_need (needT fun _ => needT fun _ => rfl) (T.h_need (needT fun _ => needT fun _ => decide_eq_true (by show j + 1 ≤ 1073741824; omega)) (T.h_ite (fun hg => T.h_leaf (h2 (false, j, a) ?_)) (fun hg => T.h_ite (fun hk => T.h_leaf (h2 (true, j, a) ?_)) (fun hk => T.h_leaf ?_))))))
      · have hg : (!fgt .f32 a.1 c.ra) = true := hg
        rw [Bool.not_eq_true'] at hg
        unfold skG; rw [hg]
      · have hg : (!fgt .f32 a.1 c.ra) = false := hg
        rw [Bool.not_eq_false'] at hg
        have hk : (!skAll c.ma c.ra c.sp c.stt a.1 c.dr c.ba c.sc c.ti) = true := hk
        rw [Bool.not_eq_true', hall hg] at hk
        unfold skG; rw [hg, hk]
      · have hg : (!fgt .f32 a.1 c.ra) = false := hg
        rw [Bool.not_eq_false'] at hg
        have hk : (!skAll c.ma c.ra c.sp c.stt a.1 c.dr c.ba c.sc c.ti) = false := hk
        rw [Bool.not_eq_false'] at hk
        have hk2 := hk
        rw [hall hg] at hk2
        show Ψ (.go { i := IntKind.i64.wrap ((j : Int) + 1), lo := (bif skAll c.ma c.ra c.sp c.stt a.1 c.dr c.ba c.sc c.ti then skX c.ma c.ra a.1 c.dr c.ba c.sc c.ti else 0), n := j + 1, f := fun q => if q = j then (bif skAll c.ma c.ra c.sp c.stt a.1 c.dr c.ba c.sc c.ti then skX c.ma c.ra a.1 c.dr c.ba c.sc c.ti else 0) else a.2 q })
        rw [hk, cond_true, wrap_next (by omega)]
        exact h1 (skX c.ma c.ra a.1 c.dr c.ba c.sc c.ti, fun q => if q = j then skX c.ma c.ra a.1 c.dr c.ba c.sc c.ti else a.2 q) (by unfold skG; rw [hg, hk2])
    · have e : decide ((j : Int) < c.st) = true := decide_eq_true (by omega)
      rw [show decide ((ki_X j a).i < c.st) = true from e]; simp
  · unfold ki_step
    refine T.h_ite (fun hc => ?_) (fun _ => T.h_leaf hΨ)
    have hc : decide (((c.st.toNat : Nat) : Int) < c.st) = true := hc
    rw [decide_eq_false (by omega)] at hc
    cases hc
  · have e : ki_e (c, v) = (false, c.st.toNat, b) := by unfold ki_e skEnd; dsimp only; rw [hb]; rfl
    rw [e] at h3
    exact h3.2 rfl
  · have e : ki_e (c, v) = o := by unfold ki_e skEnd; dsimp only; rw [ho]; rfl
    rw [e] at h3
    cases hb : o.1 with
    | true => exact h3.1 hb
    | false => exact h3.2 hb

def ki_dec (b : Mem) (f : FSt) : Option (Cki × Vki) :=
  match getPtr 0 4 (findF 7 f.sl), getF .f32 (findF 2 f.sl), getF .f32 (findF 3 f.sl), getF .f32 (findF 4 f.sl), getF .f32 (findF 5 f.sl), getNil (findF 14 f.sl), getFf (findF 15 f.sl), getFf (findF 16 f.sl), getI (findF 61 f.sl), getI (findF 62 f.sl), getF .f32 (findF 1 f.sl), getSo 1 1 2 (findF 17 f.sl), id b, f.mem with
  | some (), some dr_, some ba_, some sc_, some ti_, some (), some (), some (), some st_, some q_i, some q_lo, some q_n, [], [some (.box [.fl .f32 ma_, .fl .f32 ra_, .fl .f32 sp_, .fl .f32 stt_]), some (.grow r_n [.fl .f32 q_f] 2 22), none] => if q_n = r_n then some ({ ma := ma_, ra := ra_, sp := sp_, stt := stt_, dr := dr_, ba := ba_, sc := sc_, ti := ti_, st := st_ }, { i := q_i, lo := q_lo, n := q_n, f := q_f }) else none
  | _, _, _, _, _, _, _, _, _, _, _, _, _, _ => none
theorem ki_dec_ok (b : Mem) (f : FSt) (x : Cki × Vki) (h : ki_dec b f = some x) : b = x.1.base ∧ FLe b f (ki_st x.1 x.2) := by
  unfold ki_dec at h
  split at h
  · rename_i e0 e1 e2 e3 e4 e5 e6 e7 e8 e9 e10 e11 hb hm
    obtain ⟨hbo, h9⟩ := ite_some h
    clear h
    subst hbo
    have h := h9
    cases h
    have hb : b = _ := hb
    subst hb
    refine ⟨rfl, fle_of (fun p hp => ?_) (by rw [hm]; exact memLe_refl _)⟩
    simp only [List.mem_cons, List.not_mem_nil, or_false] at hp
    rcases hp with rfl | rfl | rfl | rfl | rfl | rfl | rfl | rfl | rfl | rfl | rfl | rfl
    · exact getF_rel e10
    · exact getF_rel e1
    · exact getF_rel e2
    · exact getF_rel e3
    · exact getF_rel e4
    · exact getPtr_rel e0
    · exact getNil_rel e5
    · exact getFf_rel e6
    · exact getFf_rel e7
    · exact getSo_rel e11
    · exact getI_rel e8
    · exact getI_rel e9
  · cases h
noncomputable def ki_sum : SumF Try.prog 98 kiRoot :=
  sumL (pathB kiRoot 0) ki_dec (fun x => x.1.base) (fun x => ki_st x.1 x.2) ki_R ki_dec_ok (by
    intro code hc x
    have hc2 : code = .block 0 (.loop (bodyB kiRoot 0)) := by
      have h : subR kiRoot (pathB kiRoot 0) = some (.block 0 (.loop (bodyB kiRoot 0))) := by kernel_rfl
      rw [h] at hc; cases hc; rfl
    subst hc2
    exact ki_tri x)

theorem massB_eq (x : Nat) : (bif fin .f32 x then fge .f32 x 0 else false) = massB x := by unfold massB; cases fin .f32 x <;> rfl
theorem pos_eq (x : Nat) : (bif fin .f32 x then fgt .f32 x 0 else false) = pos x := by unfold pos; cases fin .f32 x <;> rfl
noncomputable def run_iMassW : List AV → Mem → T Res
  | [.one (.fl .f32 x)], _ => .leaf (.one (.bo (massB x)), [])
  | _, _ => .fail
theorem iMassW_ev (x : Nat) (mem : Mem) : k_sk_i_aMass.run [.one (.fl .f32 x)] mem = .leaf (.one (.bo (bif fin .f32 x then fge .f32 x 0 else false)), []) := by kernel_rfl
noncomputable def k_iMassW : Ctr Try.prog := k_sk_i_aMass.to run_iMassW (by
  intro args mem _
  unfold run_iMassW
  split
  · rw [iMassW_ev]
    exact Weak.of_eq (by rw [massB_eq])
  · exact Weak.fail _)
noncomputable def run_iLenW : List AV → Mem → T Res
  | [.one (.fl .f32 x)], _ => .leaf (.one (.bo (pos x)), [])
  | _, _ => .fail
theorem iLenW_ev (x : Nat) (mem : Mem) : k_sk_i_aLength.run [.one (.fl .f32 x)] mem = .leaf (.one (.bo (bif fin .f32 x then fgt .f32 x 0 else false)), []) := by kernel_rfl
noncomputable def k_iLenW : Ctr Try.prog := k_sk_i_aLength.to run_iLenW (by
  intro args mem _
  unfold run_iLenW
  split
  · rw [iLenW_ev]
    exact Weak.of_eq (by rw [pos_eq])
  · exact Weak.fail _)
noncomputable def k_iSr0 : Ctr Try.prog := (mkF0 Try.prog mix [k_ivb, k_IsFinite, k_iMassW, k_iLenW, k_sr_i_within, k_iSink] 35 Try.f35 (bodyOf Try.f35) Try.func35 (by kernel_rfl) (by kernel_rfl) [0, 1, 2, 3, 4, 5, 6, 7, 14, 15, 16, 17, 18, 19, 59, 61, 62, 63, 68, 80, 198] 98 (by kernel_rfl) (by kernel_rfl) [ki_sum]).mg
noncomputable def skRun (ma ra lo dr ba sc ti : Nat) (st : Int) : Bool × Nat × (Nat × (Nat → Nat)) := skEnd ma ra dr ba sc ti st.toNat 0 (lo, (fun _ => canon .f32 0 : Nat → Nat))
noncomputable def skTest (ma ra sp stt lo dr ba sc ti : Nat) (st : Int) : Bool := airB ma ra sp stt dr ba sc ti && (fin .f32 lo && (fgt .f32 lo ra && (decide (0 ≤ st) && decide (st ≤ 64))))
theorem skIt {ma ra dr ba sc ti : Nat} : ∀ (c s : Nat) (a : Nat × (Nat → Nat)), s ≤ (endX (s + c) (iterX (skG ma ra dr ba sc ti) c s a)).2.1 ∧ (endX (s + c) (iterX (skG ma ra dr ba sc ti) c s a)).2.1 ≤ s + c ∧ ((endX (s + c) (iterX (skG ma ra dr ba sc ti) c s a)).2.1 = s → (endX (s + c) (iterX (skG ma ra dr ba sc ti) c s a)).2.2 = a)
  | 0, s, a => ⟨Nat.le_refl _, Nat.le_refl _, fun _ => rfl⟩
  | c + 1, s, a => by
    cases hg : fgt .f32 a.1 ra with
    | false =>
      have e : skG ma ra dr ba sc ti s a = .inr (false, s, a) := by unfold skG; rw [hg]
      have hu : iterX (skG ma ra dr ba sc ti) (c + 1) s a = .inr (false, s, a) := by rw [iterX, e]
      rw [hu]; exact ⟨Nat.le_refl _, Nat.le_add_right _ _, fun _ => rfl⟩
    | true =>
      cases hk : skOk ma ra a.1 dr ba sc ti with
      | false =>
        have e : skG ma ra dr ba sc ti s a = .inr (true, s, a) := by unfold skG; rw [hg, hk]
        have hu : iterX (skG ma ra dr ba sc ti) (c + 1) s a = .inr (true, s, a) := by rw [iterX, e]
        rw [hu]; exact ⟨Nat.le_refl _, Nat.le_add_right _ _, fun _ => rfl⟩
      | true =>
        have e : skG ma ra dr ba sc ti s a = .inl (skX ma ra a.1 dr ba sc ti, fun q => if q = s then skX ma ra a.1 dr ba sc ti else a.2 q) := by unfold skG; rw [hg, hk]
        have hu : iterX (skG ma ra dr ba sc ti) (c + 1) s a = iterX (skG ma ra dr ba sc ti) c (s + 1) (skX ma ra a.1 dr ba sc ti, fun q => if q = s then skX ma ra a.1 dr ba sc ti else a.2 q) := by rw [iterX, e]
        rw [hu, show s + (c + 1) = (s + 1) + c by omega]
        obtain ⟨i1, i2, i3⟩ := skIt (ma := ma) (ra := ra) (dr := dr) (ba := ba) (sc := sc) (ti := ti) c (s + 1) (skX ma ra a.1 dr ba sc ti, fun q => if q = s then skX ma ra a.1 dr ba sc ti else a.2 q)
        exact ⟨Nat.le_trans (Nat.le_succ s) i1, i2, fun h => absurd i1 (by rw [h]; omega)⟩
theorem skRun_le (ma ra lo dr ba sc ti : Nat) (st : Int) : (skRun ma ra lo dr ba sc ti st).2.1 ≤ st.toNat := by
  have := (skIt (ma := ma) (ra := ra) (dr := dr) (ba := ba) (sc := sc) (ti := ti) st.toNat 0 (lo, (fun _ => canon .f32 0 : Nat → Nat))).2.1
  rw [Nat.zero_add] at this
  exact this
theorem skRun_0 (ma ra lo dr ba sc ti : Nat) (st : Int) (h : (skRun ma ra lo dr ba sc ti st).2.1 = 0) : (skRun ma ra lo dr ba sc ti st).2.2.1 = lo := by
  have := (skIt (ma := ma) (ra := ra) (dr := dr) (ba := ba) (sc := sc) (ti := ti) st.toNat 0 (lo, (fun _ => canon .f32 0 : Nat → Nat))).2.2
  rw [Nat.zero_add] at this
  exact congrArg Prod.fst (this h)
theorem iSr0_ev (ma ra sp stt lo dr ba sc ti : Nat) (st : Int) : k_iSr0.run [.agg [.fl .f32 ma, .fl .f32 ra, .fl .f32 sp, .fl .f32 stt], .one (.fl .f32 lo), .one (.fl .f32 dr), .one (.fl .f32 ba), .one (.fl .f32 sc), .one (.fl .f32 ti), .one (.num .i64 st)] [] =
    .need (bif bif !vb ma ra sp stt then true else bif !fin .f32 lo then true else bif !fgt .f32 lo ra then true else bif !massB dr then true else bif !massB ba then true else bif !pos sc then true else bif !massB ti then true else !bif decide (0 ≤ st) then decide (st ≤ 64) else false then true else ki_ok { ma := ma, ra := ra, sp := sp, stt := stt, dr := dr, ba := ba, sc := sc, ti := ti, st := st } { i := 0, lo := lo, n := 0, f := (fun _ => canon .f32 0 : Nat → Nat) }) (.ite (bif !vb ma ra sp stt then true else bif !fin .f32 lo then true else bif !fgt .f32 lo ra then true else bif !massB dr then true else bif !massB ba then true else bif !pos sc then true else bif !massB ti then true else !bif decide (0 ≤ st) then decide (st ≤ 64) else false) (.leaf (.tup [.one (.val (.slice none 0 0)), .one (.tt false), .one (.tt false)], [])) (.ite (skRun ma ra lo dr ba sc ti st).1 (.leaf (.tup [.one (.val (.slice none 0 0)), .one (.tt false), .one (.tt false)], [])) (.leaf (.tup [.one (.so 1 1 (bif decide (0 < (((skRun ma ra lo dr ba sc ti st).2.1 : Nat) : Int)) then (skRun ma ra lo dr ba sc ti st).2.1 else (skRun ma ra lo dr ba sc ti st).2.1) 2), .one (.bo (bif decide (0 < (((skRun ma ra lo dr ba sc ti st).2.1 : Nat) : Int)) then !fgt .f32 (skRun ma ra lo dr ba sc ti st).2.2.1 ra else false)), .one (.tt true)], [some (.box [.fl .f32 ma, .fl .f32 ra, .fl .f32 sp, .fl .f32 stt]), some (.grow (skRun ma ra lo dr ba sc ti st).2.1 [.fl .f32 (skRun ma ra lo dr ba sc ti st).2.2.2] 2 22), none])))) := by kernel_rfl
noncomputable def run_Sr : List AV → Mem → T Res
  | [.agg [.fl .f32 ma, .fl .f32 ra, .fl .f32 sp, .fl .f32 stt], .one (.fl .f32 lo), .one (.fl .f32 dr), .one (.fl .f32 ba), .one (.fl .f32 sc), .one (.fl .f32 ti), .one (.num .i64 st)], [] => .ite (skTest ma ra sp stt lo dr ba sc ti st) (.ite (skRun ma ra lo dr ba sc ti st).1 (.leaf (.tup [.one (.val (.slice none 0 0)), .one (.tt false), .one (.tt false)], [])) (.leaf (.tup [.one (.su 1 1 0 (skRun ma ra lo dr ba sc ti st).2.1 false), .one (.bo (!fgt .f32 (skRun ma ra lo dr ba sc ti st).2.2.1 ra)), .one (.tt true)], [none, some (.cols (skRun ma ra lo dr ba sc ti st).2.1 [.fl .f32 (skRun ma ra lo dr ba sc ti st).2.2.2]), none]))) (.leaf (.tup [.one (.val (.slice none 0 0)), .one (.tt false), .one (.tt false)], []))
  | _, _ => .fail
theorem sCS (A F G S1 S2 : Bool) : (bif !A then true else bif !F then true else bif !G then true else !bif S1 then S2 else false) = !(A && (F && (G && (S1 && S2)))) := by
  cases A <;> cases F <;> cases G <;> cases S1 <;> cases S2 <;> rfl
theorem iCS (ma ra sp stt lo dr ba sc ti : Nat) (st : Int) : (bif !vb ma ra sp stt then true else bif !fin .f32 lo then true else bif !fgt .f32 lo ra then true else bif !massB dr then true else bif !massB ba then true else bif !pos sc then true else bif !massB ti then true else !bif decide (0 ≤ st) then decide (st ≤ 64) else false) = !skTest ma ra sp stt lo dr ba sc ti st := by
  unfold skTest airB
  cases vb ma ra sp stt <;> cases fin .f32 lo <;> cases fgt .f32 lo ra <;> cases massB dr <;> cases massB ba <;> cases pos sc <;> cases massB ti <;> cases decide (0 ≤ st) <;> cases decide (st ≤ 64) <;> rfl
theorem skTest_ok {ma ra sp stt lo dr ba sc ti : Nat} {st : Int} (h : skTest ma ra sp stt lo dr ba sc ti st = true) : 0 ≤ st ∧ st ≤ 64 ∧ airB ma ra sp stt dr ba sc ti = true ∧ fin .f32 lo = true ∧ fgt .f32 lo ra = true := by
  unfold skTest at h
  simp only [Bool.and_eq_true, decide_eq_true_eq] at h
  exact ⟨h.2.2.2.1, h.2.2.2.2, h.1, h.2.1, h.2.2.1⟩
theorem sr_sh {Φ : Res → Prop} {nil row row' : Res} {m : Bool} : ∀ (t e : Bool), (t = true → m = true) → (t = true → Φ row' → Φ row) → (T.ite t (T.ite e (.leaf nil) (.leaf row')) (.leaf nil)).holds Φ → (T.need (bif !t then true else m) (T.ite (!t) (.leaf nil) (T.ite e (.leaf nil) (.leaf row)))).holds Φ := by
  intro t e hm hr h
  have ht0 : (!t) = false → t = true := by cases t <;> simp
  have ht1 : (!t) = true → t = false := by cases t <;> simp
  refine T.h_need (needT fun g => hm (ht0 g)) (T.h_ite (fun g => T.h_leaf (h.2 (ht1 g))) (fun g => T.h_ite (fun he => T.h_leaf ((h.1 (ht0 g)).1 he)) (fun he => T.h_leaf (hr (ht0 g) ((h.1 (ht0 g)).2 he)))))
set_option maxHeartbeats 4000000 in
noncomputable def k_iSr : Ctr Try.prog := (k_iSr0.to run_Sr (by
  intro args mem hm
  unfold run_Sr
  split
  · rename_i ma ra sp stt lo dr ba sc ti st
    constructor
    intro Φ hΦ h
    rw [iSr0_ev, iCS ma ra sp stt lo dr ba sc ti st]
    refine sr_sh _ _ (fun ht => ?_) (fun ht hp => ?_) h
    · obtain ⟨h1, h2, h3, h4, h5⟩ := skTest_ok ht
      exact decide_eq_true ⟨h1, h2, h3, h4, rfl, Int.le_refl 0, h1⟩
    · obtain ⟨h1, h2, h3, h4, h5⟩ := skTest_ok ht
      have hb : (bif decide (0 < (((skRun ma ra lo dr ba sc ti st).2.1 : Nat) : Int)) then !fgt .f32 (skRun ma ra lo dr ba sc ti st).2.2.1 ra else false) = !fgt .f32 (skRun ma ra lo dr ba sc ti st).2.2.1 ra := by
        cases hz : decide (0 < (((skRun ma ra lo dr ba sc ti st).2.1 : Nat) : Int)) with
        | true => rfl
        | false =>
          have h0 : (skRun ma ra lo dr ba sc ti st).2.1 = 0 := by have := of_decide_eq_false hz; omega
          rw [skRun_0 ma ra lo dr ba sc ti st h0, h5]; rfl
      have hn : (bif decide (0 < (((skRun ma ra lo dr ba sc ti st).2.1 : Nat) : Int)) then (skRun ma ra lo dr ba sc ti st).2.1 else (skRun ma ra lo dr ba sc ti st).2.1) = (skRun ma ra lo dr ba sc ti st).2.1 := by
        cases decide (0 < (((skRun ma ra lo dr ba sc ti st).2.1 : Nat) : Int)) <;> rfl
      rw [hb, hn]
      refine hΦ _ (.tup [.one (.su 1 1 0 (skRun ma ra lo dr ba sc ti st).2.1 false), .one (.bo (!fgt .f32 (skRun ma ra lo dr ba sc ti st).2.2.1 ra)), .one (.tt true)], [none, some (.cols (skRun ma ra lo dr ba sc ti st).2.1 [.fl .f32 (skRun ma ra lo dr ba sc ti st).2.2.2]), none]) ⟨⟨BlLe.grown (Nat.le_refl _), trivial⟩, fun ρ v hv => ?_⟩ hp
      obtain ⟨vs, hvs, hl⟩ := hv
      refine ⟨vs, hvs, ?_⟩
      match vs.toList, hl with
      | [a, b, d], hl => exact ⟨AvLe.grown ρ a hl.1, hl.2.1, hl.2.2.1, trivial⟩
  · exact Weak.fail _)).su.own

end Go.Proofs.Ytdmcpgbnomhahaa
