/-
  DropBody: both functions in the same words. No conditions.
-/
import Derived.Test.YtjaohecdhnhhbaaAi
import Derived.Test.YtjaohecdhnhhbaaLs
import Derived.Test.YtjaohecdhnhhbaaFi
import Derived.Test.YtjaohecdhnhhbaaLx
namespace Go.Proofs.Ytjaohecdhnhhbaa
set_option linter.unusedVariables false
set_option linter.unusedSimpArgs false
open Go.RowKit

noncomputable def k_db_s_l00In : Ctr Try.prog := (mkF Try.prog mix [] 56 Try.f56 (bodyOf Try.f56) Try.func56 (by kernel_rfl) (by kernel_rfl) [0, 1, 2, 6, 198] 15 (by kernel_rfl) (by kernel_rfl)).mg
noncomputable def k_db_s_l02Has : Ctr Try.prog := (mkF Try.prog mix [k_l02Are, k_db_s_l00In] 34 Try.f34 (bodyOf Try.f34) Try.func34 (by kernel_rfl) (by kernel_rfl) [0, 1, 4, 198] 14 (by kernel_rfl) (by kernel_rfl)).mg
noncomputable def k_db_i_within : Ctr Try.prog := (mkF Try.prog mix [] 64 Try.f64 (bodyOf Try.f64) Try.func64 (by kernel_rfl) (by kernel_rfl) [0, 1, 2, 6, 198] 15 (by kernel_rfl) (by kernel_rfl)).mg
noncomputable def k_db_i_areIndicesD1 : Ctr Try.prog := (mkF Try.prog mix [k_db_i_within] 63 Try.f63 (bodyOf Try.f63) Try.func63 (by kernel_rfl) (by kernel_rfl) [0, 1, 3, 198] 9 (by kernel_rfl) (by kernel_rfl)).mg
noncomputable def k_db_g_slices_IndexFunc_int64_i_areIndices : Ctr Try.prog := (mkF Try.prog mix [k_db_i_areIndicesD1] 91 Try.f91 (bodyOf Try.f91) Try.func91 (by kernel_rfl) (by kernel_rfl) [0, 1, 4, 5, 7, 8, 9, 16, 198] 19 (by kernel_rfl) (by kernel_rfl)).mg
noncomputable def k_db_g_slices_ContainsFunc_int64_i_areIndices : Ctr Try.prog := (mkF Try.prog mix [k_db_g_slices_IndexFunc_int64_i_areIndices, k_db_i_areIndicesD1] 62 Try.f62 (bodyOf Try.f62) Try.func62 (by kernel_rfl) (by kernel_rfl) [0, 1, 4, 198] 9 (by kernel_rfl) (by kernel_rfl)).mg
noncomputable def k_db_i_areIndices : Ctr Try.prog := (mkF Try.prog mix [k_db_i_areIndicesD1, k_db_g_slices_ContainsFunc_int64_i_areIndices] 37 Try.f37 (bodyOf Try.f37) Try.func37 (by kernel_rfl) (by kernel_rfl) [0, 1, 2, 4, 198] 9 (by kernel_rfl) (by kernel_rfl)).mg
structure Cdbs where
  n : Nat
  m : Nat
  f0 : Nat → Nat
  f1 : Nat → Nat
  f2 : Nat → Nat
  f3 : Nat → Nat
  f4 : Nat → Nat
  f5 : Nat → Nat
  f6 : Nat → Nat
  ix : Int
def Cdbs.base (c : Cdbs) : Mem := [some (.cols c.m [.fl .f32 c.f0, .fl .f32 c.f1, .fl .f32 c.f2, .fl .f32 c.f3, .fl .f32 c.f4, .fl .f32 c.f5, .fl .f32 c.f6])]
structure Vdbs where
  i : Int
  n : Nat
  a0 : Nat → Nat
  a1 : Nat → Nat
  a2 : Nat → Nat
  a3 : Nat → Nat
  a4 : Nat → Nat
  a5 : Nat → Nat
  a6 : Nat → Nat
noncomputable abbrev dbsRoot : Code := bodyOf Try.f10
def dbs_st (c : Cdbs) (v : Vdbs) : FSt := ⟨[(0, .one (.su 0 7 0 c.n false)), (1, .one (.num .i64 c.ix)), (4, .one (.val (.slice none 0 0))), (5, .one (.tt false)), (6, .one (.so 1 7 v.n 2)), (7, .one (.num .i64 v.i))], c.base ++ [some (.grow v.n [.fl .f32 v.a0, .fl .f32 v.a1, .fl .f32 v.a2, .fl .f32 v.a3, .fl .f32 v.a4, .fl .f32 v.a5, .fl .f32 v.a6] 2 65), none]⟩
def dbs_step (c : Cdbs) (v : Vdbs) : T (Nx Vdbs) :=
  .ite (decide (v.1 < ((c.1 : Nat) : Int))) (.need (bif !decide (v.1 = c.10) then decide (0 ≤ v.1) && decide (v.1 < ((c.1 : Nat) : Int)) else true) (.need (bif !decide (v.1 = c.10) then decide (v.1.toNat + 0 < c.2) else true) (.need (bif !decide (v.1 = c.10) then decide (v.2 ≤ v.2) else true) (.need (bif !decide (v.1 = c.10) then decide (0 < 1) else true) (.need (bif !decide (v.1 = c.10) then decide (v.2 + 1 ≤ 1073741824) else true) (.ite (!decide (v.1 = c.10)) (.leaf (.go { i := IntKind.i64.wrap (v.1 + 1), n := v.2 + 1, a0 := fun q => if q = v.n then c.f0 (v.i.toNat + 0) else v.a0 q, a1 := fun q => if q = v.n then c.f1 (v.i.toNat + 0) else v.a1 q, a2 := fun q => if q = v.n then c.f2 (v.i.toNat + 0) else v.a2 q, a3 := fun q => if q = v.n then c.f3 (v.i.toNat + 0) else v.a3 q, a4 := fun q => if q = v.n then c.f4 (v.i.toNat + 0) else v.a4 q, a5 := fun q => if q = v.n then c.f5 (v.i.toNat + 0) else v.a5 q, a6 := fun q => if q = v.n then c.f6 (v.i.toNat + 0) else v.a6 q })) (.leaf (.go { i := IntKind.i64.wrap (v.1 + 1), n := v.2, a0 := v.a0, a1 := v.a1, a2 := v.a2, a3 := v.a3, a4 := v.a4, a5 := v.a5, a6 := v.a6 })))))))) (.leaf (.out (EX.exit 0) ⟨[(0, AV.one (SV.su 0 7 0 c.1 false)), (1, AV.one (SV.num IntKind.i64 c.10)), (4, AV.one (SV.val (Value.slice none 0 0))), (5, AV.one (SV.tt false)), (6, AV.one (SV.so 1 7 v.2 2)), (7, AV.one (SV.num IntKind.i64 v.1))], c.base ++ [some (.grow v.n [.fl .f32 v.a0, .fl .f32 v.a1, .fl .f32 v.a2, .fl .f32 v.a3, .fl .f32 v.a4, .fl .f32 v.a5, .fl .f32 v.a6] 2 65), none]⟩))
theorem dbs_round (c : Cdbs) (v : Vdbs) : roundF Try.prog 30 [] dbsRoot [] c.base [0, 1, 4, 5, 6, 7, 11, 16, 21, 198] [0, 1, 4, 5, 6, 7] 0 (dbs_st c v) = (dbs_step c v).map (nxF (dbs_st c)) := by kernel_rfl
def dbs_s (c : Cdbs) (j : Nat) (a : Nat × (Nat → Nat) × (Nat → Nat) × (Nat → Nat) × (Nat → Nat) × (Nat → Nat) × (Nat → Nat) × (Nat → Nat)) : Nat × (Nat → Nat) × (Nat → Nat) × (Nat → Nat) × (Nat → Nat) × (Nat → Nat) × (Nat → Nat) × (Nat → Nat) := (a.1 + 1, fun q => if q = a.1 then c.f0 (j + 0) else a.2.1 q, fun q => if q = a.1 then c.f1 (j + 0) else a.2.2.1 q, fun q => if q = a.1 then c.f2 (j + 0) else a.2.2.2.1 q, fun q => if q = a.1 then c.f3 (j + 0) else a.2.2.2.2.1 q, fun q => if q = a.1 then c.f4 (j + 0) else a.2.2.2.2.2.1 q, fun q => if q = a.1 then c.f5 (j + 0) else a.2.2.2.2.2.2.1 q, fun q => if q = a.1 then c.f6 (j + 0) else a.2.2.2.2.2.2.2 q)
def dbs_g (c : Cdbs) (j : Nat) (a : Nat × (Nat → Nat) × (Nat → Nat) × (Nat → Nat) × (Nat → Nat) × (Nat → Nat) × (Nat → Nat) × (Nat → Nat)) : Nat × (Nat → Nat) × (Nat → Nat) × (Nat → Nat) × (Nat → Nat) × (Nat → Nat) × (Nat → Nat) × (Nat → Nat) := match decide ((j : Int) = c.ix) with
  | true => a
  | false => dbs_s c j a
theorem dbs_g_t {c : Cdbs} {j : Nat} {a : Nat × (Nat → Nat) × (Nat → Nat) × (Nat → Nat) × (Nat → Nat) × (Nat → Nat) × (Nat → Nat) × (Nat → Nat)} (h : decide ((j : Int) = c.ix) = true) : dbs_g c j a = a := by unfold dbs_g; rw [h]
theorem dbs_g_f {c : Cdbs} {j : Nat} {a : Nat × (Nat → Nat) × (Nat → Nat) × (Nat → Nat) × (Nat → Nat) × (Nat → Nat) × (Nat → Nat) × (Nat → Nat)} (h : decide ((j : Int) = c.ix) = false) : dbs_g c j a = dbs_s c j a := by unfold dbs_g; rw [h]
theorem dbs_le {c : Cdbs} {j : Nat} {a : Nat × (Nat → Nat) × (Nat → Nat) × (Nat → Nat) × (Nat → Nat) × (Nat → Nat) × (Nat → Nat) × (Nat → Nat)} (h : a.1 ≤ j) : (dbs_g c j a).1 ≤ j + 1 := by
  cases hc : decide ((j : Int) = c.ix) with
  | true => rw [dbs_g_t hc]; omega
  | false => rw [dbs_g_f hc]; show a.1 + 1 ≤ j + 1; omega
theorem bnot_t {b : Bool} (h : (!b) = true) : b = false := by cases b <;> simp_all
theorem bnot_f {b : Bool} (h : (!b) = false) : b = true := by cases b <;> simp_all
def dbs_ok (c : Cdbs) (v : Vdbs) : Bool := decide (c.n ≤ c.m ∧ c.n ≤ 1048576 ∧ v.n ≤ v.i.toNat ∧ 0 ≤ v.i ∧ v.i ≤ ((c.n : Nat) : Int))
def dbs_fin (c : Cdbs) (a : Nat × (Nat → Nat) × (Nat → Nat) × (Nat → Nat) × (Nat → Nat) × (Nat → Nat) × (Nat → Nat) × (Nat → Nat)) : FSt := dbs_st c ({ i := (c.n : Int), n := a.1, a0 := a.2.1, a1 := a.2.2.1, a2 := a.2.2.2.1, a3 := a.2.2.2.2.1, a4 := a.2.2.2.2.2.1, a5 := a.2.2.2.2.2.2.1, a6 := a.2.2.2.2.2.2.2 })
noncomputable def dbs_R (x : Cdbs × Vdbs) : T (EX × FSt) := .need (dbs_ok x.1 x.2) (.leaf (.normal, dbs_fin x.1 (iter (dbs_g x.1) (x.1.n - x.2.i.toNat) x.2.i.toNat (x.2.n, x.2.a0, x.2.a1, x.2.a2, x.2.a3, x.2.a4, x.2.a5, x.2.a6))))
theorem dbs_tri (x : Cdbs × Vdbs) : TriR Try.prog 30 x.1.base (.block 0 (.loop (bodyB dbsRoot 0))) (dbs_st x.1 x.2) (dbs_R x) := by
  obtain ⟨c, v⟩ := x
  refine triR_of mix (root := dbsRoot) (by kernel_rfl) (by kernel_rfl) [0, 1, 4, 5, 6, 7, 11, 16, 21, 198] [0, 1, 4, 5, 6, 7] (dbs_st c) (dbs_step c) (dbs_round c) v _ ((c.n - v.i.toNat) + 1) (fun Φ h => ?_)
  have h0 := h.1
  have h1 : Φ (.normal, dbs_fin c (iter (dbs_g c) (c.n - v.i.toNat) v.i.toNat (v.n, v.a0, v.a1, v.a2, v.a3, v.a4, v.a5, v.a6))) := h.2
  simp only [dbs_ok, decide_eq_true_eq] at h0
  obtain ⟨hk0, hk1, hk2, hi0, hin⟩ := h0
  have hv : v = (fun (j : Nat) (a : Nat × (Nat → Nat) × (Nat → Nat) × (Nat → Nat) × (Nat → Nat) × (Nat → Nat) × (Nat → Nat) × (Nat → Nat)) => ({ i := (j : Int), n := a.1, a0 := a.2.1, a1 := a.2.2.1, a2 := a.2.2.2.1, a3 := a.2.2.2.2.1, a4 := a.2.2.2.2.2.1, a5 := a.2.2.2.2.2.2.1, a6 := a.2.2.2.2.2.2.2 } : Vdbs)) v.i.toNat (v.n, v.a0, v.a1, v.a2, v.a3, v.a4, v.a5, v.a6) := by
    obtain ⟨i, n, a0, a1, a2, a3, a4, a5, a6⟩ := v
    have hi0 : 0 ≤ i := hi0
    simp only [Int.toNat_of_nonneg hi0]
  have key := T_iterI (dbs_step c) (fun (j : Nat) (a : Nat × (Nat → Nat) × (Nat → Nat) × (Nat → Nat) × (Nat → Nat) × (Nat → Nat) × (Nat → Nat) × (Nat → Nat)) => ({ i := (j : Int), n := a.1, a0 := a.2.1, a1 := a.2.2.1, a2 := a.2.2.2.1, a3 := a.2.2.2.2.1, a4 := a.2.2.2.2.2.1, a5 := a.2.2.2.2.2.2.1, a6 := a.2.2.2.2.2.2.2 } : Vdbs)) c.n (dbs_g c) (fun a => (.exit 0, dbs_fin c a)) (fun (j : Nat) (a : Nat × (Nat → Nat) × (Nat → Nat) × (Nat → Nat) × (Nat → Nat) × (Nat → Nat) × (Nat → Nat) × (Nat → Nat)) => a.1 ≤ j) (fun j a hj hI => ?_) (fun j a hj hI Ψ hΨ => ?_) (fun a Ψ hΨ => ?_) (fun a => by simp) (c.n - v.i.toNat) v.i.toNat (v.n, v.a0, v.a1, v.a2, v.a3, v.a4, v.a5, v.a6) (by omega) ?_ (fun r => Φ (blkEx 0 r.1, r.2)) (by simpa [blkEx] using h1)
  · exact (congrArg (fun z => (loopTree (dbs_step c) (c.n - v.i.toNat + 1) z).holds fun r => Φ (blkEx 0 r.1, r.2)) hv).mpr key
  · exact dbs_le hI
  · unfold dbs_step
    refine (T.h_ite (fun _ => ?_) (fun hc => absurd hc (by simp <;> omega)))
    refine (T.h_need (needE fun c0 => (by simp <;> omega)) (T.h_need (needE fun c0 => (by simp <;> omega)) (T.h_need (needE fun c0 => (by simp <;> omega)) (T.h_need (needE fun c0 => (by simp <;> omega)) (T.h_need (needE fun c0 => (by simp <;> omega)) (T.h_ite (fun hc => (T.h_leaf ?_)) (fun hc => (T.h_leaf ?_))))))))
    · rw [wrap_next (by omega)]
      rw [dbs_g_f (bnot_t hc)] at hΨ; exact hΨ
    · rw [wrap_next (by omega)]
      rw [dbs_g_t (bnot_f hc)] at hΨ; exact hΨ
  · unfold dbs_step
    refine (T.h_ite (fun hc => absurd hc (by simp <;> omega)) (fun _ => T.h_leaf hΨ))
  · exact hk2

def dbs_dec (b : Mem) (f : FSt) : Option (Cdbs × Vdbs) :=
  match getSu 0 7 (findF 0 f.sl), getI (findF 1 f.sl), getNil (findF 4 f.sl), getFf (findF 5 f.sl), getI (findF 7 f.sl), getSo 1 7 2 (findF 6 f.sl), id b, f.mem with
  | some (0, n_), some ix_, some (), some (), some q_i, some q_n, [some (.cols m_ [.fl .f32 f0_, .fl .f32 f1_, .fl .f32 f2_, .fl .f32 f3_, .fl .f32 f4_, .fl .f32 f5_, .fl .f32 f6_])], [_, some (.grow r_n [.fl .f32 q_a0, .fl .f32 q_a1, .fl .f32 q_a2, .fl .f32 q_a3, .fl .f32 q_a4, .fl .f32 q_a5, .fl .f32 q_a6] 2 65), none] => if q_n = r_n then some ({ n := n_, m := m_, f0 := f0_, f1 := f1_, f2 := f2_, f3 := f3_, f4 := f4_, f5 := f5_, f6 := f6_, ix := ix_ }, { i := q_i, n := q_n, a0 := q_a0, a1 := q_a1, a2 := q_a2, a3 := q_a3, a4 := q_a4, a5 := q_a5, a6 := q_a6 }) else none
  | _, _, _, _, _, _, _, _ => none
theorem dbs_dec_ok (b : Mem) (f : FSt) (x : Cdbs × Vdbs) (h : dbs_dec b f = some x) : b = x.1.base ∧ FLe b f (dbs_st x.1 x.2) := by
  unfold dbs_dec at h
  split at h
  · rename_i e0 e1 e2 e3 e4 e5 hb hm
    obtain ⟨hbo, h9⟩ := ite_some h
    clear h
    subst hbo
    have h := h9
    cases h
    have hb : b = _ := hb
    subst hb
    refine ⟨rfl, fle_of (fun p hp => ?_) (by rw [hm]; exact memLe_refl _)⟩
    simp only [List.mem_cons, List.not_mem_nil, or_false] at hp
    rcases hp with rfl | rfl | rfl | rfl | rfl | rfl
    · exact getSu_rel e0
    · exact getI_rel e1
    · exact getNil_rel e2
    · exact getFf_rel e3
    · exact getSo_rel e5
    · exact getI_rel e4
  · cases h
noncomputable def dbs_sum : SumF Try.prog 30 dbsRoot :=
  sumL (pathB dbsRoot 0) dbs_dec (fun x => x.1.base) (fun x => dbs_st x.1 x.2) dbs_R dbs_dec_ok (by
    intro code hc x
    have hc2 : code = .block 0 (.loop (bodyB dbsRoot 0)) := by
      have h : subR dbsRoot (pathB dbsRoot 0) = some (.block 0 (.loop (bodyB dbsRoot 0))) := by kernel_rfl
      rw [h] at hc; cases hc; rfl
    subst hc2
    exact dbs_tri x)

noncomputable def k_grow : Ctr Try.prog := mkF0 Try.prog mix [] 65 Try.f65 (bodyOf Try.f65) Try.func65 (by kernel_rfl) (by kernel_rfl) [0, 1, 4, 6, 16, 199] 27 (by kernel_rfl) (by kernel_rfl) []
noncomputable def k_cat : Ctr Try.prog := mkF0 Try.prog mix [k_grow] 38 Try.f38 (bodyOf Try.f38) Try.func38 (by kernel_rfl) (by kernel_rfl) [0, 2, 3, 5, 6, 8, 9, 10, 11, 12, 20, 25, 26, 27, 28, 199] 36 (by kernel_rfl) (by kernel_rfl) []
noncomputable def k_iDb0 : Ctr Try.prog := mkF0 Try.prog mix [k_AreBodies, k_db_i_areIndices, k_cat] 12 Try.f12 (bodyOf Try.f12) Try.func12 (by kernel_rfl) (by kernel_rfl) [0, 1, 4, 5, 16, 199] 26 (by kernel_rfl) (by kernel_rfl) []
noncomputable def k_sDb0 : Ctr Try.prog := mkF0 Try.prog mix [k_db_s_l02Has] 10 Try.f10 (bodyOf Try.f10) Try.func10 (by kernel_rfl) (by kernel_rfl) [0, 1, 4, 5, 6, 7, 11, 16, 21, 198] 30 (by kernel_rfl) (by kernel_rfl) [dbs_sum]
theorem dbGrow {n : Nat} {cs cs' : List Col} {k : Nat} {t : TypeId} (h : ∀ i, i < n → colsAt cs i = colsAt cs' i) (hl : cs'.length = cs.length) : BlLe (.grow n cs k t) (.cols n cs') :=
  fun ρ w b o hb => BlLe.cols_eq h hl ρ w b o (BlLe.grown (Nat.le_refl n) ρ w b o hb)
theorem cat_sh {Φ : Res → Prop} {S1 S0 S : Int} {L1 L2 I1 I2 m : Nat} {row nil : Res} (h1 : S1 = (L1 : Int)) (h0 : S0 = ((L1 + L2 : Nat) : Int)) (hS : S = ((L1 + L2 : Nat) : Int)) (hI1 : I1 + L1 ≤ m) (hI2 : I2 + L2 ≤ m) (hb : L1 + L2 ≤ 1048576)
    (hr : 0 < L1 + L2 → Φ row) (hn : L1 + L2 = 0 → Φ nil) : ((T.need (true) (T.need (true) (T.ite (decide (S1 < 0)) T.fail (T.need (true) (T.need (true) (T.ite (decide (S0 < 0)) T.fail (T.ite (decide (S0 < 0)) T.fail (T.ite (decide (0 < S)) (T.need (true) (T.need (true) (T.need (true) (T.need (decide (0 < S ∧ S ≤ 2 ^ 30)) (T.need (decide (0 ≤ ((S).toNat : Int) ∧ ((S).toNat : Int) ≤ ((S).toNat : Int))) (T.need (true) (T.need (true) (T.need (true) (T.need (true) (T.need (true) (T.need (decide (I1 + L1 ≤ m)) (T.need (decide (0 + L1 ≤ 1073741824)) (T.need (true) (T.need (true) (T.need (decide (0 + L1 ≤ 0 + L1)) (T.need (decide (I2 + L2 ≤ m)) (T.need (decide (0 + L1 + L2 ≤ 1073741824)) (T.leaf row)))))))))))))))))) (T.need (true) (T.need (true) (T.need (decide (L1 = 0)) (T.need (true) (T.need (true) (T.need (decide (L2 = 0)) (T.leaf nil))))))))))))))) : T Res).holds Φ := by
  subst h1; subst h0; subst hS
  refine T.h_need rfl (T.h_need rfl (T.h_ite (fun h => ?_) (fun _ => T.h_need rfl (T.h_need rfl (T.h_ite (fun h => ?_) (fun _ => T.h_ite (fun h => ?_) (fun _ => T.h_ite (fun h => ?_) (fun h => ?_))))))))
  · have := of_decide_eq_true h; omega
  · have := of_decide_eq_true h; omega
  · have := of_decide_eq_true h; omega
  · have h := of_decide_eq_true h
    refine T.h_need rfl (T.h_need rfl (T.h_need rfl (T.h_need (decide_eq_true ⟨h, ?_⟩) (T.h_need (decide_eq_true ⟨by omega, by omega⟩) (T.h_need rfl (T.h_need rfl (T.h_need rfl (T.h_need rfl (T.h_need rfl (T.h_need (decide_eq_true hI1) (T.h_need (decide_eq_true (by omega)) (T.h_need rfl (T.h_need rfl (T.h_need (decide_eq_true (Nat.le_refl _)) (T.h_need (decide_eq_true hI2) (T.h_need (decide_eq_true (by omega)) (T.h_leaf (hr (by omega)))))))))))))))))))
    have : (2 : Int) ^ 30 = 1073741824 := by decide
    omega
  · have h := of_decide_eq_false h
    exact T.h_need rfl (T.h_need rfl (T.h_need (decide_eq_true (by omega)) (T.h_need rfl (T.h_need rfl (T.h_need (decide_eq_true (by omega)) (T.h_leaf (hn (by omega))))))))
theorem iDb0_ev (n m : Nat) (ix : Int) (f0 f1 f2 f3 f4 f5 f6 : Nat → Nat) : k_iDb0.run [.one (.su 0 7 0 n false), .one (.num .i64 ix)] [some (.cols m [.fl .f32 f0, .fl .f32 f1, .fl .f32 f2, .fl .f32 f3, .fl .f32 f4, .fl .f32 f5, .fl .f32 f6])] =
    .need (decide (n ≤ m)) (.ite (!areB n f0 f1 f2 f3 f4 f5 f6) (.leaf (.tup [.one (.val (.slice none 0 0)), .one (.tt false)], [])) (.need true (.need true (.ite (!!decide (0 ≤ bif !bif decide (0 ≤ ix) then decide (ix ≤ IntKind.i64.wrap ((n : Int) - 1)) else false then (0 : Int) else -1)) (.leaf (.tup [.one (.val (.slice none 0 0)), .one (.tt false)], []))
      (.need (decide (0 ≤ (n : Int) ∧ (n : Int) ≤ (n : Int))) (.need (decide (0 ≤ ix ∧ ix ≤ (n : Int))) (.need (decide (0 ≤ (0 : Int) ∧ (0 : Int) ≤ ix)) (.need (decide (0 ≤ (n : Int) ∧ (n : Int) ≤ (n : Int))) (.need (decide (0 ≤ (n : Int) ∧ (n : Int) ≤ (n : Int))) (.need (decide (0 ≤ IntKind.i64.wrap (ix + 1) ∧ IntKind.i64.wrap (ix + 1) ≤ (n : Int))) ((T.need (true) (T.need (true) (T.ite (decide ((IntKind.i64.wrap (0 + ((ix.toNat : Nat) : Int))) < 0)) T.fail (T.need (true) (T.need (true) (T.ite (decide ((IntKind.i64.wrap ((IntKind.i64.wrap (0 + ((ix.toNat : Nat) : Int))) + (((n - (IntKind.i64.wrap (ix + 1)).toNat) : Nat) : Int))) < 0)) T.fail (T.ite (decide ((IntKind.i64.wrap ((IntKind.i64.wrap (0 + ((ix.toNat : Nat) : Int))) + (((n - (IntKind.i64.wrap (ix + 1)).toNat) : Nat) : Int))) < 0)) T.fail (T.ite (decide (0 < (IntKind.i64.wrap ((IntKind.i64.wrap ((IntKind.i64.wrap (0 + ((ix.toNat : Nat) : Int))) + (((n - (IntKind.i64.wrap (ix + 1)).toNat) : Nat) : Int))) - IntKind.i64.wrap (0 - 0))))) (T.need (true) (T.need (true) (T.need (true) (T.need (decide (0 < (IntKind.i64.wrap ((IntKind.i64.wrap ((IntKind.i64.wrap (0 + ((ix.toNat : Nat) : Int))) + (((n - (IntKind.i64.wrap (ix + 1)).toNat) : Nat) : Int))) - IntKind.i64.wrap (0 - 0))) ∧ (IntKind.i64.wrap ((IntKind.i64.wrap ((IntKind.i64.wrap (0 + ((ix.toNat : Nat) : Int))) + (((n - (IntKind.i64.wrap (ix + 1)).toNat) : Nat) : Int))) - IntKind.i64.wrap (0 - 0))) ≤ 2 ^ 30)) (T.need (decide (0 ≤ (((IntKind.i64.wrap ((IntKind.i64.wrap ((IntKind.i64.wrap (0 + ((ix.toNat : Nat) : Int))) + (((n - (IntKind.i64.wrap (ix + 1)).toNat) : Nat) : Int))) - IntKind.i64.wrap (0 - 0)))).toNat : Int) ∧ (((IntKind.i64.wrap ((IntKind.i64.wrap ((IntKind.i64.wrap (0 + ((ix.toNat : Nat) : Int))) + (((n - (IntKind.i64.wrap (ix + 1)).toNat) : Nat) : Int))) - IntKind.i64.wrap (0 - 0)))).toNat : Int) ≤ (((IntKind.i64.wrap ((IntKind.i64.wrap ((IntKind.i64.wrap (0 + ((ix.toNat : Nat) : Int))) + (((n - (IntKind.i64.wrap (ix + 1)).toNat) : Nat) : Int))) - IntKind.i64.wrap (0 - 0)))).toNat : Int))) (T.need (true) (T.need (true) (T.need (true) (T.need (true) (T.need (true) (T.need (decide (0 + 0 + ix.toNat ≤ m)) (T.need (decide (0 + ix.toNat ≤ 1073741824)) (T.need (true) (T.need (true) (T.need (decide (0 + ix.toNat ≤ 0 + ix.toNat)) (T.need (decide (0 + (IntKind.i64.wrap (ix + 1)).toNat + (n - (IntKind.i64.wrap (ix + 1)).toNat) ≤ m)) (T.need (decide (0 + ix.toNat + (n - (IntKind.i64.wrap (ix + 1)).toNat) ≤ 1073741824)) (T.leaf (.tup [.one (.so 3 7 (0 + ix.toNat + (n - (IntKind.i64.wrap (ix + 1)).toNat)) 4), .one (.tt true)], [some (rowBlk 1 1 [.num .i64 ix]), some (rowBlk 2 1 [.su 0 7 (0 + 0) ix.toNat false, .su 0 7 (0 + (IntKind.i64.wrap (ix + 1)).toNat) (n - (IntKind.i64.wrap (ix + 1)).toNat) false]), some (.grow (0 + ix.toNat + (n - (IntKind.i64.wrap (ix + 1)).toNat)) [.fl .f32 fun j => if j < 0 + ix.toNat then (if j < 0 then canon .f32 0 else f0 (0 + 0 + (j - 0))) else f0 (0 + (IntKind.i64.wrap (ix + 1)).toNat + (j - (0 + ix.toNat))), .fl .f32 fun j => if j < 0 + ix.toNat then (if j < 0 then canon .f32 0 else f1 (0 + 0 + (j - 0))) else f1 (0 + (IntKind.i64.wrap (ix + 1)).toNat + (j - (0 + ix.toNat))), .fl .f32 fun j => if j < 0 + ix.toNat then (if j < 0 then canon .f32 0 else f2 (0 + 0 + (j - 0))) else f2 (0 + (IntKind.i64.wrap (ix + 1)).toNat + (j - (0 + ix.toNat))), .fl .f32 fun j => if j < 0 + ix.toNat then (if j < 0 then canon .f32 0 else f3 (0 + 0 + (j - 0))) else f3 (0 + (IntKind.i64.wrap (ix + 1)).toNat + (j - (0 + ix.toNat))), .fl .f32 fun j => if j < 0 + ix.toNat then (if j < 0 then canon .f32 0 else f4 (0 + 0 + (j - 0))) else f4 (0 + (IntKind.i64.wrap (ix + 1)).toNat + (j - (0 + ix.toNat))), .fl .f32 fun j => if j < 0 + ix.toNat then (if j < 0 then canon .f32 0 else f5 (0 + 0 + (j - 0))) else f5 (0 + (IntKind.i64.wrap (ix + 1)).toNat + (j - (0 + ix.toNat))), .fl .f32 fun j => if j < 0 + ix.toNat then (if j < 0 then canon .f32 0 else f6 (0 + 0 + (j - 0))) else f6 (0 + (IntKind.i64.wrap (ix + 1)).toNat + (j - (0 + ix.toNat)))] 4 65), none]))))))))))))))))))) (T.need (true) (T.need (true) (T.need (decide (ix.toNat = 0)) (T.need (true) (T.need (true) (T.need (decide ((n - (IntKind.i64.wrap (ix + 1)).toNat) = 0)) (T.leaf (.tup [.one (.val (.slice none 0 0)), .one (.tt true)], []))))))))))))))))))))))))))) := by kernel_rfl
def dropAt (ix : Int) (f : Nat → Nat) : Nat → Nat := fun q => if q < ix.toNat then f q else f (q + 1)
def dbT (n : Nat) (ix : Int) (f0 f1 f2 f3 f4 f5 f6 : Nat → Nat) : Bool := areB n f0 f1 f2 f3 f4 f5 f6 && (decide (0 ≤ ix) && decide (ix ≤ (n : Int) - 1))
def run_iDb : List AV → Mem → T Res
  | [.one (.su 0 7 0 n false), .one (.num .i64 ix)], [some (.cols m [.fl .f32 f0, .fl .f32 f1, .fl .f32 f2, .fl .f32 f3, .fl .f32 f4, .fl .f32 f5, .fl .f32 f6])] => .need (decide (n ≤ m)) (.ite (dbT n ix f0 f1 f2 f3 f4 f5 f6) (.ite (decide (1 < n)) (.leaf (.tup [.one (.su 3 7 0 (n - 1) false), .one (.tt true)], [none, none, some (.cols (n - 1) [.fl .f32 (dropAt ix f0), .fl .f32 (dropAt ix f1), .fl .f32 (dropAt ix f2), .fl .f32 (dropAt ix f3), .fl .f32 (dropAt ix f4), .fl .f32 (dropAt ix f5), .fl .f32 (dropAt ix f6)]), none])) (.leaf (.tup [.one (.su 0 7 0 0 false), .one (.tt true)], []))) (.leaf (.tup [.one (.val (.slice none 0 0)), .one (.tt false)], [])))
  | _, _ => .fail
theorem iTest_eq {n : Nat} {ix : Int} (hn : n ≤ 16) : (!!decide (0 ≤ bif !bif decide (0 ≤ ix) then decide (ix ≤ IntKind.i64.wrap ((n : Int) - 1)) else false then (0 : Int) else -1)) = !(decide (0 ≤ ix) && decide (ix ≤ (n : Int) - 1)) := by
  rw [IntWalk.i64_in _ (by omega)]
  cases decide (0 ≤ ix) <;> cases decide (ix ≤ (n : Int) - 1) <;> rfl
theorem dbT_out {n : Nat} {ix : Int} {f0 f1 f2 f3 f4 f5 f6 : Nat → Nat} (hA : (!areB n f0 f1 f2 f3 f4 f5 f6) = false) (hB : (!(decide (0 ≤ ix) && decide (ix ≤ (n : Int) - 1))) = false) : dbT n ix f0 f1 f2 f3 f4 f5 f6 = true ∧ 0 ≤ ix ∧ ix ≤ (n : Int) - 1 := by
  have a := bnot_f hA
  have b := bnot_f hB
  refine ⟨by unfold dbT; rw [a, b]; rfl, ?_⟩
  simpa using b
set_option maxHeartbeats 4000000 in
noncomputable def k_iDb : Ctr Try.prog := (k_iDb0.to run_iDb (by
  intro args mem _
  unfold run_iDb
  split
  · rename_i n ix m f0 f1 f2 f3 f4 f5 f6 _
    rw [iDb0_ev]
    constructor
    intro Φ hΦ h
    have hm := of_decide_eq_true h.1
    have hl := h.2
    refine T.h_need h.1 (T.h_ite (fun hA => T.h_leaf (hl.2 (by unfold dbT; rw [bnot_t hA]; rfl))) (fun hA => ?_))
    have h16 : n ≤ 16 := areB_le (bnot_f hA)
    rw [iTest_eq h16]
    refine T.h_need rfl (T.h_need rfl ?_)
    refine T.h_ite (fun hB => T.h_leaf (hl.2 (by unfold dbT; rw [bnot_t hB, Bool.and_false]))) (fun hB => ?_)
    obtain ⟨ht, h0, h1⟩ := dbT_out hA hB
    have hw : IntKind.i64.wrap (ix + 1) = ix + 1 := IntWalk.i64_in _ (by omega)
    rw [hw]
    refine T.h_need (decide_eq_true (by omega)) (T.h_need (decide_eq_true (by omega)) (T.h_need (decide_eq_true (by omega)) (T.h_need (decide_eq_true (by omega)) (T.h_need (decide_eq_true (by omega)) (T.h_need (decide_eq_true (by omega)) ?_)))))
    have e1 : IntKind.i64.wrap (0 + ((ix.toNat : Nat) : Int)) = ((ix.toNat : Nat) : Int) := by rw [IntWalk.i64_in _ (by omega)]; omega
    have e2 : IntKind.i64.wrap (IntKind.i64.wrap (0 + ((ix.toNat : Nat) : Int)) + ((n - (ix + 1).toNat : Nat) : Int)) = ((ix.toNat + (n - (ix + 1).toNat) : Nat) : Int) := by rw [e1, IntWalk.i64_in _ (by omega)]; omega
    have e3 : IntKind.i64.wrap (IntKind.i64.wrap (IntKind.i64.wrap (0 + ((ix.toNat : Nat) : Int)) + ((n - (ix + 1).toNat : Nat) : Int)) - IntKind.i64.wrap (0 - 0)) = ((ix.toNat + (n - (ix + 1).toNat) : Nat) : Int) := by
      rw [e2, show IntKind.i64.wrap (0 - 0) = 0 by decide, IntWalk.i64_in _ (by omega)]; omega
    have hln : 0 + ix.toNat + (n - (ix + 1).toNat) = n - 1 := by omega
    refine cat_sh e1 e2 e3 (by omega) (by omega) (by omega) (fun hp => ?_) (fun hp => ?_)
    · have h2 : 1 < n := by omega
      refine hΦ _ (.tup [.one (.su 3 7 0 (n - 1) false), .one (.tt true)], [none, none, some (.cols (n - 1) [.fl .f32 (dropAt ix f0), .fl .f32 (dropAt ix f1), .fl .f32 (dropAt ix f2), .fl .f32 (dropAt ix f3), .fl .f32 (dropAt ix f4), .fl .f32 (dropAt ix f5), .fl .f32 (dropAt ix f6)]), none]) ⟨⟨?_, trivial⟩, fun ρ v hv => ?_⟩ ((hl.1 ht).1 (decide_eq_true h2))
      · rw [hln]
        refine dbGrow (fun i hi => ?_) rfl
        have key : ∀ f : Nat → Nat, (if i < 0 + ix.toNat then (if i < 0 then canon .f32 0 else f (0 + 0 + (i - 0))) else f (0 + (ix + 1).toNat + (i - (0 + ix.toNat)))) = dropAt ix f i := by
          intro f
          unfold dropAt
          by_cases hq : i < ix.toNat
          · rw [if_pos (by omega), if_neg (by omega), if_pos hq]; congr 1; omega
          · rw [if_neg (by omega), if_neg hq]; congr 1; omega
        simp only [colsAt, Col.at, key]
      · obtain ⟨vs, hvs, hl⟩ := hv
        refine ⟨vs, hvs, ?_⟩
        match vs.toList, hl with
        | [a, b], hl => exact ⟨by have := hl.1; rw [hln] at this; exact AvLe.grown ρ a this, hl.2.1, trivial⟩
    · have h2 : ¬ 1 < n := by omega
      refine hΦ _ (.tup [.one (.su 0 7 0 0 false), .one (.tt true)], []) ⟨trivial, fun ρ v hv => ?_⟩ ((hl.1 ht).2 (decide_eq_false h2))
      obtain ⟨vs, hvs, hl⟩ := hv
      refine ⟨vs, hvs, ?_⟩
      match vs.toList, hl with
      | [a, b], hl =>
        obtain ⟨rfl, _⟩ := hl.1
        exact ⟨⟨none, 0, rfl, Nat.le_refl 0, fun h => absurd h (Nat.lt_irrefl 0)⟩, hl.2.1, trivial⟩
  · exact Weak.fail _)).su.own
theorem iter_inv {A : Type} (g : Nat → A → A) (P : Nat → A → Prop) (hs : ∀ j a, P j a → P (j + 1) (g j a)) : ∀ (c s : Nat) (a : A), P s a → P (s + c) (iter g c s a)
  | 0, _, _, h => h
  | c + 1, s, a, h => by
    show P (s + (c + 1)) (iter g c (s + 1) (g s a))
    rw [show s + (c + 1) = (s + 1) + c by omega]
    exact iter_inv g P hs c (s + 1) _ (hs s a h)
def dbP (c : Cdbs) (j : Nat) (a : Nat × (Nat → Nat) × (Nat → Nat) × (Nat → Nat) × (Nat → Nat) × (Nat → Nat) × (Nat → Nat) × (Nat → Nat)) : Prop := a.1 = (if (j : Int) ≤ c.ix then j else j - 1) ∧ ∀ q, q < a.1 → a.2.1 q = dropAt c.ix c.f0 q ∧ a.2.2.1 q = dropAt c.ix c.f1 q ∧ a.2.2.2.1 q = dropAt c.ix c.f2 q ∧ a.2.2.2.2.1 q = dropAt c.ix c.f3 q ∧ a.2.2.2.2.2.1 q = dropAt c.ix c.f4 q ∧ a.2.2.2.2.2.2.1 q = dropAt c.ix c.f5 q ∧ a.2.2.2.2.2.2.2 q = dropAt c.ix c.f6 q
theorem dbP_step (c : Cdbs) (h0 : 0 ≤ c.ix) (j : Nat) (a : Nat × (Nat → Nat) × (Nat → Nat) × (Nat → Nat) × (Nat → Nat) × (Nat → Nat) × (Nat → Nat) × (Nat → Nat)) (h : dbP c j a) : dbP c (j + 1) (dbs_g c j a) := by
  obtain ⟨h1, h2⟩ := h
  cases hc : decide ((j : Int) = c.ix) with
  | true =>
    have hj := of_decide_eq_true hc
    rw [dbs_g_t hc]
    refine ⟨?_, h2⟩
    rw [h1, if_pos (by omega), if_neg (by omega)]; omega
  | false =>
    have hj := of_decide_eq_false hc
    rw [dbs_g_f hc]
    have e1 : (dbs_s c j a).1 = a.1 + 1 := rfl
    refine ⟨?_, fun q hq => ?_⟩
    · rw [e1, h1]
      by_cases hk : (j : Int) ≤ c.ix
      · rw [if_pos hk, if_pos (by omega)]
      · rw [if_neg hk, if_neg (by omega)]; omega
    · rw [e1] at hq
      have key : ∀ f g : Nat → Nat, (q < a.1 → g q = dropAt c.ix f q) → (if q = a.1 then f (j + 0) else g q) = dropAt c.ix f q := by
        intro f g hg
        by_cases hqa : q = a.1
        · rw [if_pos hqa]
          unfold dropAt
          by_cases hk : (j : Int) ≤ c.ix
          · rw [if_pos hk] at h1
            rw [if_pos (by omega)]; congr 1; omega
          · rw [if_neg hk] at h1
            rw [if_neg (by omega)]; congr 1; omega
        · rw [if_neg hqa]; exact hg (by omega)
      exact ⟨key c.f0 a.2.1 (fun h => (h2 q h).1), key c.f1 a.2.2.1 (fun h => (h2 q h).2.1), key c.f2 a.2.2.2.1 (fun h => (h2 q h).2.2.1), key c.f3 a.2.2.2.2.1 (fun h => (h2 q h).2.2.2.1), key c.f4 a.2.2.2.2.2.1 (fun h => (h2 q h).2.2.2.2.1), key c.f5 a.2.2.2.2.2.2.1 (fun h => (h2 q h).2.2.2.2.2.1), key c.f6 a.2.2.2.2.2.2.2 (fun h => (h2 q h).2.2.2.2.2.2)⟩
def dbE (n m : Nat) (ix : Int) (f0 f1 f2 f3 f4 f5 f6 : Nat → Nat) : Nat × (Nat → Nat) × (Nat → Nat) × (Nat → Nat) × (Nat → Nat) × (Nat → Nat) × (Nat → Nat) × (Nat → Nat) := iter (dbs_g { n := n, m := m, f0 := f0, f1 := f1, f2 := f2, f3 := f3, f4 := f4, f5 := f5, f6 := f6, ix := ix }) n 0 (0, fun _ => canon .f32 0, fun _ => canon .f32 0, fun _ => canon .f32 0, fun _ => canon .f32 0, fun _ => canon .f32 0, fun _ => canon .f32 0, fun _ => canon .f32 0)
theorem dbE_at {n m : Nat} {ix : Int} {f0 f1 f2 f3 f4 f5 f6 : Nat → Nat} (h0 : 0 ≤ ix) (h1 : ix ≤ (n : Int) - 1) : dbP { n := n, m := m, f0 := f0, f1 := f1, f2 := f2, f3 := f3, f4 := f4, f5 := f5, f6 := f6, ix := ix } n (dbE n m ix f0 f1 f2 f3 f4 f5 f6) := by
  have := iter_inv (dbs_g { n := n, m := m, f0 := f0, f1 := f1, f2 := f2, f3 := f3, f4 := f4, f5 := f5, f6 := f6, ix := ix }) (dbP { n := n, m := m, f0 := f0, f1 := f1, f2 := f2, f3 := f3, f4 := f4, f5 := f5, f6 := f6, ix := ix }) (dbP_step { n := n, m := m, f0 := f0, f1 := f1, f2 := f2, f3 := f3, f4 := f4, f5 := f5, f6 := f6, ix := ix } h0) n 0 (0, fun _ => canon .f32 0, fun _ => canon .f32 0, fun _ => canon .f32 0, fun _ => canon .f32 0, fun _ => canon .f32 0, fun _ => canon .f32 0, fun _ => canon .f32 0) ⟨(if_pos (show ((0 : Nat) : Int) ≤ ix from h0)).symm, fun q hq => absurd hq (Nat.not_lt_zero q)⟩
  rwa [Nat.zero_add] at this
theorem sDb0_ev (n m : Nat) (ix : Int) (f0 f1 f2 f3 f4 f5 f6 : Nat → Nat) : k_sDb0.run [.one (.su 0 7 0 n false), .one (.num .i64 ix)] [some (.cols m [.fl .f32 f0, .fl .f32 f1, .fl .f32 f2, .fl .f32 f3, .fl .f32 f4, .fl .f32 f5, .fl .f32 f6])] =
    .need (decide (n ≤ m)) (.ite (!bif areB n f0 f1 f2 f3 f4 f5 f6 then bif decide (0 ≤ ix) then decide (ix ≤ IntKind.i64.wrap ((n : Int) - 1)) else false else false) (.leaf (.tup [.one (.val (.slice none 0 0)), .one (.tt false)], [])) (.need (dbs_ok { n := n, m := m, f0 := f0, f1 := f1, f2 := f2, f3 := f3, f4 := f4, f5 := f5, f6 := f6, ix := ix } { i := 0, n := 0, a0 := fun _ => canon .f32 0, a1 := fun _ => canon .f32 0, a2 := fun _ => canon .f32 0, a3 := fun _ => canon .f32 0, a4 := fun _ => canon .f32 0, a5 := fun _ => canon .f32 0, a6 := fun _ => canon .f32 0 })
      (.leaf (.tup [.one (.so 1 7 (dbE n m ix f0 f1 f2 f3 f4 f5 f6).1 2), .one (.tt true)], [some (.grow (dbE n m ix f0 f1 f2 f3 f4 f5 f6).1 [.fl .f32 (dbE n m ix f0 f1 f2 f3 f4 f5 f6).2.1, .fl .f32 (dbE n m ix f0 f1 f2 f3 f4 f5 f6).2.2.1, .fl .f32 (dbE n m ix f0 f1 f2 f3 f4 f5 f6).2.2.2.1, .fl .f32 (dbE n m ix f0 f1 f2 f3 f4 f5 f6).2.2.2.2.1, .fl .f32 (dbE n m ix f0 f1 f2 f3 f4 f5 f6).2.2.2.2.2.1, .fl .f32 (dbE n m ix f0 f1 f2 f3 f4 f5 f6).2.2.2.2.2.2.1, .fl .f32 (dbE n m ix f0 f1 f2 f3 f4 f5 f6).2.2.2.2.2.2.2] 2 65), none])))) := by kernel_rfl
def run_sDb : List AV → Mem → T Res
  | [.one (.su 0 7 0 n false), .one (.num .i64 ix)], [some (.cols m [.fl .f32 f0, .fl .f32 f1, .fl .f32 f2, .fl .f32 f3, .fl .f32 f4, .fl .f32 f5, .fl .f32 f6])] => .need (decide (n ≤ m)) (.ite (dbT n ix f0 f1 f2 f3 f4 f5 f6) (.leaf (.tup [.one (.su 1 7 0 (n - 1) false), .one (.tt true)], [some (.cols (n - 1) [.fl .f32 (dropAt ix f0), .fl .f32 (dropAt ix f1), .fl .f32 (dropAt ix f2), .fl .f32 (dropAt ix f3), .fl .f32 (dropAt ix f4), .fl .f32 (dropAt ix f5), .fl .f32 (dropAt ix f6)]), none])) (.leaf (.tup [.one (.val (.slice none 0 0)), .one (.tt false)], [])))
  | _, _ => .fail
set_option maxHeartbeats 4000000 in
noncomputable def k_sDb : Ctr Try.prog := (k_sDb0.to run_sDb (by
  intro args mem _
  unfold run_sDb
  split
  · rename_i n ix m f0 f1 f2 f3 f4 f5 f6 _
    rw [sDb0_ev]
    constructor
    intro Φ hΦ h
    have hm := of_decide_eq_true h.1
    have hl := h.2
    refine T.h_need h.1 ?_
    cases hA : areB n f0 f1 f2 f3 f4 f5 f6 with
    | false =>
      rw [cond_false]
      exact T.h_ite (fun _ => T.h_leaf (hl.2 (by unfold dbT; rw [hA]; rfl))) (fun hB => absurd hB (by simp))
    | true =>
      have h16 : n ≤ 16 := areB_le hA
      have e : (bif decide (0 ≤ ix) then decide (ix ≤ IntKind.i64.wrap ((n : Int) - 1)) else false) = (decide (0 ≤ ix) && decide (ix ≤ (n : Int) - 1)) := by
        rw [IntWalk.i64_in _ (by omega)]; cases decide (0 ≤ ix) <;> rfl
      rw [cond_true, e]
      refine T.h_ite (fun hB => T.h_leaf (hl.2 (by unfold dbT; rw [bnot_t hB, Bool.and_false]))) (fun hB => ?_)
      obtain ⟨ht, h0, h1⟩ := dbT_out (by rw [hA]; rfl) hB
      obtain ⟨p1, p2⟩ := dbE_at (n := n) (m := m) (ix := ix) (f0 := f0) (f1 := f1) (f2 := f2) (f3 := f3) (f4 := f4) (f5 := f5) (f6 := f6) h0 h1
      have hln : (dbE n m ix f0 f1 f2 f3 f4 f5 f6).1 = n - 1 := by rw [p1, if_neg (show ¬ ((n : Int) ≤ ix) by omega)]
      refine T.h_need (decide_eq_true ⟨hm, by show n ≤ 1048576; omega, Nat.le_refl 0, Int.le_refl 0, Int.natCast_nonneg n⟩) (T.h_leaf (hΦ _ (.tup [.one (.su 1 7 0 (n - 1) false), .one (.tt true)], [some (.cols (n - 1) [.fl .f32 (dropAt ix f0), .fl .f32 (dropAt ix f1), .fl .f32 (dropAt ix f2), .fl .f32 (dropAt ix f3), .fl .f32 (dropAt ix f4), .fl .f32 (dropAt ix f5), .fl .f32 (dropAt ix f6)]), none]) ⟨⟨?_, trivial⟩, fun ρ v hv => ?_⟩ (hl.1 ht)))
      · rw [hln] at p2 ⊢
        refine dbGrow (fun i hi => ?_) rfl
        obtain ⟨k0, k1, k2, k3, k4, k5, k6⟩ := p2 i hi
        simp only [colsAt, Col.at, k0, k1, k2, k3, k4, k5, k6]
      · obtain ⟨vs, hvs, hl⟩ := hv
        refine ⟨vs, hvs, ?_⟩
        match vs.toList, hl with
        | [a, b], hl => exact ⟨by have := hl.1; rw [hln] at this; exact AvLe.grown ρ a this, hl.2.1, trivial⟩
  · exact Weak.fail _)).su.own

end Go.Proofs.Ytjaohecdhnhhbaa
