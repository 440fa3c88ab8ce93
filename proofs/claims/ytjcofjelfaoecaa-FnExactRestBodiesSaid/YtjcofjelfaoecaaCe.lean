/-
  CentreOfBodies: both functions in the same words. No conditions.
-/
import Derived.Test.YtjcofjelfaoecaaMb
namespace Go.Proofs.Ytjcofjelfaoecaa
set_option linter.unusedVariables false
set_option linter.unusedSimpArgs false
open Go.RowKit

noncomputable def k_ce_s_l01VAdd : Ctr Try.prog := (mkF Try.prog mix [] 79 Try.f79 (bodyOf Try.f79) Try.func79 (by kernel_rfl) (by kernel_rfl) [0, 1, 2, 3, 4] 21 (by kernel_rfl) (by kernel_rfl)).mg
noncomputable def k_ce_s_l01VScale : Ctr Try.prog := (mkF Try.prog mix [] 80 Try.f80 (bodyOf Try.f80) Try.func80 (by kernel_rfl) (by kernel_rfl) [0, 1, 2, 4] 18 (by kernel_rfl) (by kernel_rfl)).mg
noncomputable def k_ce_s_l02Number : Ctr Try.prog := (mkF Try.prog mix [k_l01Finite] 66 Try.f66 (bodyOf Try.f66) Try.func66 (by kernel_rfl) (by kernel_rfl) [0, 2, 3, 6] 8 (by kernel_rfl) (by kernel_rfl)).mg
noncomputable def k_ce_i_AddVectors : Ctr Try.prog := (mkF Try.prog mix [] 99 Try.f99 (bodyOf Try.f99) Try.func99 (by kernel_rfl) (by kernel_rfl) [0, 1, 2, 3, 4] 21 (by kernel_rfl) (by kernel_rfl)).mg
noncomputable def k_ce_i_ScaleVector : Ctr Try.prog := (mkF Try.prog mix [] 82 Try.f82 (bodyOf Try.f82) Try.func82 (by kernel_rfl) (by kernel_rfl) [0, 1, 2, 4] 18 (by kernel_rfl) (by kernel_rfl)).mg
noncomputable def k_ce_i_told : Ctr Try.prog := (mkF Try.prog mix [k_IsFinite] 70 Try.f70 (bodyOf Try.f70) Try.func70 (by kernel_rfl) (by kernel_rfl) [0, 2, 3, 6] 8 (by kernel_rfl) (by kernel_rfl)).mg
noncomputable def k_ce_i_CentreOfBodiesD1 : Ctr Try.prog := (mkF Try.prog mix [k_ce_i_ScaleVector] 84 Try.f84 (bodyOf Try.f84) Try.func84 (by kernel_rfl) (by kernel_rfl) [0, 1, 2] 8 (by kernel_rfl) (by kernel_rfl)).mg
noncomputable def k_ce_i_CentreOfBodiesD2 : Ctr Try.prog := (mkF Try.prog mix [k_ce_i_ScaleVector] 85 Try.f85 (bodyOf Try.f85) Try.func85 (by kernel_rfl) (by kernel_rfl) [0, 1, 2] 8 (by kernel_rfl) (by kernel_rfl)).mg
structure Cms where
  n : Nat
  m : Nat
  f0 : Nat → Nat
  f1 : Nat → Nat
  f2 : Nat → Nat
  f3 : Nat → Nat
  f4 : Nat → Nat
  f5 : Nat → Nat
  f6 : Nat → Nat
def Cms.base (c : Cms) : Mem := [some (.cols c.m [.fl .f32 c.f0, .fl .f32 c.f1, .fl .f32 c.f2, .fl .f32 c.f3, .fl .f32 c.f4, .fl .f32 c.f5, .fl .f32 c.f6])]
structure Vms where
  i : Int
  a : Nat
noncomputable abbrev msRoot : Code := bodyOf Try.f116
def ms_st (c : Cms) (v : Vms) : FSt := ⟨[(0, .one (.su 0 7 0 c.n false)), (3, .one (.fl .f32 v.a)), (4, .one (.num .i64 v.i))], c.base ++ []⟩
def ms_step (c : Cms) (v : Vms) : T (Nx Vms) :=
  .ite (decide (v.1 < ↑c.1)) (.need (decide (0 ≤ v.1) && decide (v.1 < ↑c.1)) (.need (decide (v.1.toNat + 0 < c.2)) (.leaf (.go { i := IntKind.i64.wrap (v.1 + 1), a := fadd FloatKind.f32 v.2 (c.9 (v.1.toNat + 0)) })))) (.leaf (.out (EX.exit 0) ⟨[(0, AV.one (SV.su 0 7 0 c.1 false)), (3, AV.one (SV.fl FloatKind.f32 v.2)), (4, AV.one (SV.num IntKind.i64 v.1))], c.base ++ []⟩))
theorem ms_round (c : Cms) (v : Vms) : roundF Try.prog 19 [] msRoot [] c.base [0, 2, 3, 4, 8, 198] [0, 3, 4] 0 (ms_st c v) = (ms_step c v).map (nxF (ms_st c)) := by kernel_rfl
def ms_g (c : Cms) (j a : Nat) : Nat := fadd .f32 a (c.f6 j)
def ms_ok (c : Cms) (v : Vms) : Bool := decide (c.n ≤ c.m ∧ c.n ≤ 1099511627776 ∧ 0 ≤ v.i ∧ v.i ≤ ((c.n : Nat) : Int))
def ms_fin (c : Cms) (a : Nat) : FSt := ms_st c ({ i := (c.n : Int), a := a })
noncomputable def ms_R (x : Cms × Vms) : T (EX × FSt) := .need (ms_ok x.1 x.2) (.leaf (.normal, ms_fin x.1 (iter (ms_g x.1) (x.1.n - x.2.i.toNat) x.2.i.toNat x.2.a)))
theorem ms_tri (x : Cms × Vms) : TriR Try.prog 19 x.1.base (.block 0 (.loop (bodyB msRoot 0))) (ms_st x.1 x.2) (ms_R x) := by
  obtain ⟨c, v⟩ := x
  refine triR_of mix (root := msRoot) (by kernel_rfl) (by kernel_rfl) [0, 2, 3, 4, 8, 198] [0, 3, 4] (ms_st c) (ms_step c) (ms_round c) v _ ((c.n - v.i.toNat) + 1) (fun Φ h => ?_)
  have h0 := h.1
  have h1 : Φ (.normal, ms_fin c (iter (ms_g c) (c.n - v.i.toNat) v.i.toNat v.a)) := h.2
  simp only [ms_ok, decide_eq_true_eq] at h0
  obtain ⟨hk0, hk1, hi0, hin⟩ := h0
  have hv : v = (fun (j : Nat) (a : Nat) => ({ i := (j : Int), a := a } : Vms)) v.i.toNat v.a := by
    obtain ⟨i, a⟩ := v
    have hi0 : 0 ≤ i := hi0
    simp only [Int.toNat_of_nonneg hi0]
  have key := T_iter (ms_step c) (fun (j : Nat) (a : Nat) => ({ i := (j : Int), a := a } : Vms)) c.n (ms_g c) (fun a => (.exit 0, ms_fin c a)) (fun j a hj Ψ hΨ => ?_) (fun a Ψ hΨ => ?_) (fun a => by simp) (c.n - v.i.toNat) v.i.toNat v.a (by omega) (fun r => Φ (blkEx 0 r.1, r.2)) (by simpa [blkEx] using h1)
  · exact (congrArg (fun z => (loopTree (ms_step c) (c.n - v.i.toNat + 1) z).holds fun r => Φ (blkEx 0 r.1, r.2)) hv).mpr key
  · unfold ms_step
    refine (T.h_ite (fun _ => ?_) (fun hc => absurd hc (by simp <;> omega)))
    refine (T.h_need (by simp <;> omega) (T.h_need (by simp <;> omega) ?_))
    refine T.h_leaf ?_
    rw [wrap_next (by omega)]
    exact hΨ
  · unfold ms_step
    refine (T.h_ite (fun hc => absurd hc (by simp <;> omega)) (fun _ => T.h_leaf hΨ.2))

def ms_dec (b : Mem) (f : FSt) : Option (Cms × Vms) :=
  match getSu 0 7 (findF 0 f.sl), getI (findF 4 f.sl), getF .f32 (findF 3 f.sl), id b, f.mem with
  | some (0, n_), some q_i, some q_a, [some (.cols m_ [.fl .f32 f0_, .fl .f32 f1_, .fl .f32 f2_, .fl .f32 f3_, .fl .f32 f4_, .fl .f32 f5_, .fl .f32 f6_])], [_] => some ({ n := n_, m := m_, f0 := f0_, f1 := f1_, f2 := f2_, f3 := f3_, f4 := f4_, f5 := f5_, f6 := f6_ }, { i := q_i, a := q_a })
  | _, _, _, _, _ => none
theorem ms_dec_ok (b : Mem) (f : FSt) (x : Cms × Vms) (h : ms_dec b f = some x) : b = x.1.base ∧ FLe b f (ms_st x.1 x.2) := by
  unfold ms_dec at h
  split at h
  · rename_i e0 e1 e2 hb hm
    cases h
    have hb : b = _ := hb
    subst hb
    refine ⟨rfl, fle_of (fun p hp => ?_) (by rw [hm]; exact trivial)⟩
    simp only [List.mem_cons, List.not_mem_nil, or_false] at hp
    rcases hp with rfl | rfl | rfl
    · exact getSu_rel e0
    · exact getF_rel e2
    · exact getI_rel e1
  · cases h
noncomputable def ms_sum : SumF Try.prog 19 msRoot :=
  sumL (pathB msRoot 0) ms_dec (fun x => x.1.base) (fun x => ms_st x.1 x.2) ms_R ms_dec_ok (by
    intro code hc x
    have hc2 : code = .block 0 (.loop (bodyB msRoot 0)) := by
      have h : subR msRoot (pathB msRoot 0) = some (.block 0 (.loop (bodyB msRoot 0))) := by kernel_rfl
      rw [h] at hc; cases hc; rfl
    subst hc2
    exact ms_tri x)

structure Cmo where
  n : Nat
  m : Nat
  f0 : Nat → Nat
  f1 : Nat → Nat
  f2 : Nat → Nat
  f3 : Nat → Nat
  f4 : Nat → Nat
  f5 : Nat → Nat
  f6 : Nat → Nat
  l : Int
def Cmo.base (c : Cmo) : Mem := [some (.cols c.m [.fl .f32 c.f0, .fl .f32 c.f1, .fl .f32 c.f2, .fl .f32 c.f3, .fl .f32 c.f4, .fl .f32 c.f5, .fl .f32 c.f6])]
structure Vmo where
  i : Int
  a : Nat
noncomputable abbrev moRoot : Code := bodyOf Try.f117
def mo_st (c : Cmo) (v : Vmo) : FSt := ⟨[(3, .one (.fl .f32 v.a)), (6, .one (.su 0 7 0 c.n false)), (7, .one (.num .i64 c.l)), (8, .one (.num .i64 v.i))], c.base ++ []⟩
def mo_step (c : Cmo) (v : Vmo) : T (Nx Vmo) :=
  .ite (decide (v.1 < c.10)) (.need (decide (0 ≤ v.1) && decide (v.1 < ↑c.1)) (.need (decide (v.1.toNat + 0 < c.2)) (.leaf (.go { i := IntKind.i64.wrap (v.1 + 1), a := fadd FloatKind.f32 v.2 (c.9 (v.1.toNat + 0)) })))) (.leaf (.out (EX.exit 0) ⟨[(3, AV.one (SV.fl FloatKind.f32 v.2)), (6, AV.one (SV.su 0 7 0 c.1 false)), (7, AV.one (SV.num IntKind.i64 c.10)), (8, AV.one (SV.num IntKind.i64 v.1))], c.base ++ []⟩))
theorem mo_round (c : Cmo) (v : Vmo) : roundF Try.prog 18 [] moRoot [] c.base [0, 2, 3, 5, 6, 7, 8, 9, 198] [3, 6, 7, 8] 0 (mo_st c v) = (mo_step c v).map (nxF (mo_st c)) := by kernel_rfl
def mo_g (c : Cmo) (j a : Nat) : Nat := fadd .f32 a (c.f6 j)
def mo_ok (c : Cmo) (v : Vmo) : Bool := decide (c.n ≤ c.m ∧ c.n ≤ 1099511627776 ∧ c.l = (c.n : Int) ∧ 0 ≤ v.i ∧ v.i ≤ ((c.n : Nat) : Int))
def mo_fin (c : Cmo) (a : Nat) : FSt := mo_st c ({ i := (c.n : Int), a := a })
noncomputable def mo_R (x : Cmo × Vmo) : T (EX × FSt) := .need (mo_ok x.1 x.2) (.leaf (.normal, mo_fin x.1 (iter (mo_g x.1) (x.1.n - x.2.i.toNat) x.2.i.toNat x.2.a)))
theorem mo_tri (x : Cmo × Vmo) : TriR Try.prog 18 x.1.base (.block 0 (.loop (bodyB moRoot 0))) (mo_st x.1 x.2) (mo_R x) := by
  obtain ⟨c, v⟩ := x
  refine triR_of mix (root := moRoot) (by kernel_rfl) (by kernel_rfl) [0, 2, 3, 5, 6, 7, 8, 9, 198] [3, 6, 7, 8] (mo_st c) (mo_step c) (mo_round c) v _ ((c.n - v.i.toNat) + 1) (fun Φ h => ?_)
  have h0 := h.1
  have h1 : Φ (.normal, mo_fin c (iter (mo_g c) (c.n - v.i.toNat) v.i.toNat v.a)) := h.2
  simp only [mo_ok, decide_eq_true_eq] at h0
  obtain ⟨hk0, hk1, hk2, hi0, hin⟩ := h0
  have hv : v = (fun (j : Nat) (a : Nat) => ({ i := (j : Int), a := a } : Vmo)) v.i.toNat v.a := by
    obtain ⟨i, a⟩ := v
    have hi0 : 0 ≤ i := hi0
    simp only [Int.toNat_of_nonneg hi0]
  have key := T_iter (mo_step c) (fun (j : Nat) (a : Nat) => ({ i := (j : Int), a := a } : Vmo)) c.n (mo_g c) (fun a => (.exit 0, mo_fin c a)) (fun j a hj Ψ hΨ => ?_) (fun a Ψ hΨ => ?_) (fun a => by simp) (c.n - v.i.toNat) v.i.toNat v.a (by omega) (fun r => Φ (blkEx 0 r.1, r.2)) (by simpa [blkEx] using h1)
  · exact (congrArg (fun z => (loopTree (mo_step c) (c.n - v.i.toNat + 1) z).holds fun r => Φ (blkEx 0 r.1, r.2)) hv).mpr key
  · unfold mo_step
    refine (T.h_ite (fun _ => ?_) (fun hc => absurd hc (by simp <;> omega)))
    refine (T.h_need (by simp <;> omega) (T.h_need (by simp <;> omega) ?_))
    refine T.h_leaf ?_
    rw [wrap_next (by omega)]
    exact hΨ
  · unfold mo_step
    refine (T.h_ite (fun hc => absurd hc (by simp <;> omega)) (fun _ => T.h_leaf hΨ.2))

def mo_dec (b : Mem) (f : FSt) : Option (Cmo × Vmo) :=
  match getSu 0 7 (findF 6 f.sl), getI (findF 7 f.sl), getI (findF 8 f.sl), getF .f32 (findF 3 f.sl), id b, f.mem with
  | some (0, n_), some l_, some q_i, some q_a, [some (.cols m_ [.fl .f32 f0_, .fl .f32 f1_, .fl .f32 f2_, .fl .f32 f3_, .fl .f32 f4_, .fl .f32 f5_, .fl .f32 f6_])], [_] => some ({ n := n_, m := m_, f0 := f0_, f1 := f1_, f2 := f2_, f3 := f3_, f4 := f4_, f5 := f5_, f6 := f6_, l := l_ }, { i := q_i, a := q_a })
  | _, _, _, _, _, _ => none
theorem mo_dec_ok (b : Mem) (f : FSt) (x : Cmo × Vmo) (h : mo_dec b f = some x) : b = x.1.base ∧ FLe b f (mo_st x.1 x.2) := by
  unfold mo_dec at h
  split at h
  · rename_i e0 e1 e2 e3 hb hm
    cases h
    have hb : b = _ := hb
    subst hb
    refine ⟨rfl, fle_of (fun p hp => ?_) (by rw [hm]; exact trivial)⟩
    simp only [List.mem_cons, List.not_mem_nil, or_false] at hp
    rcases hp with rfl | rfl | rfl | rfl
    · exact getF_rel e3
    · exact getSu_rel e0
    · exact getI_rel e1
    · exact getI_rel e2
  · cases h
noncomputable def mo_sum : SumF Try.prog 18 moRoot :=
  sumL (pathB moRoot 0) mo_dec (fun x => x.1.base) (fun x => mo_st x.1 x.2) mo_R mo_dec_ok (by
    intro code hc x
    have hc2 : code = .block 0 (.loop (bodyB moRoot 0)) := by
      have h : subR moRoot (pathB moRoot 0) = some (.block 0 (.loop (bodyB moRoot 0))) := by kernel_rfl
      rw [h] at hc; cases hc; rfl
    subst hc2
    exact mo_tri x)

def getFf : AV → Option Unit
  | .one (.tt false) => some ()
  | _ => none
theorem getFf_rel {a : AV} (h : getFf a = some ()) (ρ : Rho) (v : Value) (hv : a.rel ρ v) : (AV.one (.tt false)).rel ρ v := by
  unfold getFf at h
  split at h
  · exact hv
  · cases h
structure Cce where
  n : Nat
  m : Nat
  f0 : Nat → Nat
  f1 : Nat → Nat
  f2 : Nat → Nat
  f3 : Nat → Nat
  f4 : Nat → Nat
  f5 : Nat → Nat
  f6 : Nat → Nat
  mass : Nat
  y0 : Nat
  y1 : Nat
  y2 : Nat
  z0 : Nat
  z1 : Nat
  z2 : Nat
def Cce.base (c : Cce) : Mem := [some (.cols c.m [.fl .f32 c.f0, .fl .f32 c.f1, .fl .f32 c.f2, .fl .f32 c.f3, .fl .f32 c.f4, .fl .f32 c.f5, .fl .f32 c.f6])]
structure Vce where
  i : Int
  a0 : Nat
  a1 : Nat
  a2 : Nat
  b0 : Nat
  b1 : Nat
  b2 : Nat
noncomputable abbrev ceRoot : Code := bodyOf Try.f29
def ce_st (c : Cce) (v : Vce) : FSt := ⟨[(0, .one (.su 0 7 0 c.n false)), (2, .one (.ptr 1 3 0 0)), (3, .one (.ptr 2 3 0 0)), (4, .one (.tt false)), (5, .one (.fl .f32 c.mass)), (7, .one (.ptr 3 3 0 0)), (8, .one (.ptr 4 3 0 0)), (9, .one (.num .i64 v.i))], c.base ++ [some (.box [.fl .f32 c.y0, .fl .f32 c.y1, .fl .f32 c.y2]), some (.box [.fl .f32 c.z0, .fl .f32 c.z1, .fl .f32 c.z2]), some (.box [.fl .f32 v.a0, .fl .f32 v.a1, .fl .f32 v.a2]), some (.box [.fl .f32 v.b0, .fl .f32 v.b1, .fl .f32 v.b2])]⟩
def ce_step (c : Cce) (v : Vce) : T (Nx Vce) :=
  .ite (decide (v.1 < ↑c.1)) (.need (decide (0 ≤ v.1) && decide (v.1 < ↑c.1)) (.need (decide (v.1.toNat + 0 < c.2)) (.need (decide (0 ≤ v.1) && decide (v.1 < ↑c.1)) (.need (decide (v.1.toNat + 0 < c.2)) (.need (decide (0 ≤ v.1) && decide (v.1 < ↑c.1)) (.need (decide (v.1.toNat + 0 < c.2)) (.need (decide (0 ≤ v.1) && decide (v.1 < ↑c.1)) (.need (decide (v.1.toNat + 0 < c.2)) (.leaf (.go { i := IntKind.i64.wrap (v.1 + 1), a0 := (fadd FloatKind.f32 v.2 (fmul FloatKind.f32 (c.3 (v.1.toNat + 0)) (c.9 (v.1.toNat + 0)))), a1 := (fadd FloatKind.f32 v.3 (fmul FloatKind.f32 (c.4 (v.1.toNat + 0)) (c.9 (v.1.toNat + 0)))), a2 := (fadd FloatKind.f32 v.4 (fmul FloatKind.f32 (c.5 (v.1.toNat + 0)) (c.9 (v.1.toNat + 0)))), b0 := (fadd FloatKind.f32 v.5 (fmul FloatKind.f32 (c.6 (v.1.toNat + 0)) (c.9 (v.1.toNat + 0)))), b1 := (fadd FloatKind.f32 v.6 (fmul FloatKind.f32 (c.7 (v.1.toNat + 0)) (c.9 (v.1.toNat + 0)))), b2 := (fadd FloatKind.f32 v.7 (fmul FloatKind.f32 (c.8 (v.1.toNat + 0)) (c.9 (v.1.toNat + 0)))) })))))))))) (.leaf (.out (EX.exit 0) ⟨[(0, AV.one (SV.su 0 7 0 c.1 false)), (2, AV.one (SV.ptr 1 3 0 0)), (3, AV.one (SV.ptr 2 3 0 0)), (4, AV.one (SV.tt false)), (5, AV.one (SV.fl FloatKind.f32 c.10)), (7, AV.one (SV.ptr 3 3 0 0)), (8, AV.one (SV.ptr 4 3 0 0)), (9, AV.one (SV.num IntKind.i64 v.1))], c.base ++ [some (.box [.fl .f32 c.y0, .fl .f32 c.y1, .fl .f32 c.y2]), some (.box [.fl .f32 c.z0, .fl .f32 c.z1, .fl .f32 c.z2]), some (.box [.fl .f32 v.a0, .fl .f32 v.a1, .fl .f32 v.a2]), some (.box [.fl .f32 v.b0, .fl .f32 v.b1, .fl .f32 v.b2])]⟩))
theorem ce_round (c : Cce) (v : Vce) : roundF Try.prog 73 [k_ce_s_l01VAdd, k_ce_s_l01VScale] ceRoot [] c.base [0, 2, 3, 4, 5, 6, 7, 8, 9, 16, 24, 68, 198] [0, 2, 3, 4, 5, 7, 8, 9] 0 (ce_st c v) = (ce_step c v).map (nxF (ce_st c)) := by kernel_rfl
def ce_g (c : Cce) (j : Nat) (a : Nat × Nat × Nat × Nat × Nat × Nat) : Nat × Nat × Nat × Nat × Nat × Nat := (fadd .f32 (a.1) (fmul .f32 (c.f0 j) (c.f6 j)), fadd .f32 (a.2.1) (fmul .f32 (c.f1 j) (c.f6 j)), fadd .f32 (a.2.2.1) (fmul .f32 (c.f2 j) (c.f6 j)), fadd .f32 (a.2.2.2.1) (fmul .f32 (c.f3 j) (c.f6 j)), fadd .f32 (a.2.2.2.2.1) (fmul .f32 (c.f4 j) (c.f6 j)), fadd .f32 (a.2.2.2.2.2) (fmul .f32 (c.f5 j) (c.f6 j)))
def ce_ok (c : Cce) (v : Vce) : Bool := decide (c.n ≤ c.m ∧ c.n ≤ 1099511627776 ∧ 0 ≤ v.i ∧ v.i ≤ ((c.n : Nat) : Int))
def ce_fin (c : Cce) (a : Nat × Nat × Nat × Nat × Nat × Nat) : FSt := ce_st c ({ i := (c.n : Int), a0 := a.1, a1 := a.2.1, a2 := a.2.2.1, b0 := a.2.2.2.1, b1 := a.2.2.2.2.1, b2 := a.2.2.2.2.2 })
noncomputable def ce_R (x : Cce × Vce) : T (EX × FSt) := .need (ce_ok x.1 x.2) (.leaf (.normal, ce_fin x.1 (iter (ce_g x.1) (x.1.n - x.2.i.toNat) x.2.i.toNat (x.2.a0, x.2.a1, x.2.a2, x.2.b0, x.2.b1, x.2.b2))))
theorem ce_tri (x : Cce × Vce) : TriR Try.prog 73 x.1.base (.block 0 (.loop (bodyB ceRoot 0))) (ce_st x.1 x.2) (ce_R x) := by
  obtain ⟨c, v⟩ := x
  refine triR_of mix (root := ceRoot) (by kernel_rfl) (by kernel_rfl) [0, 2, 3, 4, 5, 6, 7, 8, 9, 16, 24, 68, 198] [0, 2, 3, 4, 5, 7, 8, 9] (ce_st c) (ce_step c) (ce_round c) v _ ((c.n - v.i.toNat) + 1) (fun Φ h => ?_)
  have h0 := h.1
  have h1 : Φ (.normal, ce_fin c (iter (ce_g c) (c.n - v.i.toNat) v.i.toNat (v.a0, v.a1, v.a2, v.b0, v.b1, v.b2))) := h.2
  simp only [ce_ok, decide_eq_true_eq] at h0
  obtain ⟨hk0, hk1, hi0, hin⟩ := h0
  have hv : v = (fun (j : Nat) (a : Nat × Nat × Nat × Nat × Nat × Nat) => ({ i := (j : Int), a0 := a.1, a1 := a.2.1, a2 := a.2.2.1, b0 := a.2.2.2.1, b1 := a.2.2.2.2.1, b2 := a.2.2.2.2.2 } : Vce)) v.i.toNat (v.a0, v.a1, v.a2, v.b0, v.b1, v.b2) := by
    obtain ⟨i, a0, a1, a2, b0, b1, b2⟩ := v
    have hi0 : 0 ≤ i := hi0
    simp only [Int.toNat_of_nonneg hi0]
  have key := T_iter (ce_step c) (fun (j : Nat) (a : Nat × Nat × Nat × Nat × Nat × Nat) => ({ i := (j : Int), a0 := a.1, a1 := a.2.1, a2 := a.2.2.1, b0 := a.2.2.2.1, b1 := a.2.2.2.2.1, b2 := a.2.2.2.2.2 } : Vce)) c.n (ce_g c) (fun a => (.exit 0, ce_fin c a)) (fun j a hj Ψ hΨ => ?_) (fun a Ψ hΨ => ?_) (fun a => by simp) (c.n - v.i.toNat) v.i.toNat (v.a0, v.a1, v.a2, v.b0, v.b1, v.b2) (by omega) (fun r => Φ (blkEx 0 r.1, r.2)) (by simpa [blkEx] using h1)
  · exact (congrArg (fun z => (loopTree (ce_step c) (c.n - v.i.toNat + 1) z).holds fun r => Φ (blkEx 0 r.1, r.2)) hv).mpr key
  · unfold ce_step
    refine (T.h_ite (fun _ => ?_) (fun hc => absurd hc (by simp <;> omega)))
    refine (T.h_need (by simp <;> omega) (T.h_need (by simp <;> omega) (T.h_need (by simp <;> omega) (T.h_need (by simp <;> omega) (T.h_need (by simp <;> omega) (T.h_need (by simp <;> omega) (T.h_need (by simp <;> omega) (T.h_need (by simp <;> omega) ?_))))))))
    refine T.h_leaf ?_
    rw [wrap_next (by omega)]
    exact hΨ
  · unfold ce_step
    refine (T.h_ite (fun hc => absurd hc (by simp <;> omega)) (fun _ => T.h_leaf hΨ.2))

def ce_dec (b : Mem) (f : FSt) : Option (Cce × Vce) :=
  match getSu 0 7 (findF 0 f.sl), getPtr 1 3 (findF 2 f.sl), getPtr 2 3 (findF 3 f.sl), getFf (findF 4 f.sl), getF .f32 (findF 5 f.sl), getPtr 3 3 (findF 7 f.sl), getPtr 4 3 (findF 8 f.sl), getI (findF 9 f.sl), id b, f.mem with
  | some (0, n_), some (), some (), some (), some mass_, some (), some (), some q_i, [some (.cols m_ [.fl .f32 f0_, .fl .f32 f1_, .fl .f32 f2_, .fl .f32 f3_, .fl .f32 f4_, .fl .f32 f5_, .fl .f32 f6_])], [_, some (.box [.fl .f32 y0_, .fl .f32 y1_, .fl .f32 y2_]), some (.box [.fl .f32 z0_, .fl .f32 z1_, .fl .f32 z2_]), some (.box [.fl .f32 q_a0, .fl .f32 q_a1, .fl .f32 q_a2]), some (.box [.fl .f32 q_b0, .fl .f32 q_b1, .fl .f32 q_b2])] => some ({ n := n_, m := m_, f0 := f0_, f1 := f1_, f2 := f2_, f3 := f3_, f4 := f4_, f5 := f5_, f6 := f6_, mass := mass_, y0 := y0_, y1 := y1_, y2 := y2_, z0 := z0_, z1 := z1_, z2 := z2_ }, { i := q_i, a0 := q_a0, a1 := q_a1, a2 := q_a2, b0 := q_b0, b1 := q_b1, b2 := q_b2 })
  | _, _, _, _, _, _, _, _, _, _ => none
theorem ce_dec_ok (b : Mem) (f : FSt) (x : Cce × Vce) (h : ce_dec b f = some x) : b = x.1.base ∧ FLe b f (ce_st x.1 x.2) := by
  unfold ce_dec at h
  split at h
  · rename_i e0 e1 e2 e3 e4 e5 e6 e7 hb hm
    cases h
    have hb : b = _ := hb
    subst hb
    refine ⟨rfl, fle_of (fun p hp => ?_) (by rw [hm]; exact memLe_refl _)⟩
    simp only [List.mem_cons, List.not_mem_nil, or_false] at hp
    rcases hp with rfl | rfl | rfl | rfl | rfl | rfl | rfl | rfl
    · exact getSu_rel e0
    · exact getPtr_rel e1
    · exact getPtr_rel e2
    · exact getFf_rel e3
    · exact getF_rel e4
    · exact getPtr_rel e5
    · exact getPtr_rel e6
    · exact getI_rel e7
  · cases h
noncomputable def ce_sum : SumF Try.prog 73 ceRoot :=
  sumL (pathB ceRoot 0) ce_dec (fun x => x.1.base) (fun x => ce_st x.1 x.2) ce_R ce_dec_ok (by
    intro code hc x
    have hc2 : code = .block 0 (.loop (bodyB ceRoot 0)) := by
      have h : subR ceRoot (pathB ceRoot 0) = some (.block 0 (.loop (bodyB ceRoot 0))) := by kernel_rfl
      rw [h] at hc; cases hc; rfl
    subst hc2
    exact ce_tri x)

structure Cve1 where
  n : Nat
  m : Nat
  f0 : Nat → Nat
  f1 : Nat → Nat
  f2 : Nat → Nat
  f3 : Nat → Nat
  f4 : Nat → Nat
  f5 : Nat → Nat
  f6 : Nat → Nat
  l : Int
  y0 : Nat
  y1 : Nat
  y2 : Nat
def Cve1.base (c : Cve1) : Mem := [some (.cols c.m [.fl .f32 c.f0, .fl .f32 c.f1, .fl .f32 c.f2, .fl .f32 c.f3, .fl .f32 c.f4, .fl .f32 c.f5, .fl .f32 c.f6])]
structure Vve1 where
  i : Int
  a0 : Nat
  a1 : Nat
  a2 : Nat
noncomputable abbrev ve1Root : Code := bodyOf Try.f83
def ve1_st (c : Cve1) (v : Vve1) : FSt := ⟨[(1, .one (.fn 84 [])), (4, .one (.ptr 1 3 0 0)), (5, .one (.ptr 2 3 0 0)), (9, .one (.su 0 7 0 c.n false)), (10, .one (.num .i64 c.l)), (11, .one (.num .i64 v.i))], c.base ++ [some (.box [.fl .f32 c.y0, .fl .f32 c.y1, .fl .f32 c.y2]), some (.box [.fl .f32 v.a0, .fl .f32 v.a1, .fl .f32 v.a2])]⟩
def ve1_step (c : Cve1) (v : Vve1) : T (Nx Vve1) :=
  .ite (decide (v.1 < c.10)) (.need (decide (0 ≤ v.1) && decide (v.1 < ↑c.1)) (.need (decide (v.1.toNat + 0 < c.2)) (.leaf (.go { i := IntKind.i64.wrap (v.1 + 1), a0 := (fadd FloatKind.f32 v.2 (fmul FloatKind.f32 (c.3 (v.1.toNat + 0)) (c.9 (v.1.toNat + 0)))), a1 := (fadd FloatKind.f32 v.3 (fmul FloatKind.f32 (c.4 (v.1.toNat + 0)) (c.9 (v.1.toNat + 0)))), a2 := (fadd FloatKind.f32 v.4 (fmul FloatKind.f32 (c.5 (v.1.toNat + 0)) (c.9 (v.1.toNat + 0)))) })))) (.leaf (.out (EX.exit 0) ⟨[(1, AV.one (SV.fn 84 [])), (4, AV.one (SV.ptr 1 3 0 0)), (5, AV.one (SV.ptr 2 3 0 0)), (9, AV.one (SV.su 0 7 0 c.1 false)), (10, AV.one (SV.num IntKind.i64 c.10)), (11, AV.one (SV.num IntKind.i64 v.1))], c.base ++ [some (.box [.fl .f32 c.y0, .fl .f32 c.y1, .fl .f32 c.y2]), some (.box [.fl .f32 v.a0, .fl .f32 v.a1, .fl .f32 v.a2])]⟩))
theorem ve1_round (c : Cve1) (v : Vve1) : roundF Try.prog 22 [k_ce_i_CentreOfBodiesD1, k_ce_i_AddVectors] ve1Root [] c.base [0, 1, 4, 5, 7, 9, 10, 11, 12, 198] [1, 4, 5, 9, 10, 11] 0 (ve1_st c v) = (ve1_step c v).map (nxF (ve1_st c)) := by kernel_rfl
def ve1_g (c : Cve1) (j : Nat) (a : Nat × Nat × Nat) : Nat × Nat × Nat := (fadd .f32 (a.1) (fmul .f32 (c.f0 j) (c.f6 j)), fadd .f32 (a.2.1) (fmul .f32 (c.f1 j) (c.f6 j)), fadd .f32 (a.2.2) (fmul .f32 (c.f2 j) (c.f6 j)))
def ve1_ok (c : Cve1) (v : Vve1) : Bool := decide (c.n ≤ c.m ∧ c.n ≤ 1099511627776 ∧ c.l = (c.n : Int) ∧ 0 ≤ v.i ∧ v.i ≤ ((c.n : Nat) : Int))
def ve1_fin (c : Cve1) (a : Nat × Nat × Nat) : FSt := ve1_st c ({ i := (c.n : Int), a0 := a.1, a1 := a.2.1, a2 := a.2.2 })
noncomputable def ve1_R (x : Cve1 × Vve1) : T (EX × FSt) := .need (ve1_ok x.1 x.2) (.leaf (.normal, ve1_fin x.1 (iter (ve1_g x.1) (x.1.n - x.2.i.toNat) x.2.i.toNat (x.2.a0, x.2.a1, x.2.a2))))
theorem ve1_tri (x : Cve1 × Vve1) : TriR Try.prog 22 x.1.base (.block 0 (.loop (bodyB ve1Root 0))) (ve1_st x.1 x.2) (ve1_R x) := by
  obtain ⟨c, v⟩ := x
  refine triR_of mix (root := ve1Root) (by kernel_rfl) (by kernel_rfl) [0, 1, 4, 5, 7, 9, 10, 11, 12, 198] [1, 4, 5, 9, 10, 11] (ve1_st c) (ve1_step c) (ve1_round c) v _ ((c.n - v.i.toNat) + 1) (fun Φ h => ?_)
  have h0 := h.1
  have h1 : Φ (.normal, ve1_fin c (iter (ve1_g c) (c.n - v.i.toNat) v.i.toNat (v.a0, v.a1, v.a2))) := h.2
  simp only [ve1_ok, decide_eq_true_eq] at h0
  obtain ⟨hk0, hk1, hk2, hi0, hin⟩ := h0
  have hv : v = (fun (j : Nat) (a : Nat × Nat × Nat) => ({ i := (j : Int), a0 := a.1, a1 := a.2.1, a2 := a.2.2 } : Vve1)) v.i.toNat (v.a0, v.a1, v.a2) := by
    obtain ⟨i, a0, a1, a2⟩ := v
    have hi0 : 0 ≤ i := hi0
    simp only [Int.toNat_of_nonneg hi0]
  have key := T_iter (ve1_step c) (fun (j : Nat) (a : Nat × Nat × Nat) => ({ i := (j : Int), a0 := a.1, a1 := a.2.1, a2 := a.2.2 } : Vve1)) c.n (ve1_g c) (fun a => (.exit 0, ve1_fin c a)) (fun j a hj Ψ hΨ => ?_) (fun a Ψ hΨ => ?_) (fun a => by simp) (c.n - v.i.toNat) v.i.toNat (v.a0, v.a1, v.a2) (by omega) (fun r => Φ (blkEx 0 r.1, r.2)) (by simpa [blkEx] using h1)
  · exact (congrArg (fun z => (loopTree (ve1_step c) (c.n - v.i.toNat + 1) z).holds fun r => Φ (blkEx 0 r.1, r.2)) hv).mpr key
  · unfold ve1_step
    refine (T.h_ite (fun _ => ?_) (fun hc => absurd hc (by simp <;> omega)))
    refine (T.h_need (by simp <;> omega) (T.h_need (by simp <;> omega) ?_))
    refine T.h_leaf ?_
    rw [wrap_next (by omega)]
    exact hΨ
  · unfold ve1_step
    refine (T.h_ite (fun hc => absurd hc (by simp <;> omega)) (fun _ => T.h_leaf hΨ.2))

def ve1_dec (b : Mem) (f : FSt) : Option (Cve1 × Vve1) :=
  match getFn 84 (findF 1 f.sl), getPtr 1 3 (findF 4 f.sl), getPtr 2 3 (findF 5 f.sl), getSu 0 7 (findF 9 f.sl), getI (findF 10 f.sl), getI (findF 11 f.sl), id b, f.mem with
  | some (), some (), some (), some (0, n_), some l_, some q_i, [some (.cols m_ [.fl .f32 f0_, .fl .f32 f1_, .fl .f32 f2_, .fl .f32 f3_, .fl .f32 f4_, .fl .f32 f5_, .fl .f32 f6_])], [_, some (.box [.fl .f32 y0_, .fl .f32 y1_, .fl .f32 y2_]), some (.box [.fl .f32 q_a0, .fl .f32 q_a1, .fl .f32 q_a2])] => some ({ n := n_, m := m_, f0 := f0_, f1 := f1_, f2 := f2_, f3 := f3_, f4 := f4_, f5 := f5_, f6 := f6_, l := l_, y0 := y0_, y1 := y1_, y2 := y2_ }, { i := q_i, a0 := q_a0, a1 := q_a1, a2 := q_a2 })
  | _, _, _, _, _, _, _, _ => none
theorem ve1_dec_ok (b : Mem) (f : FSt) (x : Cve1 × Vve1) (h : ve1_dec b f = some x) : b = x.1.base ∧ FLe b f (ve1_st x.1 x.2) := by
  unfold ve1_dec at h
  split at h
  · rename_i e0 e1 e2 e3 e4 e5 hb hm
    cases h
    have hb : b = _ := hb
    subst hb
    refine ⟨rfl, fle_of (fun p hp => ?_) (by rw [hm]; exact memLe_refl _)⟩
    simp only [List.mem_cons, List.not_mem_nil, or_false] at hp
    rcases hp with rfl | rfl | rfl | rfl | rfl | rfl
    · exact getFn_rel e0
    · exact getPtr_rel e1
    · exact getPtr_rel e2
    · exact getSu_rel e3
    · exact getI_rel e4
    · exact getI_rel e5
  · cases h
noncomputable def ve1_sum : SumF Try.prog 22 ve1Root :=
  sumL (pathB ve1Root 0) ve1_dec (fun x => x.1.base) (fun x => ve1_st x.1 x.2) ve1_R ve1_dec_ok (by
    intro code hc x
    have hc2 : code = .block 0 (.loop (bodyB ve1Root 0)) := by
      have h : subR ve1Root (pathB ve1Root 0) = some (.block 0 (.loop (bodyB ve1Root 0))) := by kernel_rfl
      rw [h] at hc; cases hc; rfl
    subst hc2
    exact ve1_tri x)

structure Cve2 where
  n : Nat
  m : Nat
  f0 : Nat → Nat
  f1 : Nat → Nat
  f2 : Nat → Nat
  f3 : Nat → Nat
  f4 : Nat → Nat
  f5 : Nat → Nat
  f6 : Nat → Nat
  l : Int
  y0 : Nat
  y1 : Nat
  y2 : Nat
def Cve2.base (c : Cve2) : Mem := [some (.cols c.m [.fl .f32 c.f0, .fl .f32 c.f1, .fl .f32 c.f2, .fl .f32 c.f3, .fl .f32 c.f4, .fl .f32 c.f5, .fl .f32 c.f6])]
structure Vve2 where
  i : Int
  a0 : Nat
  a1 : Nat
  a2 : Nat
noncomputable abbrev ve2Root : Code := bodyOf Try.f83
def ve2_st (c : Cve2) (v : Vve2) : FSt := ⟨[(1, .one (.fn 85 [])), (4, .one (.ptr 1 3 0 0)), (5, .one (.ptr 2 3 0 0)), (9, .one (.su 0 7 0 c.n false)), (10, .one (.num .i64 c.l)), (11, .one (.num .i64 v.i))], c.base ++ [some (.box [.fl .f32 c.y0, .fl .f32 c.y1, .fl .f32 c.y2]), some (.box [.fl .f32 v.a0, .fl .f32 v.a1, .fl .f32 v.a2])]⟩
def ve2_step (c : Cve2) (v : Vve2) : T (Nx Vve2) :=
  .ite (decide (v.1 < c.10)) (.need (decide (0 ≤ v.1) && decide (v.1 < ↑c.1)) (.need (decide (v.1.toNat + 0 < c.2)) (.leaf (.go { i := IntKind.i64.wrap (v.1 + 1), a0 := (fadd FloatKind.f32 v.2 (fmul FloatKind.f32 (c.6 (v.1.toNat + 0)) (c.9 (v.1.toNat + 0)))), a1 := (fadd FloatKind.f32 v.3 (fmul FloatKind.f32 (c.7 (v.1.toNat + 0)) (c.9 (v.1.toNat + 0)))), a2 := (fadd FloatKind.f32 v.4 (fmul FloatKind.f32 (c.8 (v.1.toNat + 0)) (c.9 (v.1.toNat + 0)))) })))) (.leaf (.out (EX.exit 0) ⟨[(1, AV.one (SV.fn 85 [])), (4, AV.one (SV.ptr 1 3 0 0)), (5, AV.one (SV.ptr 2 3 0 0)), (9, AV.one (SV.su 0 7 0 c.1 false)), (10, AV.one (SV.num IntKind.i64 c.10)), (11, AV.one (SV.num IntKind.i64 v.1))], c.base ++ [some (.box [.fl .f32 c.y0, .fl .f32 c.y1, .fl .f32 c.y2]), some (.box [.fl .f32 v.a0, .fl .f32 v.a1, .fl .f32 v.a2])]⟩))
theorem ve2_round (c : Cve2) (v : Vve2) : roundF Try.prog 22 [k_ce_i_CentreOfBodiesD2, k_ce_i_AddVectors] ve2Root [] c.base [0, 1, 4, 5, 7, 9, 10, 11, 12, 198] [1, 4, 5, 9, 10, 11] 0 (ve2_st c v) = (ve2_step c v).map (nxF (ve2_st c)) := by kernel_rfl
def ve2_g (c : Cve2) (j : Nat) (a : Nat × Nat × Nat) : Nat × Nat × Nat := (fadd .f32 (a.1) (fmul .f32 (c.f3 j) (c.f6 j)), fadd .f32 (a.2.1) (fmul .f32 (c.f4 j) (c.f6 j)), fadd .f32 (a.2.2) (fmul .f32 (c.f5 j) (c.f6 j)))
def ve2_ok (c : Cve2) (v : Vve2) : Bool := decide (c.n ≤ c.m ∧ c.n ≤ 1099511627776 ∧ c.l = (c.n : Int) ∧ 0 ≤ v.i ∧ v.i ≤ ((c.n : Nat) : Int))
def ve2_fin (c : Cve2) (a : Nat × Nat × Nat) : FSt := ve2_st c ({ i := (c.n : Int), a0 := a.1, a1 := a.2.1, a2 := a.2.2 })
noncomputable def ve2_R (x : Cve2 × Vve2) : T (EX × FSt) := .need (ve2_ok x.1 x.2) (.leaf (.normal, ve2_fin x.1 (iter (ve2_g x.1) (x.1.n - x.2.i.toNat) x.2.i.toNat (x.2.a0, x.2.a1, x.2.a2))))
theorem ve2_tri (x : Cve2 × Vve2) : TriR Try.prog 22 x.1.base (.block 0 (.loop (bodyB ve2Root 0))) (ve2_st x.1 x.2) (ve2_R x) := by
  obtain ⟨c, v⟩ := x
  refine triR_of mix (root := ve2Root) (by kernel_rfl) (by kernel_rfl) [0, 1, 4, 5, 7, 9, 10, 11, 12, 198] [1, 4, 5, 9, 10, 11] (ve2_st c) (ve2_step c) (ve2_round c) v _ ((c.n - v.i.toNat) + 1) (fun Φ h => ?_)
  have h0 := h.1
  have h1 : Φ (.normal, ve2_fin c (iter (ve2_g c) (c.n - v.i.toNat) v.i.toNat (v.a0, v.a1, v.a2))) := h.2
  simp only [ve2_ok, decide_eq_true_eq] at h0
  obtain ⟨hk0, hk1, hk2, hi0, hin⟩ := h0
  have hv : v = (fun (j : Nat) (a : Nat × Nat × Nat) => ({ i := (j : Int), a0 := a.1, a1 := a.2.1, a2 := a.2.2 } : Vve2)) v.i.toNat (v.a0, v.a1, v.a2) := by
    obtain ⟨i, a0, a1, a2⟩ := v
    have hi0 : 0 ≤ i := hi0
    simp only [Int.toNat_of_nonneg hi0]
  have key := T_iter (ve2_step c) (fun (j : Nat) (a : Nat × Nat × Nat) => ({ i := (j : Int), a0 := a.1, a1 := a.2.1, a2 := a.2.2 } : Vve2)) c.n (ve2_g c) (fun a => (.exit 0, ve2_fin c a)) (fun j a hj Ψ hΨ => ?_) (fun a Ψ hΨ => ?_) (fun a => by simp) (c.n - v.i.toNat) v.i.toNat (v.a0, v.a1, v.a2) (by omega) (fun r => Φ (blkEx 0 r.1, r.2)) (by simpa [blkEx] using h1)
  · exact (congrArg (fun z => (loopTree (ve2_step c) (c.n - v.i.toNat + 1) z).holds fun r => Φ (blkEx 0 r.1, r.2)) hv).mpr key
  · unfold ve2_step
    refine (T.h_ite (fun _ => ?_) (fun hc => absurd hc (by simp <;> omega)))
    refine (T.h_need (by simp <;> omega) (T.h_need (by simp <;> omega) ?_))
    refine T.h_leaf ?_
    rw [wrap_next (by omega)]
    exact hΨ
  · unfold ve2_step
    refine (T.h_ite (fun hc => absurd hc (by simp <;> omega)) (fun _ => T.h_leaf hΨ.2))

def ve2_dec (b : Mem) (f : FSt) : Option (Cve2 × Vve2) :=
  match getFn 85 (findF 1 f.sl), getPtr 1 3 (findF 4 f.sl), getPtr 2 3 (findF 5 f.sl), getSu 0 7 (findF 9 f.sl), getI (findF 10 f.sl), getI (findF 11 f.sl), id b, f.mem with
  | some (), some (), some (), some (0, n_), some l_, some q_i, [some (.cols m_ [.fl .f32 f0_, .fl .f32 f1_, .fl .f32 f2_, .fl .f32 f3_, .fl .f32 f4_, .fl .f32 f5_, .fl .f32 f6_])], [_, some (.box [.fl .f32 y0_, .fl .f32 y1_, .fl .f32 y2_]), some (.box [.fl .f32 q_a0, .fl .f32 q_a1, .fl .f32 q_a2])] => some ({ n := n_, m := m_, f0 := f0_, f1 := f1_, f2 := f2_, f3 := f3_, f4 := f4_, f5 := f5_, f6 := f6_, l := l_, y0 := y0_, y1 := y1_, y2 := y2_ }, { i := q_i, a0 := q_a0, a1 := q_a1, a2 := q_a2 })
  | _, _, _, _, _, _, _, _ => none
theorem ve2_dec_ok (b : Mem) (f : FSt) (x : Cve2 × Vve2) (h : ve2_dec b f = some x) : b = x.1.base ∧ FLe b f (ve2_st x.1 x.2) := by
  unfold ve2_dec at h
  split at h
  · rename_i e0 e1 e2 e3 e4 e5 hb hm
    cases h
    have hb : b = _ := hb
    subst hb
    refine ⟨rfl, fle_of (fun p hp => ?_) (by rw [hm]; exact memLe_refl _)⟩
    simp only [List.mem_cons, List.not_mem_nil, or_false] at hp
    rcases hp with rfl | rfl | rfl | rfl | rfl | rfl
    · exact getFn_rel e0
    · exact getPtr_rel e1
    · exact getPtr_rel e2
    · exact getSu_rel e3
    · exact getI_rel e4
    · exact getI_rel e5
  · cases h
noncomputable def ve2_sum : SumF Try.prog 22 ve2Root :=
  sumL (pathB ve2Root 0) ve2_dec (fun x => x.1.base) (fun x => ve2_st x.1 x.2) ve2_R ve2_dec_ok (by
    intro code hc x
    have hc2 : code = .block 0 (.loop (bodyB ve2Root 0)) := by
      have h : subR ve2Root (pathB ve2Root 0) = some (.block 0 (.loop (bodyB ve2Root 0))) := by kernel_rfl
      rw [h] at hc; cases hc; rfl
    subst hc2
    exact ve2_tri x)

noncomputable def k_sMs0 : Ctr Try.prog := (mkF0 Try.prog mix [] 116 Try.f116 (bodyOf Try.f116) Try.func116 (by kernel_rfl) (by kernel_rfl) [0, 2, 3, 4, 8, 198] 19 (by kernel_rfl) (by kernel_rfl) [ms_sum]).mg
noncomputable def k_iMs0 : Ctr Try.prog := (mkF0 Try.prog mix [] 117 Try.f117 (bodyOf Try.f117) Try.func117 (by kernel_rfl) (by kernel_rfl) [0, 2, 3, 5, 6, 7, 8, 9, 198] 18 (by kernel_rfl) (by kernel_rfl) [mo_sum]).mg
noncomputable def k_sMass0 : Ctr Try.prog := (mkF0 Try.prog mix [k_l02Are, k_ce_s_l02Number, k_sMs0] 78 Try.f78 (bodyOf Try.f78) Try.func78 (by kernel_rfl) (by kernel_rfl) [0, 2, 3, 6, 198] 12 (by kernel_rfl) (by kernel_rfl) []).mg
noncomputable def k_iMass0 : Ctr Try.prog := (mkF0 Try.prog mix [k_AreBodies, k_ce_i_told, k_iMs0] 81 Try.f81 (bodyOf Try.f81) Try.func81 (by kernel_rfl) (by kernel_rfl) [0, 2, 3, 6, 198] 12 (by kernel_rfl) (by kernel_rfl) []).mg
def massM (n : Nat) (f6 : Nat → Nat) : Nat := iter (fun j a => fadd .f32 a (f6 j)) n 0 0
def massX (n : Nat) (f0 f1 f2 f3 f4 f5 f6 : Nat → Nat) : Nat := bif !areB n f0 f1 f2 f3 f4 f5 f6 then 0 else bif !fin .f32 (massM n f6) then 0 else massM n f6
def massK (n : Nat) (f0 f1 f2 f3 f4 f5 f6 : Nat → Nat) : Bool := bif !areB n f0 f1 f2 f3 f4 f5 f6 then false else !!fin .f32 (massM n f6)
def run_mass : List AV → Mem → T Res
  | [.one (.su 0 7 0 n false)], [some (.cols m [.fl .f32 f0, .fl .f32 f1, .fl .f32 f2, .fl .f32 f3, .fl .f32 f4, .fl .f32 f5, .fl .f32 f6])] => .need (decide (n ≤ m)) (.leaf (.tup [.one (.fl .f32 (massX n f0 f1 f2 f3 f4 f5 f6)), .one (.bo (massK n f0 f1 f2 f3 f4 f5 f6))], []))
  | _, _ => .fail
theorem massK_le {n : Nat} {f0 f1 f2 f3 f4 f5 f6 : Nat → Nat} (h : massK n f0 f1 f2 f3 f4 f5 f6 = true) : n ≤ 16 := by
  unfold massK at h
  cases hA : areB n f0 f1 f2 f3 f4 f5 f6 with
  | true => exact areB_le hA
  | false => rw [hA] at h; cases h
theorem sMass0_ev (n m : Nat) (f0 f1 f2 f3 f4 f5 f6 : Nat → Nat) : k_sMass0.run [.one (.su 0 7 0 n false)] [some (.cols m [.fl .f32 f0, .fl .f32 f1, .fl .f32 f2, .fl .f32 f3, .fl .f32 f4, .fl .f32 f5, .fl .f32 f6])] =
    .need (decide (n ≤ m)) (.need (bif !areB n f0 f1 f2 f3 f4 f5 f6 then true else ms_ok { n := n, m := m, f0 := f0, f1 := f1, f2 := f2, f3 := f3, f4 := f4, f5 := f5, f6 := f6 } { i := 0, a := canon .f32 0 }) (.leaf (.tup [.one (.fl .f32 (massX n f0 f1 f2 f3 f4 f5 f6)), .one (.bo (massK n f0 f1 f2 f3 f4 f5 f6))], []))) := by kernel_rfl
noncomputable def k_sMass : Ctr Try.prog := (k_sMass0.to run_mass (by
  intro args mem _
  unfold run_mass
  split
  · rename_i n m f0 f1 f2 f3 f4 f5 f6 _
    rw [sMass0_ev]
    constructor
    intro Φ hΦ h
    have hnm := of_decide_eq_true h.1
    refine T.h_need h.1 (T.h_need (needT fun hA => decide_eq_true ?_) (T.h_leaf h.2))
    have : n ≤ 16 := areB_le (by simpa using hA)
    exact ⟨hnm, by show n ≤ 1099511627776; omega, Int.le_refl 0, Int.natCast_nonneg n⟩
  · exact Weak.fail _)).su.own
theorem iMass0_ev (n m : Nat) (f0 f1 f2 f3 f4 f5 f6 : Nat → Nat) : k_iMass0.run [.one (.su 0 7 0 n false)] [some (.cols m [.fl .f32 f0, .fl .f32 f1, .fl .f32 f2, .fl .f32 f3, .fl .f32 f4, .fl .f32 f5, .fl .f32 f6])] =
    .need (decide (n ≤ m)) (.need (bif !areB n f0 f1 f2 f3 f4 f5 f6 then true else mo_ok { n := n, m := m, f0 := f0, f1 := f1, f2 := f2, f3 := f3, f4 := f4, f5 := f5, f6 := f6, l := (n : Int) } { i := 0, a := canon .f32 0 }) (.leaf (.tup [.one (.fl .f32 (massX n f0 f1 f2 f3 f4 f5 f6)), .one (.bo (massK n f0 f1 f2 f3 f4 f5 f6))], []))) := by kernel_rfl
noncomputable def k_iMass : Ctr Try.prog := (k_iMass0.to run_mass (by
  intro args mem _
  unfold run_mass
  split
  · rename_i n m f0 f1 f2 f3 f4 f5 f6 _
    rw [iMass0_ev]
    constructor
    intro Φ hΦ h
    have hnm := of_decide_eq_true h.1
    refine T.h_need h.1 (T.h_need (needT fun hA => decide_eq_true ?_) (T.h_leaf h.2))
    have : n ≤ 16 := areB_le (by simpa using hA)
    exact ⟨hnm, by show n ≤ 1099511627776; omega, rfl, Int.le_refl 0, Int.natCast_nonneg n⟩
  · exact Weak.fail _)).su.own
noncomputable def k_sCe0 : Ctr Try.prog := (mkF0 Try.prog mix [k_sMass, k_ce_s_l01VAdd, k_ce_s_l01VScale, k_l01VFinite] 29 Try.f29 (bodyOf Try.f29) Try.func29 (by kernel_rfl) (by kernel_rfl) [0, 2, 3, 4, 5, 6, 7, 8, 9, 16, 24, 68, 198] 73 (by kernel_rfl) (by kernel_rfl) [ce_sum]).mg
noncomputable def k_iVe0 : Ctr Try.prog := (mkF0 Try.prog mix [k_ce_i_CentreOfBodiesD1, k_ce_i_CentreOfBodiesD2, k_ce_i_AddVectors] 83 Try.f83 (bodyOf Try.f83) Try.func83 (by kernel_rfl) (by kernel_rfl) [0, 1, 4, 5, 7, 9, 10, 11, 12, 198] 22 (by kernel_rfl) (by kernel_rfl) [ve1_sum, ve2_sum]).mg
def vG (f0 f1 f2 f6 : Nat → Nat) (j : Nat) (a : Nat × Nat × Nat) : Nat × Nat × Nat := (fadd .f32 a.1 (fmul .f32 (f0 j) (f6 j)), fadd .f32 a.2.1 (fmul .f32 (f1 j) (f6 j)), fadd .f32 a.2.2 (fmul .f32 (f2 j) (f6 j)))
def vS (n : Nat) (f0 f1 f2 f6 : Nat → Nat) : Nat × Nat × Nat := iter (vG f0 f1 f2 f6) n 0 (0, 0, 0)
def fnIs (g : Nat) : List AV → Bool
  | [_, .one (.fn f [])] => Nat.beq f g
  | _ => false
noncomputable def k_iVe1x : Ctr Try.prog := (mkF0 Try.prog mix [k_ce_i_CentreOfBodiesD1, k_ce_i_AddVectors] 83 Try.f83 (bodyOf Try.f83) Try.func83 (by kernel_rfl) (by kernel_rfl) [0, 1, 4, 5, 7, 9, 10, 11, 12, 198] 22 (by kernel_rfl) (by kernel_rfl) [ve1_sum]).mg
def run_iVe1 : List AV → Mem → T Res
  | [.one (.su 0 7 0 n false), .one (.fn g [])], [some (.cols m [.fl .f32 f0, .fl .f32 f1, .fl .f32 f2, .fl .f32 f3, .fl .f32 f4, .fl .f32 f5, .fl .f32 f6])] => match Nat.beq g 84 with
    | true => .need (decide (n ≤ m)) (.need (decide (n ≤ 1048576)) (.leaf (.agg [.fl .f32 (vS n f0 f1 f2 f6).1, .fl .f32 (vS n f0 f1 f2 f6).2.1, .fl .f32 (vS n f0 f1 f2 f6).2.2], [])))
    | false => .fail
  | _, _ => .fail
theorem iVe1x_ev (n m : Nat) (f0 f1 f2 f3 f4 f5 f6 : Nat → Nat) : k_iVe1x.run [.one (.su 0 7 0 n false), .one (.fn 84 [])] [some (.cols m [.fl .f32 f0, .fl .f32 f1, .fl .f32 f2, .fl .f32 f3, .fl .f32 f4, .fl .f32 f5, .fl .f32 f6])] =
    .need (ve1_ok { n := n, m := m, f0 := f0, f1 := f1, f2 := f2, f3 := f3, f4 := f4, f5 := f5, f6 := f6, l := (n : Int), y0 := canon .f32 0, y1 := canon .f32 0, y2 := canon .f32 0 } { i := 0, a0 := canon .f32 0, a1 := canon .f32 0, a2 := canon .f32 0 }) (.leaf (.agg [.fl .f32 (vS n f0 f1 f2 f6).1, .fl .f32 (vS n f0 f1 f2 f6).2.1, .fl .f32 (vS n f0 f1 f2 f6).2.2], [])) := by kernel_rfl
noncomputable def k_iVe1 : Ctr Try.prog := (k_iVe1x.to run_iVe1 (by
  intro args mem _
  unfold run_iVe1
  split
  · rename_i n g m f0 f1 f2 f3 f4 f5 f6 _
    split
    · rename_i hg
      obtain rfl : g = 84 := Nat.eq_of_beq_eq_true hg
      rw [iVe1x_ev]
      constructor
      intro Φ hΦ h
      have hm := of_decide_eq_true h.1
      have hn := of_decide_eq_true h.2.1
      refine T.h_need (decide_eq_true ⟨hm, by show n ≤ 1099511627776; omega, rfl, Int.le_refl 0, Int.natCast_nonneg n⟩) (T.h_leaf h.2.2)
    · exact Weak.fail _
  · exact Weak.fail _)).su.own
noncomputable def k_iVe2x : Ctr Try.prog := (mkF0 Try.prog mix [k_ce_i_CentreOfBodiesD2, k_ce_i_AddVectors] 83 Try.f83 (bodyOf Try.f83) Try.func83 (by kernel_rfl) (by kernel_rfl) [0, 1, 4, 5, 7, 9, 10, 11, 12, 198] 22 (by kernel_rfl) (by kernel_rfl) [ve2_sum]).mg
def run_iVe2 : List AV → Mem → T Res
  | [.one (.su 0 7 0 n false), .one (.fn g [])], [some (.cols m [.fl .f32 f0, .fl .f32 f1, .fl .f32 f2, .fl .f32 f3, .fl .f32 f4, .fl .f32 f5, .fl .f32 f6])] => match Nat.beq g 85 with
    | true => .need (decide (n ≤ m)) (.need (decide (n ≤ 1048576)) (.leaf (.agg [.fl .f32 (vS n f3 f4 f5 f6).1, .fl .f32 (vS n f3 f4 f5 f6).2.1, .fl .f32 (vS n f3 f4 f5 f6).2.2], [])))
    | false => .fail
  | _, _ => .fail
theorem iVe2x_ev (n m : Nat) (f0 f1 f2 f3 f4 f5 f6 : Nat → Nat) : k_iVe2x.run [.one (.su 0 7 0 n false), .one (.fn 85 [])] [some (.cols m [.fl .f32 f0, .fl .f32 f1, .fl .f32 f2, .fl .f32 f3, .fl .f32 f4, .fl .f32 f5, .fl .f32 f6])] =
    .need (ve2_ok { n := n, m := m, f0 := f0, f1 := f1, f2 := f2, f3 := f3, f4 := f4, f5 := f5, f6 := f6, l := (n : Int), y0 := canon .f32 0, y1 := canon .f32 0, y2 := canon .f32 0 } { i := 0, a0 := canon .f32 0, a1 := canon .f32 0, a2 := canon .f32 0 }) (.leaf (.agg [.fl .f32 (vS n f3 f4 f5 f6).1, .fl .f32 (vS n f3 f4 f5 f6).2.1, .fl .f32 (vS n f3 f4 f5 f6).2.2], [])) := by kernel_rfl
noncomputable def k_iVe2 : Ctr Try.prog := (k_iVe2x.to run_iVe2 (by
  intro args mem _
  unfold run_iVe2
  split
  · rename_i n g m f0 f1 f2 f3 f4 f5 f6 _
    split
    · rename_i hg
      obtain rfl : g = 85 := Nat.eq_of_beq_eq_true hg
      rw [iVe2x_ev]
      constructor
      intro Φ hΦ h
      have hm := of_decide_eq_true h.1
      have hn := of_decide_eq_true h.2.1
      refine T.h_need (decide_eq_true ⟨hm, by show n ≤ 1099511627776; omega, rfl, Int.le_refl 0, Int.natCast_nonneg n⟩) (T.h_leaf h.2.2)
    · exact Weak.fail _
  · exact Weak.fail _)).su.own
noncomputable def k_iVe : Ctr Try.prog := k_iVe1.pick k_iVe2 (by kernel_rfl) (fnIs 85)
noncomputable def k_iCe0 : Ctr Try.prog := (mkF0 Try.prog mix [k_iMass, k_iVe, k_ce_i_ScaleVector, k_isFiniteVector] 30 Try.f30 (bodyOf Try.f30) Try.func30 (by kernel_rfl) (by kernel_rfl) [0, 2, 3, 4, 5, 6, 7, 8, 9, 16, 36, 198] 41 (by kernel_rfl) (by kernel_rfl) []).mg
def ceIT (n m : Nat) (f0 f1 f2 f3 f4 f5 f6 : Nat → Nat) : Nat × Nat × Nat × Nat × Nat × Nat := iter (ce_g { n := n, m := m, f0 := f0, f1 := f1, f2 := f2, f3 := f3, f4 := f4, f5 := f5, f6 := f6, mass := massX n f0 f1 f2 f3 f4 f5 f6, y0 := canon .f32 0, y1 := canon .f32 0, y2 := canon .f32 0, z0 := canon .f32 0, z1 := canon .f32 0, z2 := canon .f32 0 }) n 0 (0, 0, 0, 0, 0, 0)
theorem ce_six (c : Cce) : ∀ (k s : Nat) (a : Nat × Nat × Nat × Nat × Nat × Nat), iter (ce_g c) k s a = ((iter (vG c.f0 c.f1 c.f2 c.f6) k s (a.1, a.2.1, a.2.2.1)).1, (iter (vG c.f0 c.f1 c.f2 c.f6) k s (a.1, a.2.1, a.2.2.1)).2.1, (iter (vG c.f0 c.f1 c.f2 c.f6) k s (a.1, a.2.1, a.2.2.1)).2.2,
    (iter (vG c.f3 c.f4 c.f5 c.f6) k s (a.2.2.2.1, a.2.2.2.2.1, a.2.2.2.2.2)).1, (iter (vG c.f3 c.f4 c.f5 c.f6) k s (a.2.2.2.1, a.2.2.2.2.1, a.2.2.2.2.2)).2.1, (iter (vG c.f3 c.f4 c.f5 c.f6) k s (a.2.2.2.1, a.2.2.2.2.1, a.2.2.2.2.2)).2.2)
  | 0, _, _ => rfl
  | k + 1, s, a => ce_six c k (s + 1) (ce_g c s a)
def ce6 (n : Nat) (f0 f1 f2 f3 f4 f5 f6 : Nat → Nat) : Nat × Nat × Nat × Nat × Nat × Nat := ((vS n f0 f1 f2 f6).1, (vS n f0 f1 f2 f6).2.1, (vS n f0 f1 f2 f6).2.2, (vS n f3 f4 f5 f6).1, (vS n f3 f4 f5 f6).2.1, (vS n f3 f4 f5 f6).2.2)
theorem ceIT_eq (n m : Nat) (f0 f1 f2 f3 f4 f5 f6 : Nat → Nat) : ceIT n m f0 f1 f2 f3 f4 f5 f6 = ce6 n f0 f1 f2 f3 f4 f5 f6 := ce_six _ n 0 _
def ceBy (n : Nat) (f0 f1 f2 f3 f4 f5 f6 : Nat → Nat) (x : Nat) : Nat := fmul .f32 x (fdiv .f32 (canon .f32 1065353216) (massX n f0 f1 f2 f3 f4 f5 f6))
def ceBad (n : Nat) (f0 f1 f2 f3 f4 f5 f6 : Nat → Nat) (t : Nat × Nat × Nat × Nat × Nat × Nat) : Bool := bif !fin3 (ceBy n f0 f1 f2 f3 f4 f5 f6 t.1) (ceBy n f0 f1 f2 f3 f4 f5 f6 t.2.1) (ceBy n f0 f1 f2 f3 f4 f5 f6 t.2.2.1) then true else !fin3 (ceBy n f0 f1 f2 f3 f4 f5 f6 t.2.2.2.1) (ceBy n f0 f1 f2 f3 f4 f5 f6 t.2.2.2.2.1) (ceBy n f0 f1 f2 f3 f4 f5 f6 t.2.2.2.2.2)
def ceV (n : Nat) (f0 f1 f2 f3 f4 f5 f6 : Nat → Nat) (t : Nat × Nat × Nat × Nat × Nat × Nat) (x : Nat) : Nat := bif !massK n f0 f1 f2 f3 f4 f5 f6 then canon .f32 0 else bif ceBad n f0 f1 f2 f3 f4 f5 f6 t then canon .f32 0 else ceBy n f0 f1 f2 f3 f4 f5 f6 x
def ceK (n : Nat) (f0 f1 f2 f3 f4 f5 f6 : Nat → Nat) (t : Nat × Nat × Nat × Nat × Nat × Nat) : Bool := bif !massK n f0 f1 f2 f3 f4 f5 f6 then false else !ceBad n f0 f1 f2 f3 f4 f5 f6 t
def ceLeaf (n : Nat) (f0 f1 f2 f3 f4 f5 f6 : Nat → Nat) (t : Nat × Nat × Nat × Nat × Nat × Nat) : Res := (.tup [.agg [.fl .f32 (ceV n f0 f1 f2 f3 f4 f5 f6 t t.1), .fl .f32 (ceV n f0 f1 f2 f3 f4 f5 f6 t t.2.1), .fl .f32 (ceV n f0 f1 f2 f3 f4 f5 f6 t t.2.2.1)], .agg [.fl .f32 (ceV n f0 f1 f2 f3 f4 f5 f6 t t.2.2.2.1), .fl .f32 (ceV n f0 f1 f2 f3 f4 f5 f6 t t.2.2.2.2.1), .fl .f32 (ceV n f0 f1 f2 f3 f4 f5 f6 t t.2.2.2.2.2)], .one (.bo (ceK n f0 f1 f2 f3 f4 f5 f6 t))], [])
theorem sCe0_ev (n m : Nat) (f0 f1 f2 f3 f4 f5 f6 : Nat → Nat) : k_sCe0.run [.one (.su 0 7 0 n false)] [some (.cols m [.fl .f32 f0, .fl .f32 f1, .fl .f32 f2, .fl .f32 f3, .fl .f32 f4, .fl .f32 f5, .fl .f32 f6])] =
    .need (decide (n ≤ m)) (.need (bif !massK n f0 f1 f2 f3 f4 f5 f6 then true else ce_ok { n := n, m := m, f0 := f0, f1 := f1, f2 := f2, f3 := f3, f4 := f4, f5 := f5, f6 := f6, mass := massX n f0 f1 f2 f3 f4 f5 f6, y0 := canon .f32 0, y1 := canon .f32 0, y2 := canon .f32 0, z0 := canon .f32 0, z1 := canon .f32 0, z2 := canon .f32 0 } { i := 0, a0 := canon .f32 0, a1 := canon .f32 0, a2 := canon .f32 0, b0 := canon .f32 0, b1 := canon .f32 0, b2 := canon .f32 0 }) (.leaf (ceLeaf n f0 f1 f2 f3 f4 f5 f6 (ceIT n m f0 f1 f2 f3 f4 f5 f6)))) := by kernel_rfl
theorem iCe0_ev (n m : Nat) (f0 f1 f2 f3 f4 f5 f6 : Nat → Nat) : k_iCe0.run [.one (.su 0 7 0 n false)] [some (.cols m [.fl .f32 f0, .fl .f32 f1, .fl .f32 f2, .fl .f32 f3, .fl .f32 f4, .fl .f32 f5, .fl .f32 f6])] =
    .need (decide (n ≤ m)) (.need (bif !massK n f0 f1 f2 f3 f4 f5 f6 then true else decide (n ≤ m)) (.need (bif !massK n f0 f1 f2 f3 f4 f5 f6 then true else decide (n ≤ 1048576)) (.need (bif !massK n f0 f1 f2 f3 f4 f5 f6 then true else decide (n ≤ m)) (.need (bif !massK n f0 f1 f2 f3 f4 f5 f6 then true else decide (n ≤ 1048576)) (.leaf (ceLeaf n f0 f1 f2 f3 f4 f5 f6 (ce6 n f0 f1 f2 f3 f4 f5 f6))))))) := by kernel_rfl
def run_ce : List AV → Mem → T Res
  | [.one (.su 0 7 0 n false)], [some (.cols m [.fl .f32 f0, .fl .f32 f1, .fl .f32 f2, .fl .f32 f3, .fl .f32 f4, .fl .f32 f5, .fl .f32 f6])] => .need (decide (n ≤ m)) (.leaf (ceLeaf n f0 f1 f2 f3 f4 f5 f6 (ce6 n f0 f1 f2 f3 f4 f5 f6)))
  | _, _ => .fail
noncomputable def k_sCe : Ctr Try.prog := (k_sCe0.to run_ce (by
  intro args mem _
  unfold run_ce
  split
  · rename_i n m f0 f1 f2 f3 f4 f5 f6 _
    rw [sCe0_ev, ceIT_eq]
    constructor
    intro Φ hΦ h
    have hnm := of_decide_eq_true h.1
    refine T.h_need h.1 (T.h_need (needT fun hA => decide_eq_true ?_) (T.h_leaf h.2))
    have : n ≤ 16 := massK_le (by simpa using hA)
    exact ⟨hnm, by show n ≤ 1099511627776; omega, Int.le_refl 0, Int.natCast_nonneg n⟩
  · exact Weak.fail _)).su.own
noncomputable def k_iCe : Ctr Try.prog := (k_iCe0.to run_ce (by
  intro args mem _
  unfold run_ce
  split
  · rename_i n m f0 f1 f2 f3 f4 f5 f6 _
    rw [iCe0_ev]
    constructor
    intro Φ hΦ h
    have hnm := of_decide_eq_true h.1
    have hle : (!massK n f0 f1 f2 f3 f4 f5 f6) = false → n ≤ 1048576 := fun hA => by
      have : n ≤ 16 := massK_le (by simpa using hA)
      omega
    exact T.h_need h.1 (T.h_need (needT fun _ => h.1) (T.h_need (needT fun hA => decide_eq_true (hle hA)) (T.h_need (needT fun _ => h.1) (T.h_need (needT fun hA => decide_eq_true (hle hA)) (T.h_leaf h.2)))))
  · exact Weak.fail _)).su.own

end Go.Proofs.Ytjcofjelfaoecaa
