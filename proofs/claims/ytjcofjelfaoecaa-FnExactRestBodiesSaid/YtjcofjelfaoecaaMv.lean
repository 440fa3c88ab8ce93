/-
  MoveBodies: both functions in the same words. No conditions.
-/
import Derived.Test.YtjcofjelfaoecaaMb
namespace Go.Proofs.Ytjcofjelfaoecaa
set_option linter.unusedVariables false
set_option linter.unusedSimpArgs false
open Go.RowKit

noncomputable def k_mv_s_l01VAdd : Ctr Try.prog := (mkF Try.prog mix [] 79 Try.f79 (bodyOf Try.f79) Try.func79 (by kernel_rfl) (by kernel_rfl) [0, 1, 2, 3, 4] 21 (by kernel_rfl) (by kernel_rfl)).mg
structure Cmvs where
  m : Nat
  f0 : Nat → Nat
  f1 : Nat → Nat
  f2 : Nat → Nat
  f3 : Nat → Nat
  f4 : Nat → Nat
  f5 : Nat → Nat
  f6 : Nat → Nat
  n2 : Nat
  m2 : Nat
  b0 : Nat
  b1 : Nat
  b2 : Nat
  s0 : Nat
  s1 : Nat
  s2 : Nat
  g6 : Nat → Nat
def Cmvs.base (c : Cmvs) : Mem := [some (.cols c.m [.fl .f32 c.f0, .fl .f32 c.f1, .fl .f32 c.f2, .fl .f32 c.f3, .fl .f32 c.f4, .fl .f32 c.f5, .fl .f32 c.f6])]
structure Vmvs where
  i : Int
  a0 : Nat → Nat
  a1 : Nat → Nat
  a2 : Nat → Nat
  a3 : Nat → Nat
  a4 : Nat → Nat
  a5 : Nat → Nat
noncomputable abbrev mvsRoot : Code := bodyOf Try.f97
def mvs_st (c : Cmvs) (v : Vmvs) : FSt := ⟨[(4, .one (.ptr 1 3 0 0)), (5, .one (.ptr 2 3 0 0)), (7, .one (.su 3 7 0 c.n2 false)), (8, .one (.num .i64 v.i))], c.base ++ [some (.box [.fl .f32 c.b0, .fl .f32 c.b1, .fl .f32 c.b2]), some (.box [.fl .f32 c.s0, .fl .f32 c.s1, .fl .f32 c.s2]), some (.cols c.m2 [.fl .f32 v.a0, .fl .f32 v.a1, .fl .f32 v.a2, .fl .f32 v.a3, .fl .f32 v.a4, .fl .f32 v.a5, .fl .f32 c.g6])]⟩
def mvs_step (c : Cmvs) (v : Vmvs) : T (Nx Vmvs) :=
  .ite (decide (v.1 < ↑c.9)) (.need (decide (0 ≤ v.1) && decide (v.1 < ↑c.9)) (.need (decide (v.1.toNat + 0 < c.10)) (.need (decide (0 ≤ v.1) && decide (v.1 < ↑c.9)) (.need (decide (v.1.toNat + 0 < c.10)) (.need (decide (0 ≤ v.1) && decide (v.1 < ↑c.9)) (.need (decide (v.1.toNat + 0 < c.10)) (.need (decide (0 ≤ v.1) && decide (v.1 < ↑c.9)) (.need (decide (v.1.toNat + 0 < c.10)) (.leaf (.go { i := IntKind.i64.wrap (v.1 + 1), a0 := fun q => if q = v.i.toNat + 0 then fadd FloatKind.f32 (v.a0 (v.i.toNat + 0)) c.b0 else v.a0 q, a1 := fun q => if q = v.i.toNat + 0 then fadd FloatKind.f32 (v.a1 (v.i.toNat + 0)) c.b1 else v.a1 q, a2 := fun q => if q = v.i.toNat + 0 then fadd FloatKind.f32 (v.a2 (v.i.toNat + 0)) c.b2 else v.a2 q, a3 := fun q => if q = v.i.toNat + 0 then fadd FloatKind.f32 (v.a3 (v.i.toNat + 0)) c.s0 else v.a3 q, a4 := fun q => if q = v.i.toNat + 0 then fadd FloatKind.f32 (v.a4 (v.i.toNat + 0)) c.s1 else v.a4 q, a5 := fun q => if q = v.i.toNat + 0 then fadd FloatKind.f32 (v.a5 (v.i.toNat + 0)) c.s2 else v.a5 q })))))))))) (.leaf (.out (EX.exit 0) ⟨[(4, AV.one (SV.ptr 1 3 0 0)), (5, AV.one (SV.ptr 2 3 0 0)), (7, AV.one (SV.su 3 7 0 c.9 false)), (8, AV.one (SV.num IntKind.i64 v.1))], c.base ++ [some (.box [.fl .f32 c.b0, .fl .f32 c.b1, .fl .f32 c.b2]), some (.box [.fl .f32 c.s0, .fl .f32 c.s1, .fl .f32 c.s2]), some (.cols c.m2 [.fl .f32 v.a0, .fl .f32 v.a1, .fl .f32 v.a2, .fl .f32 v.a3, .fl .f32 v.a4, .fl .f32 v.a5, .fl .f32 c.g6])]⟩))
theorem mvs_round (c : Cmvs) (v : Vmvs) : roundF Try.prog 40 [k_mv_s_l01VAdd] mvsRoot [] c.base [0, 1, 2, 4, 5, 6, 7, 8, 14, 198] [4, 5, 7, 8] 0 (mvs_st c v) = (mvs_step c v).map (nxF (mvs_st c)) := by kernel_rfl
def mvs_g (c : Cmvs) (j : Nat) (a : (Nat → Nat) × (Nat → Nat) × (Nat → Nat) × (Nat → Nat) × (Nat → Nat) × (Nat → Nat)) : (Nat → Nat) × (Nat → Nat) × (Nat → Nat) × (Nat → Nat) × (Nat → Nat) × (Nat → Nat) := (fun q => if q = j then fadd .f32 (a.1 j) c.b0 else a.1 q, fun q => if q = j then fadd .f32 (a.2.1 j) c.b1 else a.2.1 q, fun q => if q = j then fadd .f32 (a.2.2.1 j) c.b2 else a.2.2.1 q, fun q => if q = j then fadd .f32 (a.2.2.2.1 j) c.s0 else a.2.2.2.1 q, fun q => if q = j then fadd .f32 (a.2.2.2.2.1 j) c.s1 else a.2.2.2.2.1 q, fun q => if q = j then fadd .f32 (a.2.2.2.2.2 j) c.s2 else a.2.2.2.2.2 q)
def mvs_ok (c : Cmvs) (v : Vmvs) : Bool := decide (c.n2 ≤ 1099511627776 ∧ c.n2 ≤ c.m2 ∧ 0 ≤ v.i ∧ v.i ≤ ((c.n2 : Nat) : Int))
def mvs_fin (c : Cmvs) (a : (Nat → Nat) × (Nat → Nat) × (Nat → Nat) × (Nat → Nat) × (Nat → Nat) × (Nat → Nat)) : FSt := mvs_st c ({ i := (c.n2 : Int), a0 := a.1, a1 := a.2.1, a2 := a.2.2.1, a3 := a.2.2.2.1, a4 := a.2.2.2.2.1, a5 := a.2.2.2.2.2 })
noncomputable def mvs_R (x : Cmvs × Vmvs) : T (EX × FSt) := .need (mvs_ok x.1 x.2) (.leaf (.normal, mvs_fin x.1 (iter (mvs_g x.1) (x.1.n2 - x.2.i.toNat) x.2.i.toNat (x.2.a0, x.2.a1, x.2.a2, x.2.a3, x.2.a4, x.2.a5))))
theorem mvs_tri (x : Cmvs × Vmvs) : TriR Try.prog 40 x.1.base (.block 0 (.loop (bodyB mvsRoot 0))) (mvs_st x.1 x.2) (mvs_R x) := by
  obtain ⟨c, v⟩ := x
  refine triR_of mix (root := mvsRoot) (by kernel_rfl) (by kernel_rfl) [0, 1, 2, 4, 5, 6, 7, 8, 14, 198] [4, 5, 7, 8] (mvs_st c) (mvs_step c) (mvs_round c) v _ ((c.n2 - v.i.toNat) + 1) (fun Φ h => ?_)
  have h0 := h.1
  have h1 : Φ (.normal, mvs_fin c (iter (mvs_g c) (c.n2 - v.i.toNat) v.i.toNat (v.a0, v.a1, v.a2, v.a3, v.a4, v.a5))) := h.2
  simp only [mvs_ok, decide_eq_true_eq] at h0
  obtain ⟨hk0, hk1, hi0, hin⟩ := h0
  have hv : v = (fun (j : Nat) (a : (Nat → Nat) × (Nat → Nat) × (Nat → Nat) × (Nat → Nat) × (Nat → Nat) × (Nat → Nat)) => ({ i := (j : Int), a0 := a.1, a1 := a.2.1, a2 := a.2.2.1, a3 := a.2.2.2.1, a4 := a.2.2.2.2.1, a5 := a.2.2.2.2.2 } : Vmvs)) v.i.toNat (v.a0, v.a1, v.a2, v.a3, v.a4, v.a5) := by
    obtain ⟨i, a0, a1, a2, a3, a4, a5⟩ := v
    have hi0 : 0 ≤ i := hi0
    simp only [Int.toNat_of_nonneg hi0]
  have key := T_iter (mvs_step c) (fun (j : Nat) (a : (Nat → Nat) × (Nat → Nat) × (Nat → Nat) × (Nat → Nat) × (Nat → Nat) × (Nat → Nat)) => ({ i := (j : Int), a0 := a.1, a1 := a.2.1, a2 := a.2.2.1, a3 := a.2.2.2.1, a4 := a.2.2.2.2.1, a5 := a.2.2.2.2.2 } : Vmvs)) c.n2 (mvs_g c) (fun a => (.exit 0, mvs_fin c a)) (fun j a hj Ψ hΨ => ?_) (fun a Ψ hΨ => ?_) (fun a => by simp) (c.n2 - v.i.toNat) v.i.toNat (v.a0, v.a1, v.a2, v.a3, v.a4, v.a5) (by omega) (fun r => Φ (blkEx 0 r.1, r.2)) (by simpa [blkEx] using h1)
  · exact (congrArg (fun z => (loopTree (mvs_step c) (c.n2 - v.i.toNat + 1) z).holds fun r => Φ (blkEx 0 r.1, r.2)) hv).mpr key
  · unfold mvs_step
    refine (T.h_ite (fun _ => ?_) (fun hc => absurd hc (by simp <;> omega)))
    refine (T.h_need (by simp <;> omega) (T.h_need (by simp <;> omega) (T.h_need (by simp <;> omega) (T.h_need (by simp <;> omega) (T.h_need (by simp <;> omega) (T.h_need (by simp <;> omega) (T.h_need (by simp <;> omega) (T.h_need (by simp <;> omega) ?_))))))))
    refine T.h_leaf ?_
    rw [wrap_next (by omega)]
    exact hΨ
  · unfold mvs_step
    refine (T.h_ite (fun hc => absurd hc (by simp <;> omega)) (fun _ => T.h_leaf hΨ.2))

def mvs_dec (b : Mem) (f : FSt) : Option (Cmvs × Vmvs) :=
  match getPtr 1 3 (findF 4 f.sl), getPtr 2 3 (findF 5 f.sl), getSu 3 7 (findF 7 f.sl), getI (findF 8 f.sl), id b, f.mem with
  | some (), some (), some (0, n2_), some q_i, [some (.cols m_ [.fl .f32 f0_, .fl .f32 f1_, .fl .f32 f2_, .fl .f32 f3_, .fl .f32 f4_, .fl .f32 f5_, .fl .f32 f6_])], [_, some (.box [.fl .f32 b0_, .fl .f32 b1_, .fl .f32 b2_]), some (.box [.fl .f32 s0_, .fl .f32 s1_, .fl .f32 s2_]), some (.cols m2_ [.fl .f32 q_a0, .fl .f32 q_a1, .fl .f32 q_a2, .fl .f32 q_a3, .fl .f32 q_a4, .fl .f32 q_a5, .fl .f32 g6_])] => some ({ m := m_, f0 := f0_, f1 := f1_, f2 := f2_, f3 := f3_, f4 := f4_, f5 := f5_, f6 := f6_, n2 := n2_, m2 := m2_, b0 := b0_, b1 := b1_, b2 := b2_, s0 := s0_, s1 := s1_, s2 := s2_, g6 := g6_ }, { i := q_i, a0 := q_a0, a1 := q_a1, a2 := q_a2, a3 := q_a3, a4 := q_a4, a5 := q_a5 })
  | _, _, _, _, _, _ => none
theorem mvs_dec_ok (b : Mem) (f : FSt) (x : Cmvs × Vmvs) (h : mvs_dec b f = some x) : b = x.1.base ∧ FLe b f (mvs_st x.1 x.2) := by
  unfold mvs_dec at h
  split at h
  · rename_i e0 e1 e2 e3 hb hm
    cases h
    have hb : b = _ := hb
    subst hb
    refine ⟨rfl, fle_of (fun p hp => ?_) (by rw [hm]; exact memLe_refl _)⟩
    simp only [List.mem_cons, List.not_mem_nil, or_false] at hp
    rcases hp with rfl | rfl | rfl | rfl
    · exact getPtr_rel e0
    · exact getPtr_rel e1
    · exact getSu_rel e2
    · exact getI_rel e3
  · cases h
noncomputable def mvs_sum : SumF Try.prog 40 mvsRoot :=
  sumL (pathB mvsRoot 0) mvs_dec (fun x => x.1.base) (fun x => mvs_st x.1 x.2) mvs_R mvs_dec_ok (by
    intro code hc x
    have hc2 : code = .block 0 (.loop (bodyB mvsRoot 0)) := by
      have h : subR mvsRoot (pathB mvsRoot 0) = some (.block 0 (.loop (bodyB mvsRoot 0))) := by kernel_rfl
      rw [h] at hc; cases hc; rfl
    subst hc2
    exact mvs_tri x)

noncomputable def k_sMove0 : Ctr Try.prog := (mkF0 Try.prog mix [k_sOwn, k_mv_s_l01VAdd] 97 Try.f97 (bodyOf Try.f97) Try.func97 (by kernel_rfl) (by kernel_rfl) [0, 1, 2, 4, 5, 6, 7, 8, 14, 198] 40 (by kernel_rfl) (by kernel_rfl) [mvs_sum]).mg
noncomputable def k_sGive0 : Ctr Try.prog := (mkF0 Try.prog mix [k_l02Are] 87 Try.f87 (bodyOf Try.f87) Try.func87 (by kernel_rfl) (by kernel_rfl) [0, 2, 3, 6, 198] 8 (by kernel_rfl) (by kernel_rfl) []).mg
noncomputable def k_sGive : Ctr Try.prog := k_sGive0.su.own
noncomputable def k_mv_i_AddVectors : Ctr Try.prog := (mkF Try.prog mix [] 99 Try.f99 (bodyOf Try.f99) Try.func99 (by kernel_rfl) (by kernel_rfl) [0, 1, 2, 3, 4] 21 (by kernel_rfl) (by kernel_rfl)).mg
noncomputable def k_mv_i_MoveBodiesD1 : Ctr Try.prog := (mkF Try.prog mix [k_mv_i_AddVectors] 98 Try.f98 (bodyOf Try.f98) Try.func98 (by kernel_rfl) (by kernel_rfl) [0, 1, 2, 3, 4] 16 (by kernel_rfl) (by kernel_rfl)).mg
structure Cmvj where
  n : Nat
  m : Nat
  f0 : Nat → Nat
  f1 : Nat → Nat
  f2 : Nat → Nat
  f3 : Nat → Nat
  f4 : Nat → Nat
  f5 : Nat → Nat
  f6 : Nat → Nat
  l : Int
  b0 : Nat
  b1 : Nat
  b2 : Nat
  s0 : Nat
  s1 : Nat
  s2 : Nat
def Cmvj.base (c : Cmvj) : Mem := [some (.cols c.m [.fl .f32 c.f0, .fl .f32 c.f1, .fl .f32 c.f2, .fl .f32 c.f3, .fl .f32 c.f4, .fl .f32 c.f5, .fl .f32 c.f6]), some (.box [.fl .f32 c.b0, .fl .f32 c.b1, .fl .f32 c.b2]), some (.box [.fl .f32 c.s0, .fl .f32 c.s1, .fl .f32 c.s2])]
structure Vmvj where
  i : Int
  n : Nat
  a0 : Nat → Nat
  a1 : Nat → Nat
  a2 : Nat → Nat
  a3 : Nat → Nat
  a4 : Nat → Nat
  a5 : Nat → Nat
  a6 : Nat → Nat
noncomputable abbrev mvjRoot : Code := bodyOf Try.f92
def mvj_st (c : Cmvj) (v : Vmvj) : FSt := ⟨[(1, .one (.fn 98 [(1, 3, 0, 0), (2, 3, 0, 0)])), (6, .one (.so 3 7 v.n 4)), (13, .one (.su 0 7 0 c.n false)), (14, .one (.num .i64 c.l)), (15, .one (.num .i64 v.i))], c.base ++ [some (.grow v.n [.fl .f32 v.a0, .fl .f32 v.a1, .fl .f32 v.a2, .fl .f32 v.a3, .fl .f32 v.a4, .fl .f32 v.a5, .fl .f32 v.a6] 4 66), none]⟩
def mvj_step (c : Cmvj) (v : Vmvj) : T (Nx Vmvj) :=
  .ite (decide (v.1 < c.10)) (.need (decide (0 ≤ v.1) && decide (v.1 < ↑c.1)) (.need (decide (v.1.toNat + 0 < c.2)) (.need (decide (v.2 ≤ v.2)) (.need (true) (.need (decide (v.2 + 1 ≤ 1073741824)) (.leaf (.go { i := IntKind.i64.wrap (v.1 + 1), n := v.n + 1, a0 := fun q => if q = v.n then fadd FloatKind.f32 (c.f0 (v.i.toNat + 0)) c.b0 else v.a0 q, a1 := fun q => if q = v.n then fadd FloatKind.f32 (c.f1 (v.i.toNat + 0)) c.b1 else v.a1 q, a2 := fun q => if q = v.n then fadd FloatKind.f32 (c.f2 (v.i.toNat + 0)) c.b2 else v.a2 q, a3 := fun q => if q = v.n then fadd FloatKind.f32 (c.f3 (v.i.toNat + 0)) c.s0 else v.a3 q, a4 := fun q => if q = v.n then fadd FloatKind.f32 (c.f4 (v.i.toNat + 0)) c.s1 else v.a4 q, a5 := fun q => if q = v.n then fadd FloatKind.f32 (c.f5 (v.i.toNat + 0)) c.s2 else v.a5 q, a6 := fun q => if q = v.n then c.f6 (v.i.toNat + 0) else v.a6 q }))))))) (.leaf (.out (EX.exit 0) ⟨[(1, AV.one (SV.fn 98 [(1, 3, 0, 0), (2, 3, 0, 0)])), (6, AV.one (SV.so 3 7 v.n 4)), (13, AV.one (SV.su 0 7 0 c.1 false)), (14, AV.one (SV.num IntKind.i64 c.10)), (15, AV.one (SV.num IntKind.i64 v.1))], c.base ++ [some (.grow v.n [.fl .f32 v.a0, .fl .f32 v.a1, .fl .f32 v.a2, .fl .f32 v.a3, .fl .f32 v.a4, .fl .f32 v.a5, .fl .f32 v.a6] 4 66), none]⟩))
theorem mvj_round (c : Cmvj) (v : Vmvj) : roundF Try.prog 30 [k_mv_i_MoveBodiesD1] mvjRoot [] c.base [0, 1, 4, 5, 6, 8, 11, 13, 14, 15, 16, 198] [1, 6, 13, 14, 15] 0 (mvj_st c v) = (mvj_step c v).map (nxF (mvj_st c)) := by kernel_rfl
def mvj_g (c : Cmvj) (j : Nat) (a : (Nat → Nat) × (Nat → Nat) × (Nat → Nat) × (Nat → Nat) × (Nat → Nat) × (Nat → Nat) × (Nat → Nat)) : (Nat → Nat) × (Nat → Nat) × (Nat → Nat) × (Nat → Nat) × (Nat → Nat) × (Nat → Nat) × (Nat → Nat) := (fun q => if q = j then fadd .f32 (c.f0 j) c.b0 else a.1 q, fun q => if q = j then fadd .f32 (c.f1 j) c.b1 else a.2.1 q, fun q => if q = j then fadd .f32 (c.f2 j) c.b2 else a.2.2.1 q, fun q => if q = j then fadd .f32 (c.f3 j) c.s0 else a.2.2.2.1 q, fun q => if q = j then fadd .f32 (c.f4 j) c.s1 else a.2.2.2.2.1 q, fun q => if q = j then fadd .f32 (c.f5 j) c.s2 else a.2.2.2.2.2.1 q, fun q => if q = j then c.f6 j else a.2.2.2.2.2.2 q)
def mvj_ok (c : Cmvj) (v : Vmvj) : Bool := decide (c.n ≤ c.m ∧ c.n ≤ 1048576 ∧ c.l = (c.n : Int) ∧ v.n = v.i.toNat ∧ 0 ≤ v.i ∧ v.i ≤ ((c.n : Nat) : Int))
def mvj_fin (c : Cmvj) (a : (Nat → Nat) × (Nat → Nat) × (Nat → Nat) × (Nat → Nat) × (Nat → Nat) × (Nat → Nat) × (Nat → Nat)) : FSt := mvj_st c ({ i := (c.n : Int), n := c.n, a0 := a.1, a1 := a.2.1, a2 := a.2.2.1, a3 := a.2.2.2.1, a4 := a.2.2.2.2.1, a5 := a.2.2.2.2.2.1, a6 := a.2.2.2.2.2.2 })
noncomputable def mvj_R (x : Cmvj × Vmvj) : T (EX × FSt) := .need (mvj_ok x.1 x.2) (.leaf (.normal, mvj_fin x.1 (iter (mvj_g x.1) (x.1.n - x.2.i.toNat) x.2.i.toNat (x.2.a0, x.2.a1, x.2.a2, x.2.a3, x.2.a4, x.2.a5, x.2.a6))))
theorem mvj_tri (x : Cmvj × Vmvj) : TriR Try.prog 30 x.1.base (.block 0 (.loop (bodyB mvjRoot 0))) (mvj_st x.1 x.2) (mvj_R x) := by
  obtain ⟨c, v⟩ := x
  refine triR_of mix (root := mvjRoot) (by kernel_rfl) (by kernel_rfl) [0, 1, 4, 5, 6, 8, 11, 13, 14, 15, 16, 198] [1, 6, 13, 14, 15] (mvj_st c) (mvj_step c) (mvj_round c) v _ ((c.n - v.i.toNat) + 1) (fun Φ h => ?_)
  have h0 := h.1
  have h1 : Φ (.normal, mvj_fin c (iter (mvj_g c) (c.n - v.i.toNat) v.i.toNat (v.a0, v.a1, v.a2, v.a3, v.a4, v.a5, v.a6))) := h.2
  simp only [mvj_ok, decide_eq_true_eq] at h0
  obtain ⟨hk0, hk1, hk2, hk3, hi0, hin⟩ := h0
  have hv : v = (fun (j : Nat) (a : (Nat → Nat) × (Nat → Nat) × (Nat → Nat) × (Nat → Nat) × (Nat → Nat) × (Nat → Nat) × (Nat → Nat)) => ({ i := (j : Int), n := j, a0 := a.1, a1 := a.2.1, a2 := a.2.2.1, a3 := a.2.2.2.1, a4 := a.2.2.2.2.1, a5 := a.2.2.2.2.2.1, a6 := a.2.2.2.2.2.2 } : Vmvj)) v.i.toNat (v.a0, v.a1, v.a2, v.a3, v.a4, v.a5, v.a6) := by
    obtain ⟨i, n, a0, a1, a2, a3, a4, a5, a6⟩ := v
    have hi0 : 0 ≤ i := hi0
    have hk3 : n = i.toNat := hk3
    subst hk3
    simp only [Int.toNat_of_nonneg hi0]
  have key := T_iter (mvj_step c) (fun (j : Nat) (a : (Nat → Nat) × (Nat → Nat) × (Nat → Nat) × (Nat → Nat) × (Nat → Nat) × (Nat → Nat) × (Nat → Nat)) => ({ i := (j : Int), n := j, a0 := a.1, a1 := a.2.1, a2 := a.2.2.1, a3 := a.2.2.2.1, a4 := a.2.2.2.2.1, a5 := a.2.2.2.2.2.1, a6 := a.2.2.2.2.2.2 } : Vmvj)) c.n (mvj_g c) (fun a => (.exit 0, mvj_fin c a)) (fun j a hj Ψ hΨ => ?_) (fun a Ψ hΨ => ?_) (fun a => by simp) (c.n - v.i.toNat) v.i.toNat (v.a0, v.a1, v.a2, v.a3, v.a4, v.a5, v.a6) (by omega) (fun r => Φ (blkEx 0 r.1, r.2)) (by simpa [blkEx] using h1)
  · exact (congrArg (fun z => (loopTree (mvj_step c) (c.n - v.i.toNat + 1) z).holds fun r => Φ (blkEx 0 r.1, r.2)) hv).mpr key
  · unfold mvj_step
    refine (T.h_ite (fun _ => ?_) (fun hc => absurd hc (by simp <;> omega)))
    refine (T.h_need (by simp <;> omega) (T.h_need (by simp <;> omega) (T.h_need (by simp <;> omega) (T.h_need (by simp <;> omega) (T.h_need (by simp <;> omega) ?_)))))
    refine T.h_leaf ?_
    rw [wrap_next (by omega)]
    exact hΨ
  · unfold mvj_step
    refine (T.h_ite (fun hc => absurd hc (by simp <;> omega)) (fun _ => T.h_leaf hΨ.2))

def mvj_dec (b : Mem) (f : FSt) : Option (Cmvj × Vmvj) :=
  match getFnC 98 [(1, 3, 0, 0), (2, 3, 0, 0)] (findF 1 f.sl), getSu 0 7 (findF 13 f.sl), getI (findF 14 f.sl), getI (findF 15 f.sl), getSo 3 7 4 (findF 6 f.sl), id b, f.mem with
  | some (), some (0, n_), some l_, some q_i, some q_n, [some (.cols m_ [.fl .f32 f0_, .fl .f32 f1_, .fl .f32 f2_, .fl .f32 f3_, .fl .f32 f4_, .fl .f32 f5_, .fl .f32 f6_]), some (.box [.fl .f32 b0_, .fl .f32 b1_, .fl .f32 b2_]), some (.box [.fl .f32 s0_, .fl .f32 s1_, .fl .f32 s2_])], [_, _, _, some (.grow r_n [.fl .f32 q_a0, .fl .f32 q_a1, .fl .f32 q_a2, .fl .f32 q_a3, .fl .f32 q_a4, .fl .f32 q_a5, .fl .f32 q_a6] 4 66), none] => if q_n = r_n then some ({ n := n_, m := m_, f0 := f0_, f1 := f1_, f2 := f2_, f3 := f3_, f4 := f4_, f5 := f5_, f6 := f6_, l := l_, b0 := b0_, b1 := b1_, b2 := b2_, s0 := s0_, s1 := s1_, s2 := s2_ }, { i := q_i, n := q_n, a0 := q_a0, a1 := q_a1, a2 := q_a2, a3 := q_a3, a4 := q_a4, a5 := q_a5, a6 := q_a6 }) else none
  | _, _, _, _, _, _, _ => none
theorem mvj_dec_ok (b : Mem) (f : FSt) (x : Cmvj × Vmvj) (h : mvj_dec b f = some x) : b = x.1.base ∧ FLe b f (mvj_st x.1 x.2) := by
  unfold mvj_dec at h
  split at h
  · rename_i e0 e1 e2 e3 e4 hb hm
    obtain ⟨hbo, h9⟩ := ite_some h
    clear h
    subst hbo
    have h := h9
    cases h
    have hb : b = _ := hb
    subst hb
    refine ⟨rfl, fle_of (fun p hp => ?_) (by rw [hm]; exact memLe_refl _)⟩
    simp only [List.mem_cons, List.not_mem_nil, or_false] at hp
    rcases hp with rfl | rfl | rfl | rfl | rfl
    · exact getFnC_rel e0
    · exact getSo_rel e4
    · exact getSu_rel e1
    · exact getI_rel e2
    · exact getI_rel e3
  · cases h
noncomputable def mvj_sum : SumF Try.prog 30 mvjRoot :=
  sumL (pathB mvjRoot 0) mvj_dec (fun x => x.1.base) (fun x => mvj_st x.1 x.2) mvj_R mvj_dec_ok (by
    intro code hc x
    have hc2 : code = .block 0 (.loop (bodyB mvjRoot 0)) := by
      have h : subR mvjRoot (pathB mvjRoot 0) = some (.block 0 (.loop (bodyB mvjRoot 0))) := by kernel_rfl
      rw [h] at hc; cases hc; rfl
    subst hc2
    exact mvj_tri x)

noncomputable def k_iMvCh0 : Ctr Try.prog := (mkF0 Try.prog mix [k_mv_i_MoveBodiesD1, k_AreBodies, k_iAs] 92 Try.f92 (bodyOf Try.f92) Try.func92 (by kernel_rfl) (by kernel_rfl) [0, 1, 4, 5, 6, 8, 11, 13, 14, 15, 16, 198] 30 (by kernel_rfl) (by kernel_rfl) [mvj_sum]).mg
def mvsEnd (n m : Nat) (f0 f1 f2 f3 f4 f5 f6 : Nat → Nat) (b0 b1 b2 s0 s1 s2 : Nat) : (Nat → Nat) × (Nat → Nat) × (Nat → Nat) × (Nat → Nat) × (Nat → Nat) × (Nat → Nat) := iter (mvs_g { m := m, f0 := f0, f1 := f1, f2 := f2, f3 := f3, f4 := f4, f5 := f5, f6 := f6, n2 := n, m2 := n, b0 := b0, b1 := b1, b2 := b2, s0 := s0, s1 := s1, s2 := s2, g6 := f6 }) n 0 (f0, f1, f2, f3, f4, f5)
def mvjEnd (n m : Nat) (f0 f1 f2 f3 f4 f5 f6 : Nat → Nat) (b0 b1 b2 s0 s1 s2 : Nat) : (Nat → Nat) × (Nat → Nat) × (Nat → Nat) × (Nat → Nat) × (Nat → Nat) × (Nat → Nat) × (Nat → Nat) := iter (mvj_g { n := n, m := m, f0 := f0, f1 := f1, f2 := f2, f3 := f3, f4 := f4, f5 := f5, f6 := f6, l := (n : Int), b0 := b0, b1 := b1, b2 := b2, s0 := s0, s1 := s1, s2 := s2 }) n 0 ((fun _ => canon .f32 0 : Nat → Nat), (fun _ => canon .f32 0 : Nat → Nat), (fun _ => canon .f32 0 : Nat → Nat), (fun _ => canon .f32 0 : Nat → Nat), (fun _ => canon .f32 0 : Nat → Nat), (fun _ => canon .f32 0 : Nat → Nat), (fun _ => canon .f32 0 : Nat → Nat))
theorem mvsEnd_at (n m : Nat) (f0 f1 f2 f3 f4 f5 f6 : Nat → Nat) (b0 b1 b2 s0 s1 s2 : Nat) (i : Nat) (hi : i < n) : (mvsEnd n m f0 f1 f2 f3 f4 f5 f6 b0 b1 b2 s0 s1 s2).1 i = fadd .f32 (f0 i) b0 ∧ (mvsEnd n m f0 f1 f2 f3 f4 f5 f6 b0 b1 b2 s0 s1 s2).2.1 i = fadd .f32 (f1 i) b1 ∧ (mvsEnd n m f0 f1 f2 f3 f4 f5 f6 b0 b1 b2 s0 s1 s2).2.2.1 i = fadd .f32 (f2 i) b2 ∧ (mvsEnd n m f0 f1 f2 f3 f4 f5 f6 b0 b1 b2 s0 s1 s2).2.2.2.1 i = fadd .f32 (f3 i) s0 ∧ (mvsEnd n m f0 f1 f2 f3 f4 f5 f6 b0 b1 b2 s0 s1 s2).2.2.2.2.1 i = fadd .f32 (f4 i) s1 ∧ (mvsEnd n m f0 f1 f2 f3 f4 f5 f6 b0 b1 b2 s0 s1 s2).2.2.2.2.2 i = fadd .f32 (f5 i) s2 :=
  ⟨turn_at (mvs_g { m := m, f0 := f0, f1 := f1, f2 := f2, f3 := f3, f4 := f4, f5 := f5, f6 := f6, n2 := n, m2 := n, b0 := b0, b1 := b1, b2 := b2, s0 := s0, s1 := s1, s2 := s2, g6 := f6 }) (fun a => a.1) (fun y => fadd .f32 (y) b0) (fun j a q h => if_neg h) (fun j a => if_pos rfl) n 0 _ i (Nat.zero_le i) (by omega),
   turn_at (mvs_g { m := m, f0 := f0, f1 := f1, f2 := f2, f3 := f3, f4 := f4, f5 := f5, f6 := f6, n2 := n, m2 := n, b0 := b0, b1 := b1, b2 := b2, s0 := s0, s1 := s1, s2 := s2, g6 := f6 }) (fun a => a.2.1) (fun y => fadd .f32 (y) b1) (fun j a q h => if_neg h) (fun j a => if_pos rfl) n 0 _ i (Nat.zero_le i) (by omega),
   turn_at (mvs_g { m := m, f0 := f0, f1 := f1, f2 := f2, f3 := f3, f4 := f4, f5 := f5, f6 := f6, n2 := n, m2 := n, b0 := b0, b1 := b1, b2 := b2, s0 := s0, s1 := s1, s2 := s2, g6 := f6 }) (fun a => a.2.2.1) (fun y => fadd .f32 (y) b2) (fun j a q h => if_neg h) (fun j a => if_pos rfl) n 0 _ i (Nat.zero_le i) (by omega),
   turn_at (mvs_g { m := m, f0 := f0, f1 := f1, f2 := f2, f3 := f3, f4 := f4, f5 := f5, f6 := f6, n2 := n, m2 := n, b0 := b0, b1 := b1, b2 := b2, s0 := s0, s1 := s1, s2 := s2, g6 := f6 }) (fun a => a.2.2.2.1) (fun y => fadd .f32 (y) s0) (fun j a q h => if_neg h) (fun j a => if_pos rfl) n 0 _ i (Nat.zero_le i) (by omega),
   turn_at (mvs_g { m := m, f0 := f0, f1 := f1, f2 := f2, f3 := f3, f4 := f4, f5 := f5, f6 := f6, n2 := n, m2 := n, b0 := b0, b1 := b1, b2 := b2, s0 := s0, s1 := s1, s2 := s2, g6 := f6 }) (fun a => a.2.2.2.2.1) (fun y => fadd .f32 (y) s1) (fun j a q h => if_neg h) (fun j a => if_pos rfl) n 0 _ i (Nat.zero_le i) (by omega),
   turn_at (mvs_g { m := m, f0 := f0, f1 := f1, f2 := f2, f3 := f3, f4 := f4, f5 := f5, f6 := f6, n2 := n, m2 := n, b0 := b0, b1 := b1, b2 := b2, s0 := s0, s1 := s1, s2 := s2, g6 := f6 }) (fun a => a.2.2.2.2.2) (fun y => fadd .f32 (y) s2) (fun j a q h => if_neg h) (fun j a => if_pos rfl) n 0 _ i (Nat.zero_le i) (by omega)⟩
theorem mvjEnd_at (n m : Nat) (f0 f1 f2 f3 f4 f5 f6 : Nat → Nat) (b0 b1 b2 s0 s1 s2 : Nat) (i : Nat) (hi : i < n) : (mvjEnd n m f0 f1 f2 f3 f4 f5 f6 b0 b1 b2 s0 s1 s2).1 i = fadd .f32 (f0 i) b0 ∧ (mvjEnd n m f0 f1 f2 f3 f4 f5 f6 b0 b1 b2 s0 s1 s2).2.1 i = fadd .f32 (f1 i) b1 ∧ (mvjEnd n m f0 f1 f2 f3 f4 f5 f6 b0 b1 b2 s0 s1 s2).2.2.1 i = fadd .f32 (f2 i) b2 ∧ (mvjEnd n m f0 f1 f2 f3 f4 f5 f6 b0 b1 b2 s0 s1 s2).2.2.2.1 i = fadd .f32 (f3 i) s0 ∧ (mvjEnd n m f0 f1 f2 f3 f4 f5 f6 b0 b1 b2 s0 s1 s2).2.2.2.2.1 i = fadd .f32 (f4 i) s1 ∧ (mvjEnd n m f0 f1 f2 f3 f4 f5 f6 b0 b1 b2 s0 s1 s2).2.2.2.2.2.1 i = fadd .f32 (f5 i) s2 ∧ (mvjEnd n m f0 f1 f2 f3 f4 f5 f6 b0 b1 b2 s0 s1 s2).2.2.2.2.2.2 i = f6 i :=
  ⟨fill_at (mvj_g { n := n, m := m, f0 := f0, f1 := f1, f2 := f2, f3 := f3, f4 := f4, f5 := f5, f6 := f6, l := (n : Int), b0 := b0, b1 := b1, b2 := b2, s0 := s0, s1 := s1, s2 := s2 }) (fun a => a.1) (fun q => fadd .f32 (f0 q) b0) (fun j a q h => if_neg h) (fun j a => if_pos rfl) n 0 _ i (Nat.zero_le i) (by omega),
   fill_at (mvj_g { n := n, m := m, f0 := f0, f1 := f1, f2 := f2, f3 := f3, f4 := f4, f5 := f5, f6 := f6, l := (n : Int), b0 := b0, b1 := b1, b2 := b2, s0 := s0, s1 := s1, s2 := s2 }) (fun a => a.2.1) (fun q => fadd .f32 (f1 q) b1) (fun j a q h => if_neg h) (fun j a => if_pos rfl) n 0 _ i (Nat.zero_le i) (by omega),
   fill_at (mvj_g { n := n, m := m, f0 := f0, f1 := f1, f2 := f2, f3 := f3, f4 := f4, f5 := f5, f6 := f6, l := (n : Int), b0 := b0, b1 := b1, b2 := b2, s0 := s0, s1 := s1, s2 := s2 }) (fun a => a.2.2.1) (fun q => fadd .f32 (f2 q) b2) (fun j a q h => if_neg h) (fun j a => if_pos rfl) n 0 _ i (Nat.zero_le i) (by omega),
   fill_at (mvj_g { n := n, m := m, f0 := f0, f1 := f1, f2 := f2, f3 := f3, f4 := f4, f5 := f5, f6 := f6, l := (n : Int), b0 := b0, b1 := b1, b2 := b2, s0 := s0, s1 := s1, s2 := s2 }) (fun a => a.2.2.2.1) (fun q => fadd .f32 (f3 q) s0) (fun j a q h => if_neg h) (fun j a => if_pos rfl) n 0 _ i (Nat.zero_le i) (by omega),
   fill_at (mvj_g { n := n, m := m, f0 := f0, f1 := f1, f2 := f2, f3 := f3, f4 := f4, f5 := f5, f6 := f6, l := (n : Int), b0 := b0, b1 := b1, b2 := b2, s0 := s0, s1 := s1, s2 := s2 }) (fun a => a.2.2.2.2.1) (fun q => fadd .f32 (f4 q) s1) (fun j a q h => if_neg h) (fun j a => if_pos rfl) n 0 _ i (Nat.zero_le i) (by omega),
   fill_at (mvj_g { n := n, m := m, f0 := f0, f1 := f1, f2 := f2, f3 := f3, f4 := f4, f5 := f5, f6 := f6, l := (n : Int), b0 := b0, b1 := b1, b2 := b2, s0 := s0, s1 := s1, s2 := s2 }) (fun a => a.2.2.2.2.2.1) (fun q => fadd .f32 (f5 q) s2) (fun j a q h => if_neg h) (fun j a => if_pos rfl) n 0 _ i (Nat.zero_le i) (by omega),
   fill_at (mvj_g { n := n, m := m, f0 := f0, f1 := f1, f2 := f2, f3 := f3, f4 := f4, f5 := f5, f6 := f6, l := (n : Int), b0 := b0, b1 := b1, b2 := b2, s0 := s0, s1 := s1, s2 := s2 }) (fun a => a.2.2.2.2.2.2) (f6) (fun j a q h => if_neg h) (fun j a => if_pos rfl) n 0 _ i (Nat.zero_le i) (by omega)⟩
theorem mv_areJ (n m : Nat) (f0 f1 f2 f3 f4 f5 f6 : Nat → Nat) (b0 b1 b2 s0 s1 s2 : Nat) : areB n (mvjEnd n m f0 f1 f2 f3 f4 f5 f6 b0 b1 b2 s0 s1 s2).1 (mvjEnd n m f0 f1 f2 f3 f4 f5 f6 b0 b1 b2 s0 s1 s2).2.1 (mvjEnd n m f0 f1 f2 f3 f4 f5 f6 b0 b1 b2 s0 s1 s2).2.2.1 (mvjEnd n m f0 f1 f2 f3 f4 f5 f6 b0 b1 b2 s0 s1 s2).2.2.2.1 (mvjEnd n m f0 f1 f2 f3 f4 f5 f6 b0 b1 b2 s0 s1 s2).2.2.2.2.1 (mvjEnd n m f0 f1 f2 f3 f4 f5 f6 b0 b1 b2 s0 s1 s2).2.2.2.2.2.1 (mvjEnd n m f0 f1 f2 f3 f4 f5 f6 b0 b1 b2 s0 s1 s2).2.2.2.2.2.2 = areB n (fun q => fadd .f32 (f0 q) b0) (fun q => fadd .f32 (f1 q) b1) (fun q => fadd .f32 (f2 q) b2) (fun q => fadd .f32 (f3 q) s0) (fun q => fadd .f32 (f4 q) s1) (fun q => fadd .f32 (f5 q) s2) f6 := by
  refine areB_congr fun i hi => ?_
  obtain ⟨h0, h1, h2, h3, h4, h5, h6⟩ := mvjEnd_at n m f0 f1 f2 f3 f4 f5 f6 b0 b1 b2 s0 s1 s2 i hi
  rw [h0, h1, h2, h3, h4, h5, h6]
def run_iMvCh : List AV → Mem → T Res
  | [.one (.su 0 7 0 n false), .one (.fn g [(1, 3, 0, 0), (2, 3, 0, 0)])], [some (.cols m [.fl .f32 f0, .fl .f32 f1, .fl .f32 f2, .fl .f32 f3, .fl .f32 f4, .fl .f32 f5, .fl .f32 f6]), some (.box [.fl .f32 b0, .fl .f32 b1, .fl .f32 b2]), some (.box [.fl .f32 s0, .fl .f32 s1, .fl .f32 s2])] => match Nat.beq g 98 with
    | true => .need (decide (n ≤ m)) (.ite (areB n f0 f1 f2 f3 f4 f5 f6 && areB n (fun q => fadd .f32 (f0 q) b0) (fun q => fadd .f32 (f1 q) b1) (fun q => fadd .f32 (f2 q) b2) (fun q => fadd .f32 (f3 q) s0) (fun q => fadd .f32 (f4 q) s1) (fun q => fadd .f32 (f5 q) s2) f6) (.leaf (.tup [.one (.su 3 7 0 n false), .one (.tt true)], [some (.cols n [.fl .f32 fun q => fadd .f32 (f0 q) b0, .fl .f32 fun q => fadd .f32 (f1 q) b1, .fl .f32 fun q => fadd .f32 (f2 q) b2, .fl .f32 fun q => fadd .f32 (f3 q) s0, .fl .f32 fun q => fadd .f32 (f4 q) s1, .fl .f32 fun q => fadd .f32 (f5 q) s2, .fl .f32 f6]), none])) (.leaf (.tup [.one (.val (.slice none 0 0)), .one (.tt false)], [])))
    | false => .fail
  | _, _ => .fail
theorem iMvCh0_ev (n m : Nat) (f0 f1 f2 f3 f4 f5 f6 : Nat → Nat) (b0 b1 b2 s0 s1 s2 : Nat) : k_iMvCh0.run [.one (.su 0 7 0 n false), .one (.fn 98 [(1, 3, 0, 0), (2, 3, 0, 0)])] [some (.cols m [.fl .f32 f0, .fl .f32 f1, .fl .f32 f2, .fl .f32 f3, .fl .f32 f4, .fl .f32 f5, .fl .f32 f6]), some (.box [.fl .f32 b0, .fl .f32 b1, .fl .f32 b2]), some (.box [.fl .f32 s0, .fl .f32 s1, .fl .f32 s2])] =
    .need (decide (n ≤ m)) (.need (bif !areB n f0 f1 f2 f3 f4 f5 f6 then true else mvj_ok { n := n, m := m, f0 := f0, f1 := f1, f2 := f2, f3 := f3, f4 := f4, f5 := f5, f6 := f6, l := (n : Int), b0 := b0, b1 := b1, b2 := b2, s0 := s0, s1 := s1, s2 := s2 } { i := 0, n := 0, a0 := (fun _ => canon .f32 0 : Nat → Nat), a1 := (fun _ => canon .f32 0 : Nat → Nat), a2 := (fun _ => canon .f32 0 : Nat → Nat), a3 := (fun _ => canon .f32 0 : Nat → Nat), a4 := (fun _ => canon .f32 0 : Nat → Nat), a5 := (fun _ => canon .f32 0 : Nat → Nat), a6 := (fun _ => canon .f32 0 : Nat → Nat) }) (.need (bif !areB n f0 f1 f2 f3 f4 f5 f6 then true else decide (n ≤ n))
      (.ite (!areB n f0 f1 f2 f3 f4 f5 f6) (.leaf (.tup [.one (.val (.slice none 0 0)), .one (.tt false)], [])) (.ite (!areB n (mvjEnd n m f0 f1 f2 f3 f4 f5 f6 b0 b1 b2 s0 s1 s2).1 (mvjEnd n m f0 f1 f2 f3 f4 f5 f6 b0 b1 b2 s0 s1 s2).2.1 (mvjEnd n m f0 f1 f2 f3 f4 f5 f6 b0 b1 b2 s0 s1 s2).2.2.1 (mvjEnd n m f0 f1 f2 f3 f4 f5 f6 b0 b1 b2 s0 s1 s2).2.2.2.1 (mvjEnd n m f0 f1 f2 f3 f4 f5 f6 b0 b1 b2 s0 s1 s2).2.2.2.2.1 (mvjEnd n m f0 f1 f2 f3 f4 f5 f6 b0 b1 b2 s0 s1 s2).2.2.2.2.2.1 (mvjEnd n m f0 f1 f2 f3 f4 f5 f6 b0 b1 b2 s0 s1 s2).2.2.2.2.2.2) (.leaf (.tup [.one (.val (.slice none 0 0)), .one (.tt false)], [])) (.leaf (.tup [.one (.su 3 7 0 n false), .one (.tt true)], [some (.grow n [.fl .f32 (mvjEnd n m f0 f1 f2 f3 f4 f5 f6 b0 b1 b2 s0 s1 s2).1, .fl .f32 (mvjEnd n m f0 f1 f2 f3 f4 f5 f6 b0 b1 b2 s0 s1 s2).2.1, .fl .f32 (mvjEnd n m f0 f1 f2 f3 f4 f5 f6 b0 b1 b2 s0 s1 s2).2.2.1, .fl .f32 (mvjEnd n m f0 f1 f2 f3 f4 f5 f6 b0 b1 b2 s0 s1 s2).2.2.2.1, .fl .f32 (mvjEnd n m f0 f1 f2 f3 f4 f5 f6 b0 b1 b2 s0 s1 s2).2.2.2.2.1, .fl .f32 (mvjEnd n m f0 f1 f2 f3 f4 f5 f6 b0 b1 b2 s0 s1 s2).2.2.2.2.2.1, .fl .f32 (mvjEnd n m f0 f1 f2 f3 f4 f5 f6 b0 b1 b2 s0 s1 s2).2.2.2.2.2.2] 4 66), none])))))) := by kernel_rfl
noncomputable def k_iMvCh : Ctr Try.prog := (k_iMvCh0.to run_iMvCh (by
  intro args mem _
  unfold run_iMvCh
  split
  · rename_i n g m f0 f1 f2 f3 f4 f5 f6 b0 b1 b2 s0 s1 s2 _
    split
    · rename_i hg
      obtain rfl : g = 98 := Nat.eq_of_beq_eq_true hg
      rw [iMvCh0_ev]
      constructor
      intro Φ hΦ h
      have hnm := of_decide_eq_true h.1
      have hle : (!areB n f0 f1 f2 f3 f4 f5 f6) = false → n ≤ 16 := fun hA => areB_le (by simpa using hA)
      refine T.h_need h.1 (T.h_need (needT fun hA => decide_eq_true ?_) (T.h_need (needT fun hA => decide_eq_true (Nat.le_refl n)) (T.h_ite (fun hA => T.h_leaf (h.2.2 ?_)) (fun hA => T.h_ite (fun hB => T.h_leaf (h.2.2 ?_)) (fun hB => T.h_leaf (hΦ _ (.tup [.one (.su 3 7 0 n false), .one (.tt true)], [some (.cols n [.fl .f32 fun q => fadd .f32 (f0 q) b0, .fl .f32 fun q => fadd .f32 (f1 q) b1, .fl .f32 fun q => fadd .f32 (f2 q) b2, .fl .f32 fun q => fadd .f32 (f3 q) s0, .fl .f32 fun q => fadd .f32 (f4 q) s1, .fl .f32 fun q => fadd .f32 (f5 q) s2, .fl .f32 f6]), none]) ⟨⟨BlLe.grow_cols (fun i hi => ?_) rfl, trivial⟩, fun _ _ hv => hv⟩ (h.2.1 ?_)))))))
      · have := hle hA
        exact ⟨by show n ≤ m; omega, by show n ≤ 1048576; omega, rfl, rfl, Int.le_refl 0, Int.natCast_nonneg n⟩
      · have hA' : areB n f0 f1 f2 f3 f4 f5 f6 = false := by simpa using hA
        rw [hA']; rfl
      · rw [mv_areJ] at hB
        have hB' : areB n (fun q => fadd .f32 (f0 q) b0) (fun q => fadd .f32 (f1 q) b1) (fun q => fadd .f32 (f2 q) b2) (fun q => fadd .f32 (f3 q) s0) (fun q => fadd .f32 (f4 q) s1) (fun q => fadd .f32 (f5 q) s2) f6 = false := by simpa using hB
        rw [hB', Bool.and_false]
      · obtain ⟨h0, h1, h2, h3, h4, h5, h6⟩ := mvjEnd_at n m f0 f1 f2 f3 f4 f5 f6 b0 b1 b2 s0 s1 s2 i hi
        simp only [colsAt, Col.at, h0, h1, h2, h3, h4, h5, h6]
      · rw [mv_areJ] at hB
        have hA' : areB n f0 f1 f2 f3 f4 f5 f6 = true := by simpa using hA
        have hB' : areB n (fun q => fadd .f32 (f0 q) b0) (fun q => fadd .f32 (f1 q) b1) (fun q => fadd .f32 (f2 q) b2) (fun q => fadd .f32 (f3 q) s0) (fun q => fadd .f32 (f4 q) s1) (fun q => fadd .f32 (f5 q) s2) f6 = true := by simpa using hB
        rw [hA', hB']; rfl
    · exact Weak.fail _
  · exact Weak.fail _)).su.own
def run_sMove : List AV → Mem → T Res
  | [.one (.su 0 7 0 n false), .agg [.fl .f32 b0, .fl .f32 b1, .fl .f32 b2], .agg [.fl .f32 s0, .fl .f32 s1, .fl .f32 s2]], [some (.cols m [.fl .f32 f0, .fl .f32 f1, .fl .f32 f2, .fl .f32 f3, .fl .f32 f4, .fl .f32 f5, .fl .f32 f6])] => .need (decide (n ≤ m)) (.need (decide (n ≤ 1048576)) (.leaf (.one (.su 3 7 0 n false), [some (.box [.fl .f32 b0, .fl .f32 b1, .fl .f32 b2]), some (.box [.fl .f32 s0, .fl .f32 s1, .fl .f32 s2]), some (.cols n [.fl .f32 fun q => fadd .f32 (f0 q) b0, .fl .f32 fun q => fadd .f32 (f1 q) b1, .fl .f32 fun q => fadd .f32 (f2 q) b2, .fl .f32 fun q => fadd .f32 (f3 q) s0, .fl .f32 fun q => fadd .f32 (f4 q) s1, .fl .f32 fun q => fadd .f32 (f5 q) s2, .fl .f32 f6])])))
  | _, _ => .fail
theorem sMove0_ev (n m : Nat) (f0 f1 f2 f3 f4 f5 f6 : Nat → Nat) (b0 b1 b2 s0 s1 s2 : Nat) : k_sMove0.run [.one (.su 0 7 0 n false), .agg [.fl .f32 b0, .fl .f32 b1, .fl .f32 b2], .agg [.fl .f32 s0, .fl .f32 s1, .fl .f32 s2]] [some (.cols m [.fl .f32 f0, .fl .f32 f1, .fl .f32 f2, .fl .f32 f3, .fl .f32 f4, .fl .f32 f5, .fl .f32 f6])] =
    .need (decide (n ≤ m)) (.need (decide (n ≤ 1073741824)) (.need (mvs_ok { m := m, f0 := f0, f1 := f1, f2 := f2, f3 := f3, f4 := f4, f5 := f5, f6 := f6, n2 := n, m2 := n, b0 := b0, b1 := b1, b2 := b2, s0 := s0, s1 := s1, s2 := s2, g6 := f6 } { i := 0, a0 := f0, a1 := f1, a2 := f2, a3 := f3, a4 := f4, a5 := f5 }) (.leaf (.one (.su 3 7 0 n false), [some (.box [.fl .f32 b0, .fl .f32 b1, .fl .f32 b2]), some (.box [.fl .f32 s0, .fl .f32 s1, .fl .f32 s2]), some (.cols n [.fl .f32 (mvsEnd n m f0 f1 f2 f3 f4 f5 f6 b0 b1 b2 s0 s1 s2).1, .fl .f32 (mvsEnd n m f0 f1 f2 f3 f4 f5 f6 b0 b1 b2 s0 s1 s2).2.1, .fl .f32 (mvsEnd n m f0 f1 f2 f3 f4 f5 f6 b0 b1 b2 s0 s1 s2).2.2.1, .fl .f32 (mvsEnd n m f0 f1 f2 f3 f4 f5 f6 b0 b1 b2 s0 s1 s2).2.2.2.1, .fl .f32 (mvsEnd n m f0 f1 f2 f3 f4 f5 f6 b0 b1 b2 s0 s1 s2).2.2.2.2.1, .fl .f32 (mvsEnd n m f0 f1 f2 f3 f4 f5 f6 b0 b1 b2 s0 s1 s2).2.2.2.2.2, .fl .f32 f6])])))) := by kernel_rfl
noncomputable def k_sMove : Ctr Try.prog := (k_sMove0.to run_sMove (by
  intro args mem _
  unfold run_sMove
  split
  · rename_i n b0 b1 b2 s0 s1 s2 m f0 f1 f2 f3 f4 f5 f6 _
    rw [sMove0_ev]
    constructor
    intro Φ hΦ h
    have hnm := of_decide_eq_true h.1
    have hn := of_decide_eq_true h.2.1
    refine T.h_need h.1 (T.h_need (decide_eq_true (by omega)) (T.h_need (decide_eq_true ⟨by show n ≤ 1099511627776; omega, Nat.le_refl n, Int.le_refl 0, Int.natCast_nonneg n⟩) (T.h_leaf (hΦ _ (.one (.su 3 7 0 n false), [some (.box [.fl .f32 b0, .fl .f32 b1, .fl .f32 b2]), some (.box [.fl .f32 s0, .fl .f32 s1, .fl .f32 s2]), some (.cols n [.fl .f32 fun q => fadd .f32 (f0 q) b0, .fl .f32 fun q => fadd .f32 (f1 q) b1, .fl .f32 fun q => fadd .f32 (f2 q) b2, .fl .f32 fun q => fadd .f32 (f3 q) s0, .fl .f32 fun q => fadd .f32 (f4 q) s1, .fl .f32 fun q => fadd .f32 (f5 q) s2, .fl .f32 f6])]) ⟨⟨fun _ _ _ _ h => h, fun _ _ _ _ h => h, BlLe.cols_eq (fun i hi => ?_) rfl, trivial⟩, fun _ _ hv => hv⟩ h.2.2))))
    obtain ⟨h0, h1, h2, h3, h4, h5⟩ := mvsEnd_at n m f0 f1 f2 f3 f4 f5 f6 b0 b1 b2 s0 s1 s2 i hi
    simp only [colsAt, Col.at, h0, h1, h2, h3, h4, h5]
  · exact Weak.fail _)).su.own
noncomputable def k_sMv0 : Ctr Try.prog := (mkF0 Try.prog mix [k_l02Are, k_l01VFinite, k_sMove, k_sGive] 39 Try.f39 (bodyOf Try.f39) Try.func39 (by kernel_rfl) (by kernel_rfl) [0, 1, 2, 4, 5, 6, 7, 20, 198] 28 (by kernel_rfl) (by kernel_rfl) []).mg
noncomputable def k_iMv0 : Ctr Try.prog := (mkF0 Try.prog mix [k_isFiniteVector, k_iMvCh] 40 Try.f40 (bodyOf Try.f40) Try.func40 (by kernel_rfl) (by kernel_rfl) [0, 1, 2, 4, 5, 6, 7, 15, 198] 21 (by kernel_rfl) (by kernel_rfl) []).mg
def mv_ok (n : Nat) (f0 f1 f2 f3 f4 f5 f6 : Nat → Nat) (b0 b1 b2 s0 s1 s2 : Nat) : Bool := areB n f0 f1 f2 f3 f4 f5 f6 && (fin3 b0 b1 b2 && (fin3 s0 s1 s2 && areB n (fun q => fadd .f32 (f0 q) b0) (fun q => fadd .f32 (f1 q) b1) (fun q => fadd .f32 (f2 q) b2) (fun q => fadd .f32 (f3 q) s0) (fun q => fadd .f32 (f4 q) s1) (fun q => fadd .f32 (f5 q) s2) f6))
def run_sMv : List AV → Mem → T Res
  | [.one (.su 0 7 0 n false), .agg [.fl .f32 b0, .fl .f32 b1, .fl .f32 b2], .agg [.fl .f32 s0, .fl .f32 s1, .fl .f32 s2]], [some (.cols m [.fl .f32 f0, .fl .f32 f1, .fl .f32 f2, .fl .f32 f3, .fl .f32 f4, .fl .f32 f5, .fl .f32 f6])] => .need (decide (n ≤ m)) (.ite (mv_ok n f0 f1 f2 f3 f4 f5 f6 b0 b1 b2 s0 s1 s2) (.leaf (.tup [.one (.su 5 7 0 n false), .one (.tt true)], [none, none, none, none, some (.cols n [.fl .f32 fun q => fadd .f32 (f0 q) b0, .fl .f32 fun q => fadd .f32 (f1 q) b1, .fl .f32 fun q => fadd .f32 (f2 q) b2, .fl .f32 fun q => fadd .f32 (f3 q) s0, .fl .f32 fun q => fadd .f32 (f4 q) s1, .fl .f32 fun q => fadd .f32 (f5 q) s2, .fl .f32 f6])])) (.leaf (.tup [.one (.val (.slice none 0 0)), .one (.tt false)], [])))
  | _, _ => .fail
def run_iMv : List AV → Mem → T Res
  | [.one (.su 0 7 0 n false), .agg [.fl .f32 b0, .fl .f32 b1, .fl .f32 b2], .agg [.fl .f32 s0, .fl .f32 s1, .fl .f32 s2]], [some (.cols m [.fl .f32 f0, .fl .f32 f1, .fl .f32 f2, .fl .f32 f3, .fl .f32 f4, .fl .f32 f5, .fl .f32 f6])] => .need (decide (n ≤ m)) (.ite (mv_ok n f0 f1 f2 f3 f4 f5 f6 b0 b1 b2 s0 s1 s2) (.leaf (.tup [.one (.su 3 7 0 n false), .one (.tt true)], [none, none, some (.cols n [.fl .f32 fun q => fadd .f32 (f0 q) b0, .fl .f32 fun q => fadd .f32 (f1 q) b1, .fl .f32 fun q => fadd .f32 (f2 q) b2, .fl .f32 fun q => fadd .f32 (f3 q) s0, .fl .f32 fun q => fadd .f32 (f4 q) s1, .fl .f32 fun q => fadd .f32 (f5 q) s2, .fl .f32 f6]), none])) (.leaf (.tup [.one (.val (.slice none 0 0)), .one (.tt false)], [])))
  | _, _ => .fail
theorem sMv0_ev (n m : Nat) (f0 f1 f2 f3 f4 f5 f6 : Nat → Nat) (b0 b1 b2 s0 s1 s2 : Nat) : k_sMv0.run [.one (.su 0 7 0 n false), .agg [.fl .f32 b0, .fl .f32 b1, .fl .f32 b2], .agg [.fl .f32 s0, .fl .f32 s1, .fl .f32 s2]] [some (.cols m [.fl .f32 f0, .fl .f32 f1, .fl .f32 f2, .fl .f32 f3, .fl .f32 f4, .fl .f32 f5, .fl .f32 f6])] =
    .need (decide (n ≤ m)) (.need (bif bif !areB n f0 f1 f2 f3 f4 f5 f6 then true else bif !fin3 b0 b1 b2 then true else !fin3 s0 s1 s2 then true else decide (n ≤ m)) (.need (bif bif !areB n f0 f1 f2 f3 f4 f5 f6 then true else bif !fin3 b0 b1 b2 then true else !fin3 s0 s1 s2 then true else decide (n ≤ 1048576)) (.need (bif bif !areB n f0 f1 f2 f3 f4 f5 f6 then true else bif !fin3 b0 b1 b2 then true else !fin3 s0 s1 s2 then true else decide (n ≤ n))
      (.ite (bif !areB n f0 f1 f2 f3 f4 f5 f6 then true else bif !fin3 b0 b1 b2 then true else !fin3 s0 s1 s2) (.leaf (.tup [.one (.val (.slice none 0 0)), .one (.tt false)], [])) (.ite (!areB n (fun q => fadd .f32 (f0 q) b0) (fun q => fadd .f32 (f1 q) b1) (fun q => fadd .f32 (f2 q) b2) (fun q => fadd .f32 (f3 q) s0) (fun q => fadd .f32 (f4 q) s1) (fun q => fadd .f32 (f5 q) s2) f6) (.leaf (.tup [.one (.val (.slice none 0 0)), .one (.tt false)], [])) (.leaf (.tup [.one (.su 5 7 0 n false), .one (.tt true)], [some (.box [.fl .f32 b0, .fl .f32 b1, .fl .f32 b2]), some (.box [.fl .f32 s0, .fl .f32 s1, .fl .f32 s2]), some (.box [.fl .f32 b0, .fl .f32 b1, .fl .f32 b2]), some (.box [.fl .f32 s0, .fl .f32 s1, .fl .f32 s2]), some (.cols n [.fl .f32 fun q => fadd .f32 (f0 q) b0, .fl .f32 fun q => fadd .f32 (f1 q) b1, .fl .f32 fun q => fadd .f32 (f2 q) b2, .fl .f32 fun q => fadd .f32 (f3 q) s0, .fl .f32 fun q => fadd .f32 (f4 q) s1, .fl .f32 fun q => fadd .f32 (f5 q) s2, .fl .f32 f6])]))))))) := by kernel_rfl
theorem iMv0_ev (n m : Nat) (f0 f1 f2 f3 f4 f5 f6 : Nat → Nat) (b0 b1 b2 s0 s1 s2 : Nat) : k_iMv0.run [.one (.su 0 7 0 n false), .agg [.fl .f32 b0, .fl .f32 b1, .fl .f32 b2], .agg [.fl .f32 s0, .fl .f32 s1, .fl .f32 s2]] [some (.cols m [.fl .f32 f0, .fl .f32 f1, .fl .f32 f2, .fl .f32 f3, .fl .f32 f4, .fl .f32 f5, .fl .f32 f6])] =
    .need (bif bif !fin3 b0 b1 b2 then true else !fin3 s0 s1 s2 then true else decide (n ≤ m)) (.ite (bif !fin3 b0 b1 b2 then true else !fin3 s0 s1 s2) (.leaf (.tup [.one (.val (.slice none 0 0)), .one (.tt false)], [])) (.ite (areB n f0 f1 f2 f3 f4 f5 f6 && areB n (fun q => fadd .f32 (f0 q) b0) (fun q => fadd .f32 (f1 q) b1) (fun q => fadd .f32 (f2 q) b2) (fun q => fadd .f32 (f3 q) s0) (fun q => fadd .f32 (f4 q) s1) (fun q => fadd .f32 (f5 q) s2) f6) (.leaf (.tup [.one (.su 3 7 0 n false), .one (.tt true)], [some (.box [.fl .f32 b0, .fl .f32 b1, .fl .f32 b2]), some (.box [.fl .f32 s0, .fl .f32 s1, .fl .f32 s2]), some (.cols n [.fl .f32 fun q => fadd .f32 (f0 q) b0, .fl .f32 fun q => fadd .f32 (f1 q) b1, .fl .f32 fun q => fadd .f32 (f2 q) b2, .fl .f32 fun q => fadd .f32 (f3 q) s0, .fl .f32 fun q => fadd .f32 (f4 q) s1, .fl .f32 fun q => fadd .f32 (f5 q) s2, .fl .f32 f6]), none])) (.leaf (.tup [.one (.val (.slice none 0 0)), .one (.tt false)], [])))) := by kernel_rfl
theorem sMv_sh {Φ : Res → Prop} {nil row : Res} {m1 m2 m3 m4 : Bool} : ∀ (A B S E : Bool), m1 = true → (A = true → m2 = true) → (A = true → m3 = true) → (A = true → m4 = true) → ((A && (B && (S && E))) = true → Φ row) ∧ ((A && (B && (S && E))) = false → Φ nil) →
    (T.need m1 (T.need (bif bif !A then true else bif !B then true else !S then true else m2) (T.need (bif bif !A then true else bif !B then true else !S then true else m3) (T.need (bif bif !A then true else bif !B then true else !S then true else m4) (T.ite (bif !A then true else bif !B then true else !S) (.leaf nil) (.ite (!E) (.leaf nil) (.leaf row))))))).holds Φ := by
  intro A B S E h1 h2 h3 h4 h
  cases A <;> cases B <;> cases S <;> cases E <;> simp_all [T.holds]
theorem iMv_sh {Φ : Res → Prop} {nil row : Res} {m1 : Bool} : ∀ (A B S E : Bool), m1 = true → ((A && (B && (S && E))) = true → Φ row) ∧ ((A && (B && (S && E))) = false → Φ nil) →
    (T.need (bif bif !B then true else !S then true else m1) (T.ite (bif !B then true else !S) (.leaf nil) (.ite (A && E) (.leaf row) (.leaf nil)))).holds Φ := by
  intro A B S E h1 h
  cases A <;> cases B <;> cases S <;> cases E <;> simp_all [T.holds]
noncomputable def k_sMv : Ctr Try.prog := (k_sMv0.to run_sMv (by
  intro args mem _
  unfold run_sMv
  split
  · rename_i n b0 b1 b2 s0 s1 s2 m f0 f1 f2 f3 f4 f5 f6 _
    rw [sMv0_ev]
    constructor
    intro Φ hΦ h
    have hle : areB n f0 f1 f2 f3 f4 f5 f6 = true → n ≤ 16 := areB_le
    refine sMv_sh _ _ _ _ h.1 (fun _ => h.1) (fun hA => decide_eq_true (by have := hle hA; omega)) (fun _ => decide_eq_true (Nat.le_refl n)) ⟨fun hk => hΦ _ (.tup [.one (.su 5 7 0 n false), .one (.tt true)], [none, none, none, none, some (.cols n [.fl .f32 fun q => fadd .f32 (f0 q) b0, .fl .f32 fun q => fadd .f32 (f1 q) b1, .fl .f32 fun q => fadd .f32 (f2 q) b2, .fl .f32 fun q => fadd .f32 (f3 q) s0, .fl .f32 fun q => fadd .f32 (f4 q) s1, .fl .f32 fun q => fadd .f32 (f5 q) s2, .fl .f32 f6])]) ⟨⟨BlLe.refl _, trivial⟩, fun _ _ hv => hv⟩ (h.2.1 hk), fun hk => h.2.2 hk⟩
  · exact Weak.fail _)).su.own
noncomputable def k_iMv : Ctr Try.prog := (k_iMv0.to run_iMv (by
  intro args mem _
  unfold run_iMv
  split
  · rename_i n b0 b1 b2 s0 s1 s2 m f0 f1 f2 f3 f4 f5 f6 _
    rw [iMv0_ev]
    constructor
    intro Φ hΦ h
    refine iMv_sh _ _ _ _ h.1 ⟨fun hk => hΦ _ (.tup [.one (.su 3 7 0 n false), .one (.tt true)], [none, none, some (.cols n [.fl .f32 fun q => fadd .f32 (f0 q) b0, .fl .f32 fun q => fadd .f32 (f1 q) b1, .fl .f32 fun q => fadd .f32 (f2 q) b2, .fl .f32 fun q => fadd .f32 (f3 q) s0, .fl .f32 fun q => fadd .f32 (f4 q) s1, .fl .f32 fun q => fadd .f32 (f5 q) s2, .fl .f32 f6]), none]) ⟨⟨BlLe.refl _, trivial⟩, fun _ _ hv => hv⟩ (h.2.1 hk), fun hk => h.2.2 hk⟩
  · exact Weak.fail _)).su.own

end Go.Proofs.Ytjcofjelfaoecaa
