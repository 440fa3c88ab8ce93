/-
  TurnBodies: both functions in the same words. No conditions.
-/
import Derived.Test.YtkjggmfblkkopaaMb
import Derived.Test.YtkjggmfblkkopaaSi
namespace Go.Proofs.Ytkjggmfblkkopaa
set_option linter.unusedVariables false
set_option linter.unusedSimpArgs false
open Go.RowKit

noncomputable def k_tu_s_l02Turned : Ctr Try.prog := (mkF Try.prog mix [] 106 Try.f106 (bodyOf Try.f106) Try.func106 (by kernel_rfl) (by kernel_rfl) [0, 1, 2, 3, 6] 28 (by kernel_rfl) (by kernel_rfl)).mg
structure Ctus where
  m : Nat
  f0 : Nat → Nat
  f1 : Nat → Nat
  f2 : Nat → Nat
  f3 : Nat → Nat
  f4 : Nat → Nat
  f5 : Nat → Nat
  f6 : Nat → Nat
  n2 : Nat
  m2 : Nat
  x : Nat
  y : Nat
  g6 : Nat → Nat
def Ctus.base (c : Ctus) : Mem := [some (.cols c.m [.fl .f32 c.f0, .fl .f32 c.f1, .fl .f32 c.f2, .fl .f32 c.f3, .fl .f32 c.f4, .fl .f32 c.f5, .fl .f32 c.f6])]
structure Vtus where
  i : Int
  a0 : Nat → Nat
  a1 : Nat → Nat
  a2 : Nat → Nat
  a3 : Nat → Nat
  a4 : Nat → Nat
  a5 : Nat → Nat
noncomputable abbrev tusRoot : Code := bodyOf Try.f46
def tus_st (c : Ctus) (v : Vtus) : FSt := ⟨[(6, .one (.fl .f32 c.x)), (7, .one (.fl .f32 c.y)), (8, .one (.su 1 7 0 c.n2 false)), (9, .one (.num .i64 v.i))], c.base ++ [some (.cols c.m2 [.fl .f32 v.a0, .fl .f32 v.a1, .fl .f32 v.a2, .fl .f32 v.a3, .fl .f32 v.a4, .fl .f32 v.a5, .fl .f32 c.g6])]⟩
def tus_step (c : Ctus) (v : Vtus) : T (Nx Vtus) :=
  .ite (decide (v.1 < ((c.9 : Nat) : Int))) (.need (decide (0 ≤ v.1) && decide (v.1 < ((c.9 : Nat) : Int))) (.need (decide (v.1.toNat + 0 < c.10)) (.need (decide (0 ≤ v.1) && decide (v.1 < ((c.9 : Nat) : Int))) (.need (decide (v.1.toNat + 0 < c.10)) (.need (decide (0 ≤ v.1) && decide (v.1 < ((c.9 : Nat) : Int))) (.need (decide (v.1.toNat + 0 < c.10)) (.need (decide (0 ≤ v.1) && decide (v.1 < ((c.9 : Nat) : Int))) (.need (decide (v.1.toNat + 0 < c.10)) (.leaf (.go { i := IntKind.i64.wrap (v.1 + 1), a0 := fun q => if q = v.i.toNat + 0 then fsub FloatKind.f32 (fmul FloatKind.f32 c.x (v.a0 (v.i.toNat + 0))) (fmul FloatKind.f32 c.y (v.a1 (v.i.toNat + 0))) else v.a0 q, a1 := fun q => if q = v.i.toNat + 0 then fadd FloatKind.f32 (fmul FloatKind.f32 c.y (v.a0 (v.i.toNat + 0))) (fmul FloatKind.f32 c.x (v.a1 (v.i.toNat + 0))) else v.a1 q, a2 := fun q => if q = v.i.toNat + 0 then v.a2 (v.i.toNat + 0) else v.a2 q, a3 := fun q => if q = v.i.toNat + 0 then fsub FloatKind.f32 (fmul FloatKind.f32 c.x (v.a3 (v.i.toNat + 0))) (fmul FloatKind.f32 c.y (v.a4 (v.i.toNat + 0))) else v.a3 q, a4 := fun q => if q = v.i.toNat + 0 then fadd FloatKind.f32 (fmul FloatKind.f32 c.y (v.a3 (v.i.toNat + 0))) (fmul FloatKind.f32 c.x (v.a4 (v.i.toNat + 0))) else v.a4 q, a5 := fun q => if q = v.i.toNat + 0 then v.a5 (v.i.toNat + 0) else v.a5 q })))))))))) (.leaf (.out (EX.exit 0) ⟨[(6, AV.one (SV.fl FloatKind.f32 c.11)), (7, AV.one (SV.fl FloatKind.f32 c.12)), (8, AV.one (SV.su 1 7 0 c.9 false)), (9, AV.one (SV.num IntKind.i64 v.1))], c.base ++ [some (.cols c.m2 [.fl .f32 v.a0, .fl .f32 v.a1, .fl .f32 v.a2, .fl .f32 v.a3, .fl .f32 v.a4, .fl .f32 v.a5, .fl .f32 c.g6])]⟩))
theorem tus_round (c : Ctus) (v : Vtus) : roundF Try.prog 59 [k_tu_s_l02Turned] tusRoot [] c.base [0, 1, 4, 5, 6, 7, 8, 9, 17, 28, 198] [6, 7, 8, 9] 0 (tus_st c v) = (tus_step c v).map (nxF (tus_st c)) := by kernel_rfl
def tus_g (c : Ctus) (j : Nat) (a : (Nat → Nat) × (Nat → Nat) × (Nat → Nat) × (Nat → Nat) × (Nat → Nat) × (Nat → Nat)) : (Nat → Nat) × (Nat → Nat) × (Nat → Nat) × (Nat → Nat) × (Nat → Nat) × (Nat → Nat) := (fun q => if q = j then fsub .f32 (fmul .f32 c.x (a.1 j)) (fmul .f32 c.y (a.2.1 j)) else a.1 q, fun q => if q = j then fadd .f32 (fmul .f32 c.y (a.1 j)) (fmul .f32 c.x (a.2.1 j)) else a.2.1 q, fun q => if q = j then a.2.2.1 j else a.2.2.1 q, fun q => if q = j then fsub .f32 (fmul .f32 c.x (a.2.2.2.1 j)) (fmul .f32 c.y (a.2.2.2.2.1 j)) else a.2.2.2.1 q, fun q => if q = j then fadd .f32 (fmul .f32 c.y (a.2.2.2.1 j)) (fmul .f32 c.x (a.2.2.2.2.1 j)) else a.2.2.2.2.1 q, fun q => if q = j then a.2.2.2.2.2 j else a.2.2.2.2.2 q)
def tus_ok (c : Ctus) (v : Vtus) : Bool := decide (c.n2 ≤ 1099511627776 ∧ c.n2 ≤ c.m2 ∧ 0 ≤ v.i ∧ v.i ≤ ((c.n2 : Nat) : Int))
def tus_fin (c : Ctus) (a : (Nat → Nat) × (Nat → Nat) × (Nat → Nat) × (Nat → Nat) × (Nat → Nat) × (Nat → Nat)) : FSt := tus_st c ({ i := (c.n2 : Int), a0 := a.1, a1 := a.2.1, a2 := a.2.2.1, a3 := a.2.2.2.1, a4 := a.2.2.2.2.1, a5 := a.2.2.2.2.2 })
noncomputable def tus_R (x : Ctus × Vtus) : T (EX × FSt) := .need (tus_ok x.1 x.2) (.leaf (.normal, tus_fin x.1 (iter (tus_g x.1) (x.1.n2 - x.2.i.toNat) x.2.i.toNat (x.2.a0, x.2.a1, x.2.a2, x.2.a3, x.2.a4, x.2.a5))))
theorem tus_tri (x : Ctus × Vtus) : TriR Try.prog 59 x.1.base (.block 0 (.loop (bodyB tusRoot 0))) (tus_st x.1 x.2) (tus_R x) := by
  obtain ⟨c, v⟩ := x
  refine triR_of mix (root := tusRoot) (by kernel_rfl) (by kernel_rfl) [0, 1, 4, 5, 6, 7, 8, 9, 17, 28, 198] [6, 7, 8, 9] (tus_st c) (tus_step c) (tus_round c) v _ ((c.n2 - v.i.toNat) + 1) (fun Φ h => ?_)
  have h0 := h.1
  have h1 : Φ (.normal, tus_fin c (iter (tus_g c) (c.n2 - v.i.toNat) v.i.toNat (v.a0, v.a1, v.a2, v.a3, v.a4, v.a5))) := h.2
  simp only [tus_ok, decide_eq_true_eq] at h0
  obtain ⟨hk0, hk1, hi0, hin⟩ := h0
  have hv : v = (fun (j : Nat) (a : (Nat → Nat) × (Nat → Nat) × (Nat → Nat) × (Nat → Nat) × (Nat → Nat) × (Nat → Nat)) => ({ i := (j : Int), a0 := a.1, a1 := a.2.1, a2 := a.2.2.1, a3 := a.2.2.2.1, a4 := a.2.2.2.2.1, a5 := a.2.2.2.2.2 } : Vtus)) v.i.toNat (v.a0, v.a1, v.a2, v.a3, v.a4, v.a5) := by
    obtain ⟨i, a0, a1, a2, a3, a4, a5⟩ := v
    have hi0 : 0 ≤ i := hi0
    simp only [Int.toNat_of_nonneg hi0]
  have key := T_iter (tus_step c) (fun (j : Nat) (a : (Nat → Nat) × (Nat → Nat) × (Nat → Nat) × (Nat → Nat) × (Nat → Nat) × (Nat → Nat)) => ({ i := (j : Int), a0 := a.1, a1 := a.2.1, a2 := a.2.2.1, a3 := a.2.2.2.1, a4 := a.2.2.2.2.1, a5 := a.2.2.2.2.2 } : Vtus)) c.n2 (tus_g c) (fun a => (.exit 0, tus_fin c a)) (fun j a hj Ψ hΨ => ?_) (fun a Ψ hΨ => ?_) (fun a => by simp) (c.n2 - v.i.toNat) v.i.toNat (v.a0, v.a1, v.a2, v.a3, v.a4, v.a5) (by omega) (fun r => Φ (blkEx 0 r.1, r.2)) (by simpa [blkEx] using h1)
  · exact (congrArg (fun z => (loopTree (tus_step c) (c.n2 - v.i.toNat + 1) z).holds fun r => Φ (blkEx 0 r.1, r.2)) hv).mpr key
  · unfold tus_step
    refine (T.h_ite (fun _ => ?_) (fun hc => absurd hc (by simp <;> omega)))
    refine (T.h_need (by simp <;> omega) (T.h_need (by simp <;> omega) (T.h_need (by simp <;> omega) (T.h_need (by simp <;> omega) (T.h_need (by simp <;> omega) (T.h_need (by simp <;> omega) (T.h_need (by simp <;> omega) (T.h_need (by simp <;> omega) ?_))))))))
    refine T.h_leaf ?_
    rw [wrap_next (by omega)]
    exact hΨ
  · unfold tus_step
    refine (T.h_ite (fun hc => absurd hc (by simp <;> omega)) (fun _ => T.h_leaf hΨ.2))

def tus_dec (b : Mem) (f : FSt) : Option (Ctus × Vtus) :=
  match getF .f32 (findF 6 f.sl), getF .f32 (findF 7 f.sl), getSu 1 7 (findF 8 f.sl), getI (findF 9 f.sl), id b, f.mem with
  | some x_, some y_, some (0, n2_), some q_i, [some (.cols m_ [.fl .f32 f0_, .fl .f32 f1_, .fl .f32 f2_, .fl .f32 f3_, .fl .f32 f4_, .fl .f32 f5_, .fl .f32 f6_])], [_, some (.cols m2_ [.fl .f32 q_a0, .fl .f32 q_a1, .fl .f32 q_a2, .fl .f32 q_a3, .fl .f32 q_a4, .fl .f32 q_a5, .fl .f32 g6_])] => some ({ m := m_, f0 := f0_, f1 := f1_, f2 := f2_, f3 := f3_, f4 := f4_, f5 := f5_, f6 := f6_, n2 := n2_, m2 := m2_, x := x_, y := y_, g6 := g6_ }, { i := q_i, a0 := q_a0, a1 := q_a1, a2 := q_a2, a3 := q_a3, a4 := q_a4, a5 := q_a5 })
  | _, _, _, _, _, _ => none
theorem tus_dec_ok (b : Mem) (f : FSt) (x : Ctus × Vtus) (h : tus_dec b f = some x) : b = x.1.base ∧ FLe b f (tus_st x.1 x.2) := by
  unfold tus_dec at h
  split at h
  · rename_i e0 e1 e2 e3 hb hm
    cases h
    have hb : b = _ := hb
    subst hb
    refine ⟨rfl, fle_of (fun p hp => ?_) (by rw [hm]; exact memLe_refl _)⟩
    simp only [List.mem_cons, List.not_mem_nil, or_false] at hp
    rcases hp with rfl | rfl | rfl | rfl
    · exact getF_rel e0
    · exact getF_rel e1
    · exact getSu_rel e2
    · exact getI_rel e3
  · cases h
noncomputable def tus_sum : SumF Try.prog 59 tusRoot :=
  sumL (pathB tusRoot 0) tus_dec (fun x => x.1.base) (fun x => tus_st x.1 x.2) tus_R tus_dec_ok (by
    intro code hc x
    have hc2 : code = .block 0 (.loop (bodyB tusRoot 0)) := by
      have h : subR tusRoot (pathB tusRoot 0) = some (.block 0 (.loop (bodyB tusRoot 0))) := by kernel_rfl
      rw [h] at hc; cases hc; rfl
    subst hc2
    exact tus_tri x)

noncomputable def k_sGive0 : Ctr Try.prog := (mkF0 Try.prog mix [k_l02Are] 107 Try.f107 (bodyOf Try.f107) Try.func107 (by kernel_rfl) (by kernel_rfl) [0, 2, 3, 6, 198] 8 (by kernel_rfl) (by kernel_rfl) []).mg
noncomputable def k_sGive : Ctr Try.prog := k_sGive0.su.own
noncomputable def k_sTu0 : Ctr Try.prog := (mkF0 Try.prog mix [k_l02Are, k_l01Finite, k_l01Sine, k_sOwn, k_tu_s_l02Turned, k_sGive] 46 Try.f46 (bodyOf Try.f46) Try.func46 (by kernel_rfl) (by kernel_rfl) [0, 1, 4, 5, 6, 7, 8, 9, 17, 28, 198] 59 (by kernel_rfl) (by kernel_rfl) [tus_sum]).mg
noncomputable def k_tu_i_TurnBodiesD1 : Ctr Try.prog := (mkF Try.prog mix [] 110 Try.f110 (bodyOf Try.f110) Try.func110 (by kernel_rfl) (by kernel_rfl) [0, 1, 2, 3, 4] 26 (by kernel_rfl) (by kernel_rfl)).mg
noncomputable def k_tuTwo : Ctr Try.prog := (mkF0 Try.prog mix [k_tu_i_TurnBodiesD1] 112 Try.f112 (bodyOf Try.f112) Try.func112 (by kernel_rfl) (by kernel_rfl) [0, 1, 2, 3, 198] 15 (by kernel_rfl) (by kernel_rfl) []).mg
structure Ctuj where
  n : Nat
  m : Nat
  f0 : Nat → Nat
  f1 : Nat → Nat
  f2 : Nat → Nat
  f3 : Nat → Nat
  f4 : Nat → Nat
  f5 : Nat → Nat
  f6 : Nat → Nat
  l : Int
  x : Nat
  y : Nat
def Ctuj.base (c : Ctuj) : Mem := [some (.cols c.m [.fl .f32 c.f0, .fl .f32 c.f1, .fl .f32 c.f2, .fl .f32 c.f3, .fl .f32 c.f4, .fl .f32 c.f5, .fl .f32 c.f6]), some (.box [.fl .f32 c.x]), some (.box [.fl .f32 c.y]), some (.box [.fn 110 [(1, 1, 0, 0), (2, 1, 0, 0)]])]
structure Vtuj where
  i : Int
  n : Nat
  a0 : Nat → Nat
  a1 : Nat → Nat
  a2 : Nat → Nat
  a3 : Nat → Nat
  a4 : Nat → Nat
  a5 : Nat → Nat
  a6 : Nat → Nat
noncomputable abbrev tujRoot : Code := bodyOf Try.f111
def tuj_st (c : Ctuj) (v : Vtuj) : FSt := ⟨[(1, .one (.fn 112 [(3, 1, 0, 0)])), (6, .one (.so 4 7 v.n 5)), (13, .one (.su 0 7 0 c.n false)), (14, .one (.num .i64 c.l)), (15, .one (.num .i64 v.i))], c.base ++ [some (.grow v.n [.fl .f32 v.a0, .fl .f32 v.a1, .fl .f32 v.a2, .fl .f32 v.a3, .fl .f32 v.a4, .fl .f32 v.a5, .fl .f32 v.a6] 5 111), none]⟩
def tuj_step (c : Ctuj) (v : Vtuj) : T (Nx Vtuj) :=
  .ite (decide (v.1 < c.10)) (.need (decide (0 ≤ v.1) && decide (v.1 < ((c.1 : Nat) : Int))) (.need (decide (v.1.toNat + 0 < c.2)) (.need (decide (v.2 ≤ v.2)) (.need (true) (.need (decide (v.2 + 1 ≤ 1073741824)) (.leaf (.go { i := IntKind.i64.wrap (v.1 + 1), n := v.n + 1, a0 := fun q => if q = v.n then fsub FloatKind.f32 (fmul FloatKind.f32 c.x (c.f0 (v.i.toNat + 0))) (fmul FloatKind.f32 c.y (c.f1 (v.i.toNat + 0))) else v.a0 q, a1 := fun q => if q = v.n then fadd FloatKind.f32 (fmul FloatKind.f32 c.y (c.f0 (v.i.toNat + 0))) (fmul FloatKind.f32 c.x (c.f1 (v.i.toNat + 0))) else v.a1 q, a2 := fun q => if q = v.n then c.f2 (v.i.toNat + 0) else v.a2 q, a3 := fun q => if q = v.n then fsub FloatKind.f32 (fmul FloatKind.f32 c.x (c.f3 (v.i.toNat + 0))) (fmul FloatKind.f32 c.y (c.f4 (v.i.toNat + 0))) else v.a3 q, a4 := fun q => if q = v.n then fadd FloatKind.f32 (fmul FloatKind.f32 c.y (c.f3 (v.i.toNat + 0))) (fmul FloatKind.f32 c.x (c.f4 (v.i.toNat + 0))) else v.a4 q, a5 := fun q => if q = v.n then c.f5 (v.i.toNat + 0) else v.a5 q, a6 := fun q => if q = v.n then c.f6 (v.i.toNat + 0) else v.a6 q }))))))) (.leaf (.out (EX.exit 0) ⟨[(1, AV.one (SV.fn 112 [(3, 1, 0, 0)])), (6, AV.one (SV.so 4 7 v.n 5)), (13, AV.one (SV.su 0 7 0 c.1 false)), (14, AV.one (SV.num IntKind.i64 c.10)), (15, AV.one (SV.num IntKind.i64 v.1))], c.base ++ [some (.grow v.n [.fl .f32 v.a0, .fl .f32 v.a1, .fl .f32 v.a2, .fl .f32 v.a3, .fl .f32 v.a4, .fl .f32 v.a5, .fl .f32 v.a6] 5 111), none]⟩))
theorem tuj_round (c : Ctuj) (v : Vtuj) : roundF Try.prog 30 [k_tuTwo, k_tu_i_TurnBodiesD1] tujRoot [] c.base [0, 1, 4, 5, 6, 8, 11, 13, 14, 15, 16, 198] [1, 6, 13, 14, 15] 0 (tuj_st c v) = (tuj_step c v).map (nxF (tuj_st c)) := by kernel_rfl
def tuj_g (c : Ctuj) (j : Nat) (a : (Nat → Nat) × (Nat → Nat) × (Nat → Nat) × (Nat → Nat) × (Nat → Nat) × (Nat → Nat) × (Nat → Nat)) : (Nat → Nat) × (Nat → Nat) × (Nat → Nat) × (Nat → Nat) × (Nat → Nat) × (Nat → Nat) × (Nat → Nat) := (fun q => if q = j then fsub .f32 (fmul .f32 c.x (c.f0 j)) (fmul .f32 c.y (c.f1 j)) else a.1 q, fun q => if q = j then fadd .f32 (fmul .f32 c.y (c.f0 j)) (fmul .f32 c.x (c.f1 j)) else a.2.1 q, fun q => if q = j then c.f2 j else a.2.2.1 q, fun q => if q = j then fsub .f32 (fmul .f32 c.x (c.f3 j)) (fmul .f32 c.y (c.f4 j)) else a.2.2.2.1 q, fun q => if q = j then fadd .f32 (fmul .f32 c.y (c.f3 j)) (fmul .f32 c.x (c.f4 j)) else a.2.2.2.2.1 q, fun q => if q = j then c.f5 j else a.2.2.2.2.2.1 q, fun q => if q = j then c.f6 j else a.2.2.2.2.2.2 q)
def tuj_ok (c : Ctuj) (v : Vtuj) : Bool := decide (c.n ≤ c.m ∧ c.n ≤ 1048576 ∧ c.l = (c.n : Int) ∧ v.n = v.i.toNat ∧ 0 ≤ v.i ∧ v.i ≤ ((c.n : Nat) : Int))
def tuj_fin (c : Ctuj) (a : (Nat → Nat) × (Nat → Nat) × (Nat → Nat) × (Nat → Nat) × (Nat → Nat) × (Nat → Nat) × (Nat → Nat)) : FSt := tuj_st c ({ i := (c.n : Int), n := c.n, a0 := a.1, a1 := a.2.1, a2 := a.2.2.1, a3 := a.2.2.2.1, a4 := a.2.2.2.2.1, a5 := a.2.2.2.2.2.1, a6 := a.2.2.2.2.2.2 })
noncomputable def tuj_R (x : Ctuj × Vtuj) : T (EX × FSt) := .need (tuj_ok x.1 x.2) (.leaf (.normal, tuj_fin x.1 (iter (tuj_g x.1) (x.1.n - x.2.i.toNat) x.2.i.toNat (x.2.a0, x.2.a1, x.2.a2, x.2.a3, x.2.a4, x.2.a5, x.2.a6))))
theorem tuj_tri (x : Ctuj × Vtuj) : TriR Try.prog 30 x.1.base (.block 0 (.loop (bodyB tujRoot 0))) (tuj_st x.1 x.2) (tuj_R x) := by
  obtain ⟨c, v⟩ := x
  refine triR_of mix (root := tujRoot) (by kernel_rfl) (by kernel_rfl) [0, 1, 4, 5, 6, 8, 11, 13, 14, 15, 16, 198] [1, 6, 13, 14, 15] (tuj_st c) (tuj_step c) (tuj_round c) v _ ((c.n - v.i.toNat) + 1) (fun Φ h => ?_)
  have h0 := h.1
  have h1 : Φ (.normal, tuj_fin c (iter (tuj_g c) (c.n - v.i.toNat) v.i.toNat (v.a0, v.a1, v.a2, v.a3, v.a4, v.a5, v.a6))) := h.2
  simp only [tuj_ok, decide_eq_true_eq] at h0
  obtain ⟨hk0, hk1, hk2, hk3, hi0, hin⟩ := h0
  have hv : v = (fun (j : Nat) (a : (Nat → Nat) × (Nat → Nat) × (Nat → Nat) × (Nat → Nat) × (Nat → Nat) × (Nat → Nat) × (Nat → Nat)) => ({ i := (j : Int), n := j, a0 := a.1, a1 := a.2.1, a2 := a.2.2.1, a3 := a.2.2.2.1, a4 := a.2.2.2.2.1, a5 := a.2.2.2.2.2.1, a6 := a.2.2.2.2.2.2 } : Vtuj)) v.i.toNat (v.a0, v.a1, v.a2, v.a3, v.a4, v.a5, v.a6) := by
    obtain ⟨i, n, a0, a1, a2, a3, a4, a5, a6⟩ := v
    have hi0 : 0 ≤ i := hi0
    have hk3 : n = i.toNat := hk3
    subst hk3
    simp only [Int.toNat_of_nonneg hi0]
  have key := T_iter (tuj_step c) (fun (j : Nat) (a : (Nat → Nat) × (Nat → Nat) × (Nat → Nat) × (Nat → Nat) × (Nat → Nat) × (Nat → Nat) × (Nat → Nat)) => ({ i := (j : Int), n := j, a0 := a.1, a1 := a.2.1, a2 := a.2.2.1, a3 := a.2.2.2.1, a4 := a.2.2.2.2.1, a5 := a.2.2.2.2.2.1, a6 := a.2.2.2.2.2.2 } : Vtuj)) c.n (tuj_g c) (fun a => (.exit 0, tuj_fin c a)) (fun j a hj Ψ hΨ => ?_) (fun a Ψ hΨ => ?_) (fun a => by simp) (c.n - v.i.toNat) v.i.toNat (v.a0, v.a1, v.a2, v.a3, v.a4, v.a5, v.a6) (by omega) (fun r => Φ (blkEx 0 r.1, r.2)) (by simpa [blkEx] using h1)
  · exact (congrArg (fun z => (loopTree (tuj_step c) (c.n - v.i.toNat + 1) z).holds fun r => Φ (blkEx 0 r.1, r.2)) hv).mpr key
  · unfold tuj_step
    refine (T.h_ite (fun _ => ?_) (fun hc => absurd hc (by simp <;> omega)))
    refine (T.h_need (by simp <;> omega) (T.h_need (by simp <;> omega) (T.h_need (by simp <;> omega) (T.h_need (by simp <;> omega) (T.h_need (by simp <;> omega) ?_)))))
    refine T.h_leaf ?_
    rw [wrap_next (by omega)]
    exact hΨ
  · unfold tuj_step
    refine (T.h_ite (fun hc => absurd hc (by simp <;> omega)) (fun _ => T.h_leaf hΨ.2))

def tuj_dec (b : Mem) (f : FSt) : Option (Ctuj × Vtuj) :=
  match getFnC 112 [(3, 1, 0, 0)] (findF 1 f.sl), getSu 0 7 (findF 13 f.sl), getI (findF 14 f.sl), getI (findF 15 f.sl), getSo 4 7 5 (findF 6 f.sl), id b, f.mem with
  | some (), some (0, n_), some l_, some q_i, some q_n, [some (.cols m_ [.fl .f32 f0_, .fl .f32 f1_, .fl .f32 f2_, .fl .f32 f3_, .fl .f32 f4_, .fl .f32 f5_, .fl .f32 f6_]), some (.box [.fl .f32 x_]), some (.box [.fl .f32 y_]), some (.box [.fn 110 [(1, 1, 0, 0), (2, 1, 0, 0)]])], [_, _, _, _, some (.grow r_n [.fl .f32 q_a0, .fl .f32 q_a1, .fl .f32 q_a2, .fl .f32 q_a3, .fl .f32 q_a4, .fl .f32 q_a5, .fl .f32 q_a6] 5 111), none] => if q_n = r_n then some ({ n := n_, m := m_, f0 := f0_, f1 := f1_, f2 := f2_, f3 := f3_, f4 := f4_, f5 := f5_, f6 := f6_, l := l_, x := x_, y := y_ }, { i := q_i, n := q_n, a0 := q_a0, a1 := q_a1, a2 := q_a2, a3 := q_a3, a4 := q_a4, a5 := q_a5, a6 := q_a6 }) else none
  | _, _, _, _, _, _, _ => none
theorem tuj_dec_ok (b : Mem) (f : FSt) (x : Ctuj × Vtuj) (h : tuj_dec b f = some x) : b = x.1.base ∧ FLe b f (tuj_st x.1 x.2) := by
  unfold tuj_dec at h
  split at h
  · rename_i e0 e1 e2 e3 e4 hb hm
    obtain ⟨hbo, h9⟩ := ite_some h
    clear h
    subst hbo
    have h := h9
    cases h
    have hb : b = _ := hb
    subst hb
    refine ⟨rfl, fle_of (fun p hp => ?_) (by rw [hm]; exact memLe_refl _)⟩
    simp only [List.mem_cons, List.not_mem_nil, or_false] at hp
    rcases hp with rfl | rfl | rfl | rfl | rfl
    · exact getFnC_rel e0
    · exact getSo_rel e4
    · exact getSu_rel e1
    · exact getI_rel e2
    · exact getI_rel e3
  · cases h
noncomputable def tuj_sum : SumF Try.prog 30 tujRoot :=
  sumL (pathB tujRoot 0) tuj_dec (fun x => x.1.base) (fun x => tuj_st x.1 x.2) tuj_R tuj_dec_ok (by
    intro code hc x
    have hc2 : code = .block 0 (.loop (bodyB tujRoot 0)) := by
      have h : subR tujRoot (pathB tujRoot 0) = some (.block 0 (.loop (bodyB tujRoot 0))) := by kernel_rfl
      rw [h] at hc; cases hc; rfl
    subst hc2
    exact tuj_tri x)

noncomputable def k_iTuCh0 : Ctr Try.prog := (mkF0 Try.prog mix [k_tuTwo, k_tu_i_TurnBodiesD1, k_AreBodies, k_iAs] 111 Try.f111 (bodyOf Try.f111) Try.func111 (by kernel_rfl) (by kernel_rfl) [0, 1, 4, 5, 6, 8, 11, 13, 14, 15, 16, 198] 30 (by kernel_rfl) (by kernel_rfl) [tuj_sum]).mg
def tusEnd (n m : Nat) (f0 f1 f2 f3 f4 f5 f6 : Nat → Nat) (x y : Nat) : (Nat → Nat) × (Nat → Nat) × (Nat → Nat) × (Nat → Nat) × (Nat → Nat) × (Nat → Nat) := iter (tus_g ({ m := m, f0 := f0, f1 := f1, f2 := f2, f3 := f3, f4 := f4, f5 := f5, f6 := f6, n2 := n, m2 := n, x := x, y := y, g6 := f6 } : Ctus)) n 0 (f0, f1, f2, f3, f4, f5)
def tujEnd (n m : Nat) (f0 f1 f2 f3 f4 f5 f6 : Nat → Nat) (x y : Nat) : (Nat → Nat) × (Nat → Nat) × (Nat → Nat) × (Nat → Nat) × (Nat → Nat) × (Nat → Nat) × (Nat → Nat) := iter (tuj_g ({ n := n, m := m, f0 := f0, f1 := f1, f2 := f2, f3 := f3, f4 := f4, f5 := f5, f6 := f6, l := (n : Int), x := x, y := y } : Ctuj)) n 0 ((fun _ => canon .f32 0 : Nat → Nat), (fun _ => canon .f32 0 : Nat → Nat), (fun _ => canon .f32 0 : Nat → Nat), (fun _ => canon .f32 0 : Nat → Nat), (fun _ => canon .f32 0 : Nat → Nat), (fun _ => canon .f32 0 : Nat → Nat), (fun _ => canon .f32 0 : Nat → Nat))
theorem tusEnd_at (n m : Nat) (f0 f1 f2 f3 f4 f5 f6 : Nat → Nat) (x y : Nat) (i : Nat) (hi : i < n) : (tusEnd n m f0 f1 f2 f3 f4 f5 f6 x y).1 i = fsub .f32 (fmul .f32 x (f0 i)) (fmul .f32 y (f1 i)) ∧ (tusEnd n m f0 f1 f2 f3 f4 f5 f6 x y).2.1 i = fadd .f32 (fmul .f32 y (f0 i)) (fmul .f32 x (f1 i)) ∧ (tusEnd n m f0 f1 f2 f3 f4 f5 f6 x y).2.2.1 i = f2 i ∧ (tusEnd n m f0 f1 f2 f3 f4 f5 f6 x y).2.2.2.1 i = fsub .f32 (fmul .f32 x (f3 i)) (fmul .f32 y (f4 i)) ∧ (tusEnd n m f0 f1 f2 f3 f4 f5 f6 x y).2.2.2.2.1 i = fadd .f32 (fmul .f32 y (f3 i)) (fmul .f32 x (f4 i)) ∧ (tusEnd n m f0 f1 f2 f3 f4 f5 f6 x y).2.2.2.2.2 i = f5 i := by
  have e0 := (map_at (tus_g ({ m := m, f0 := f0, f1 := f1, f2 := f2, f3 := f3, f4 := f4, f5 := f5, f6 := f6, n2 := n, m2 := n, x := x, y := y, g6 := f6 } : Ctus)) (fun a q => (a.1 q, a.2.1 q)) (fun u => (fsub .f32 (fmul .f32 x u.1) (fmul .f32 y u.2), fadd .f32 (fmul .f32 y u.1) (fmul .f32 x u.2)) : Nat × Nat → Nat × Nat) (fun j a q h => Prod.ext (if_neg h) (if_neg h)) (fun j a => Prod.ext (if_pos rfl) (if_pos rfl)) n 0 (f0, f1, f2, f3, f4, f5) i).2 (Nat.zero_le i) (by omega)
  have e3 := (map_at (tus_g ({ m := m, f0 := f0, f1 := f1, f2 := f2, f3 := f3, f4 := f4, f5 := f5, f6 := f6, n2 := n, m2 := n, x := x, y := y, g6 := f6 } : Ctus)) (fun a q => (a.2.2.2.1 q, a.2.2.2.2.1 q)) (fun u => (fsub .f32 (fmul .f32 x u.1) (fmul .f32 y u.2), fadd .f32 (fmul .f32 y u.1) (fmul .f32 x u.2)) : Nat × Nat → Nat × Nat) (fun j a q h => Prod.ext (if_neg h) (if_neg h)) (fun j a => Prod.ext (if_pos rfl) (if_pos rfl)) n 0 (f0, f1, f2, f3, f4, f5) i).2 (Nat.zero_le i) (by omega)
  exact ⟨congrArg Prod.fst e0, congrArg Prod.snd e0, turn_at (tus_g ({ m := m, f0 := f0, f1 := f1, f2 := f2, f3 := f3, f4 := f4, f5 := f5, f6 := f6, n2 := n, m2 := n, x := x, y := y, g6 := f6 } : Ctus)) (fun a => a.2.2.1) (fun y => y) (fun j a q h => if_neg h) (fun j a => if_pos rfl) n 0 (f0, f1, f2, f3, f4, f5) i (Nat.zero_le i) (by omega), congrArg Prod.fst e3, congrArg Prod.snd e3, turn_at (tus_g ({ m := m, f0 := f0, f1 := f1, f2 := f2, f3 := f3, f4 := f4, f5 := f5, f6 := f6, n2 := n, m2 := n, x := x, y := y, g6 := f6 } : Ctus)) (fun a => a.2.2.2.2.2) (fun y => y) (fun j a q h => if_neg h) (fun j a => if_pos rfl) n 0 (f0, f1, f2, f3, f4, f5) i (Nat.zero_le i) (by omega)⟩
theorem tujEnd_at (n m : Nat) (f0 f1 f2 f3 f4 f5 f6 : Nat → Nat) (x y : Nat) (i : Nat) (hi : i < n) : (tujEnd n m f0 f1 f2 f3 f4 f5 f6 x y).1 i = fsub .f32 (fmul .f32 x (f0 i)) (fmul .f32 y (f1 i)) ∧ (tujEnd n m f0 f1 f2 f3 f4 f5 f6 x y).2.1 i = fadd .f32 (fmul .f32 y (f0 i)) (fmul .f32 x (f1 i)) ∧ (tujEnd n m f0 f1 f2 f3 f4 f5 f6 x y).2.2.1 i = f2 i ∧ (tujEnd n m f0 f1 f2 f3 f4 f5 f6 x y).2.2.2.1 i = fsub .f32 (fmul .f32 x (f3 i)) (fmul .f32 y (f4 i)) ∧ (tujEnd n m f0 f1 f2 f3 f4 f5 f6 x y).2.2.2.2.1 i = fadd .f32 (fmul .f32 y (f3 i)) (fmul .f32 x (f4 i)) ∧ (tujEnd n m f0 f1 f2 f3 f4 f5 f6 x y).2.2.2.2.2.1 i = f5 i ∧ (tujEnd n m f0 f1 f2 f3 f4 f5 f6 x y).2.2.2.2.2.2 i = f6 i :=
  ⟨fill_at (tuj_g ({ n := n, m := m, f0 := f0, f1 := f1, f2 := f2, f3 := f3, f4 := f4, f5 := f5, f6 := f6, l := (n : Int), x := x, y := y } : Ctuj)) (fun a => a.1) (fun q => fsub .f32 (fmul .f32 x (f0 q)) (fmul .f32 y (f1 q))) (fun j a q h => if_neg h) (fun j a => if_pos rfl) n 0 _ i (Nat.zero_le i) (by omega),
   fill_at (tuj_g ({ n := n, m := m, f0 := f0, f1 := f1, f2 := f2, f3 := f3, f4 := f4, f5 := f5, f6 := f6, l := (n : Int), x := x, y := y } : Ctuj)) (fun a => a.2.1) (fun q => fadd .f32 (fmul .f32 y (f0 q)) (fmul .f32 x (f1 q))) (fun j a q h => if_neg h) (fun j a => if_pos rfl) n 0 _ i (Nat.zero_le i) (by omega),
   fill_at (tuj_g ({ n := n, m := m, f0 := f0, f1 := f1, f2 := f2, f3 := f3, f4 := f4, f5 := f5, f6 := f6, l := (n : Int), x := x, y := y } : Ctuj)) (fun a => a.2.2.1) (f2) (fun j a q h => if_neg h) (fun j a => if_pos rfl) n 0 _ i (Nat.zero_le i) (by omega),
   fill_at (tuj_g ({ n := n, m := m, f0 := f0, f1 := f1, f2 := f2, f3 := f3, f4 := f4, f5 := f5, f6 := f6, l := (n : Int), x := x, y := y } : Ctuj)) (fun a => a.2.2.2.1) (fun q => fsub .f32 (fmul .f32 x (f3 q)) (fmul .f32 y (f4 q))) (fun j a q h => if_neg h) (fun j a => if_pos rfl) n 0 _ i (Nat.zero_le i) (by omega),
   fill_at (tuj_g ({ n := n, m := m, f0 := f0, f1 := f1, f2 := f2, f3 := f3, f4 := f4, f5 := f5, f6 := f6, l := (n : Int), x := x, y := y } : Ctuj)) (fun a => a.2.2.2.2.1) (fun q => fadd .f32 (fmul .f32 y (f3 q)) (fmul .f32 x (f4 q))) (fun j a q h => if_neg h) (fun j a => if_pos rfl) n 0 _ i (Nat.zero_le i) (by omega),
   fill_at (tuj_g ({ n := n, m := m, f0 := f0, f1 := f1, f2 := f2, f3 := f3, f4 := f4, f5 := f5, f6 := f6, l := (n : Int), x := x, y := y } : Ctuj)) (fun a => a.2.2.2.2.2.1) (f5) (fun j a q h => if_neg h) (fun j a => if_pos rfl) n 0 _ i (Nat.zero_le i) (by omega),
   fill_at (tuj_g ({ n := n, m := m, f0 := f0, f1 := f1, f2 := f2, f3 := f3, f4 := f4, f5 := f5, f6 := f6, l := (n : Int), x := x, y := y } : Ctuj)) (fun a => a.2.2.2.2.2.2) (f6) (fun j a q h => if_neg h) (fun j a => if_pos rfl) n 0 _ i (Nat.zero_le i) (by omega)⟩
theorem tu_areS (n m : Nat) (f0 f1 f2 f3 f4 f5 f6 : Nat → Nat) (x y : Nat) : areB n (tusEnd n m f0 f1 f2 f3 f4 f5 f6 x y).1 (tusEnd n m f0 f1 f2 f3 f4 f5 f6 x y).2.1 (tusEnd n m f0 f1 f2 f3 f4 f5 f6 x y).2.2.1 (tusEnd n m f0 f1 f2 f3 f4 f5 f6 x y).2.2.2.1 (tusEnd n m f0 f1 f2 f3 f4 f5 f6 x y).2.2.2.2.1 (tusEnd n m f0 f1 f2 f3 f4 f5 f6 x y).2.2.2.2.2 f6 = areB n (fun q => fsub .f32 (fmul .f32 x (f0 q)) (fmul .f32 y (f1 q))) (fun q => fadd .f32 (fmul .f32 y (f0 q)) (fmul .f32 x (f1 q))) f2 (fun q => fsub .f32 (fmul .f32 x (f3 q)) (fmul .f32 y (f4 q))) (fun q => fadd .f32 (fmul .f32 y (f3 q)) (fmul .f32 x (f4 q))) f5 f6 := by
  refine areB_congr fun i hi => ?_
  obtain ⟨h0, h1, h2, h3, h4, h5⟩ := tusEnd_at n m f0 f1 f2 f3 f4 f5 f6 x y i hi
  rw [h0, h1, h2, h3, h4, h5]
theorem tu_areJ (n m : Nat) (f0 f1 f2 f3 f4 f5 f6 : Nat → Nat) (x y : Nat) : areB n (tujEnd n m f0 f1 f2 f3 f4 f5 f6 x y).1 (tujEnd n m f0 f1 f2 f3 f4 f5 f6 x y).2.1 (tujEnd n m f0 f1 f2 f3 f4 f5 f6 x y).2.2.1 (tujEnd n m f0 f1 f2 f3 f4 f5 f6 x y).2.2.2.1 (tujEnd n m f0 f1 f2 f3 f4 f5 f6 x y).2.2.2.2.1 (tujEnd n m f0 f1 f2 f3 f4 f5 f6 x y).2.2.2.2.2.1 (tujEnd n m f0 f1 f2 f3 f4 f5 f6 x y).2.2.2.2.2.2 = areB n (fun q => fsub .f32 (fmul .f32 x (f0 q)) (fmul .f32 y (f1 q))) (fun q => fadd .f32 (fmul .f32 y (f0 q)) (fmul .f32 x (f1 q))) f2 (fun q => fsub .f32 (fmul .f32 x (f3 q)) (fmul .f32 y (f4 q))) (fun q => fadd .f32 (fmul .f32 y (f3 q)) (fmul .f32 x (f4 q))) f5 f6 := by
  refine areB_congr fun i hi => ?_
  obtain ⟨h0, h1, h2, h3, h4, h5, h6⟩ := tujEnd_at n m f0 f1 f2 f3 f4 f5 f6 x y i hi
  rw [h0, h1, h2, h3, h4, h5, h6]
def run_iTuCh : List AV → Mem → T Res
  | [.one (.su 0 7 0 n false), .one (.fn g [(3, 1, 0, 0)])], [some (.cols m [.fl .f32 f0, .fl .f32 f1, .fl .f32 f2, .fl .f32 f3, .fl .f32 f4, .fl .f32 f5, .fl .f32 f6]), some (.box [.fl .f32 x]), some (.box [.fl .f32 y]), some (.box [.fn h [(1, 1, 0, 0), (2, 1, 0, 0)]])] => match Nat.beq g 112 && Nat.beq h 110 with
    | true => .need (decide (n ≤ m)) (.ite (areB n f0 f1 f2 f3 f4 f5 f6 && areB n (fun q => fsub .f32 (fmul .f32 x (f0 q)) (fmul .f32 y (f1 q))) (fun q => fadd .f32 (fmul .f32 y (f0 q)) (fmul .f32 x (f1 q))) f2 (fun q => fsub .f32 (fmul .f32 x (f3 q)) (fmul .f32 y (f4 q))) (fun q => fadd .f32 (fmul .f32 y (f3 q)) (fmul .f32 x (f4 q))) f5 f6) (.leaf (.tup [.one (.su 4 7 0 n false), .one (.tt true)], [some (.cols n [.fl .f32 (fun q => fsub .f32 (fmul .f32 x (f0 q)) (fmul .f32 y (f1 q))), .fl .f32 (fun q => fadd .f32 (fmul .f32 y (f0 q)) (fmul .f32 x (f1 q))), .fl .f32 f2, .fl .f32 (fun q => fsub .f32 (fmul .f32 x (f3 q)) (fmul .f32 y (f4 q))), .fl .f32 (fun q => fadd .f32 (fmul .f32 y (f3 q)) (fmul .f32 x (f4 q))), .fl .f32 f5, .fl .f32 f6]), none])) (.leaf (.tup [.one (.val (.slice none 0 0)), .one (.tt false)], [])))
    | false => .fail
  | _, _ => .fail
theorem iTuCh0_ev (n m : Nat) (f0 f1 f2 f3 f4 f5 f6 : Nat → Nat) (x y : Nat) : k_iTuCh0.run [.one (.su 0 7 0 n false), .one (.fn 112 [(3, 1, 0, 0)])] [some (.cols m [.fl .f32 f0, .fl .f32 f1, .fl .f32 f2, .fl .f32 f3, .fl .f32 f4, .fl .f32 f5, .fl .f32 f6]), some (.box [.fl .f32 x]), some (.box [.fl .f32 y]), some (.box [.fn 110 [(1, 1, 0, 0), (2, 1, 0, 0)]])] =
    .need (decide (n ≤ m)) (.need (bif !areB n f0 f1 f2 f3 f4 f5 f6 then true else tuj_ok ({ n := n, m := m, f0 := f0, f1 := f1, f2 := f2, f3 := f3, f4 := f4, f5 := f5, f6 := f6, l := (n : Int), x := x, y := y } : Ctuj) { i := 0, n := 0, a0 := (fun _ => canon .f32 0 : Nat → Nat), a1 := (fun _ => canon .f32 0 : Nat → Nat), a2 := (fun _ => canon .f32 0 : Nat → Nat), a3 := (fun _ => canon .f32 0 : Nat → Nat), a4 := (fun _ => canon .f32 0 : Nat → Nat), a5 := (fun _ => canon .f32 0 : Nat → Nat), a6 := (fun _ => canon .f32 0 : Nat → Nat) }) (.need (bif !areB n f0 f1 f2 f3 f4 f5 f6 then true else decide (n ≤ n))
      (.ite (!areB n f0 f1 f2 f3 f4 f5 f6) (.leaf (.tup [.one (.val (.slice none 0 0)), .one (.tt false)], [])) (.ite (!areB n (tujEnd n m f0 f1 f2 f3 f4 f5 f6 x y).1 (tujEnd n m f0 f1 f2 f3 f4 f5 f6 x y).2.1 (tujEnd n m f0 f1 f2 f3 f4 f5 f6 x y).2.2.1 (tujEnd n m f0 f1 f2 f3 f4 f5 f6 x y).2.2.2.1 (tujEnd n m f0 f1 f2 f3 f4 f5 f6 x y).2.2.2.2.1 (tujEnd n m f0 f1 f2 f3 f4 f5 f6 x y).2.2.2.2.2.1 (tujEnd n m f0 f1 f2 f3 f4 f5 f6 x y).2.2.2.2.2.2) (.leaf (.tup [.one (.val (.slice none 0 0)), .one (.tt false)], [])) (.leaf (.tup [.one (.su 4 7 0 n false), .one (.tt true)], [some (.grow n [.fl .f32 (tujEnd n m f0 f1 f2 f3 f4 f5 f6 x y).1, .fl .f32 (tujEnd n m f0 f1 f2 f3 f4 f5 f6 x y).2.1, .fl .f32 (tujEnd n m f0 f1 f2 f3 f4 f5 f6 x y).2.2.1, .fl .f32 (tujEnd n m f0 f1 f2 f3 f4 f5 f6 x y).2.2.2.1, .fl .f32 (tujEnd n m f0 f1 f2 f3 f4 f5 f6 x y).2.2.2.2.1, .fl .f32 (tujEnd n m f0 f1 f2 f3 f4 f5 f6 x y).2.2.2.2.2.1, .fl .f32 (tujEnd n m f0 f1 f2 f3 f4 f5 f6 x y).2.2.2.2.2.2] 5 111), none])))))) := by kernel_rfl
noncomputable def k_iTuCh : Ctr Try.prog := (k_iTuCh0.to run_iTuCh (by
  intro args mem _
  unfold run_iTuCh
  split
  · rename_i n g m f0 f1 f2 f3 f4 f5 f6 x y h _
    split
    · rename_i hgh
      obtain rfl : g = 112 := Nat.eq_of_beq_eq_true (by revert hgh; cases Nat.beq g 112 <;> simp)
      obtain rfl : h = 110 := Nat.eq_of_beq_eq_true (by revert hgh; cases Nat.beq h 110 <;> simp)
      rw [iTuCh0_ev]
      constructor
      intro Φ hΦ h
      have hnm := of_decide_eq_true h.1
      have hle : (!areB n f0 f1 f2 f3 f4 f5 f6) = false → n ≤ 16 := fun hA => areB_le (by simpa using hA)
      refine T.h_need h.1 (T.h_need (needT fun hA => decide_eq_true ?_) (T.h_need (needT fun hA => decide_eq_true (Nat.le_refl n)) (T.h_ite (fun hA => T.h_leaf (h.2.2 ?_)) (fun hA => T.h_ite (fun hB => T.h_leaf (h.2.2 ?_)) (fun hB => T.h_leaf (hΦ _ (.tup [.one (.su 4 7 0 n false), .one (.tt true)], [some (.cols n [.fl .f32 (fun q => fsub .f32 (fmul .f32 x (f0 q)) (fmul .f32 y (f1 q))), .fl .f32 (fun q => fadd .f32 (fmul .f32 y (f0 q)) (fmul .f32 x (f1 q))), .fl .f32 f2, .fl .f32 (fun q => fsub .f32 (fmul .f32 x (f3 q)) (fmul .f32 y (f4 q))), .fl .f32 (fun q => fadd .f32 (fmul .f32 y (f3 q)) (fmul .f32 x (f4 q))), .fl .f32 f5, .fl .f32 f6]), none]) ⟨⟨BlLe.grow_cols (fun i hi => ?_) rfl, trivial⟩, fun _ _ hv => hv⟩ (h.2.1 ?_)))))))
      · have := hle hA
        exact ⟨by show n ≤ m; omega, by show n ≤ 1048576; omega, rfl, rfl, Int.le_refl 0, Int.natCast_nonneg n⟩
      · have hA' : areB n f0 f1 f2 f3 f4 f5 f6 = false := by simpa using hA
        rw [hA']; rfl
      · rw [tu_areJ] at hB
        have hB' : areB n (fun q => fsub .f32 (fmul .f32 x (f0 q)) (fmul .f32 y (f1 q))) (fun q => fadd .f32 (fmul .f32 y (f0 q)) (fmul .f32 x (f1 q))) f2 (fun q => fsub .f32 (fmul .f32 x (f3 q)) (fmul .f32 y (f4 q))) (fun q => fadd .f32 (fmul .f32 y (f3 q)) (fmul .f32 x (f4 q))) f5 f6 = false := by simpa using hB
        rw [hB', Bool.and_false]
      · obtain ⟨h0, h1, h2, h3, h4, h5, h6⟩ := tujEnd_at n m f0 f1 f2 f3 f4 f5 f6 x y i hi
        simp only [colsAt, Col.at, h0, h1, h2, h3, h4, h5, h6]
      · rw [tu_areJ] at hB
        have hA' : areB n f0 f1 f2 f3 f4 f5 f6 = true := by simpa using hA
        have hB' : areB n (fun q => fsub .f32 (fmul .f32 x (f0 q)) (fmul .f32 y (f1 q))) (fun q => fadd .f32 (fmul .f32 y (f0 q)) (fmul .f32 x (f1 q))) f2 (fun q => fsub .f32 (fmul .f32 x (f3 q)) (fmul .f32 y (f4 q))) (fun q => fadd .f32 (fmul .f32 y (f3 q)) (fmul .f32 x (f4 q))) f5 f6 = true := by simpa using hB
        rw [hA', hB']; rfl
    · exact Weak.fail _
  · exact Weak.fail _))
noncomputable def k_iTu0 : Ctr Try.prog := (mkF0 Try.prog mix [k_IsFinite, k_SineTurns, k_iTuCh] 48 Try.f48 (bodyOf Try.f48) Try.func48 (by kernel_rfl) (by kernel_rfl) [0, 1, 4, 5, 6, 7, 8, 11, 198] 23 (by kernel_rfl) (by kernel_rfl) []).mg
noncomputable def tu_ok (n : Nat) (f0 f1 f2 f3 f4 f5 f6 : Nat → Nat) (w : Nat) : Bool := areB n f0 f1 f2 f3 f4 f5 f6 && (fin .f32 w && areB n (fun q => fsub .f32 (fmul .f32 (sineV (fadd .f32 w (canon .f32 1048576000))) (f0 q)) (fmul .f32 (sineV w) (f1 q))) (fun q => fadd .f32 (fmul .f32 (sineV w) (f0 q)) (fmul .f32 (sineV (fadd .f32 w (canon .f32 1048576000))) (f1 q))) f2 (fun q => fsub .f32 (fmul .f32 (sineV (fadd .f32 w (canon .f32 1048576000))) (f3 q)) (fmul .f32 (sineV w) (f4 q))) (fun q => fadd .f32 (fmul .f32 (sineV w) (f3 q)) (fmul .f32 (sineV (fadd .f32 w (canon .f32 1048576000))) (f4 q))) f5 f6)
noncomputable def run_sTu : List AV → Mem → T Res
  | [.one (.su 0 7 0 n false), .one (.fl .f32 w)], [some (.cols m [.fl .f32 f0, .fl .f32 f1, .fl .f32 f2, .fl .f32 f3, .fl .f32 f4, .fl .f32 f5, .fl .f32 f6])] => .need (decide (n ≤ m)) (.ite (tu_ok n f0 f1 f2 f3 f4 f5 f6 w) (.leaf (.tup [.one (.su 1 7 0 n false), .one (.tt true)], [some (.cols n [.fl .f32 (fun q => fsub .f32 (fmul .f32 (sineV (fadd .f32 w (canon .f32 1048576000))) (f0 q)) (fmul .f32 (sineV w) (f1 q))), .fl .f32 (fun q => fadd .f32 (fmul .f32 (sineV w) (f0 q)) (fmul .f32 (sineV (fadd .f32 w (canon .f32 1048576000))) (f1 q))), .fl .f32 f2, .fl .f32 (fun q => fsub .f32 (fmul .f32 (sineV (fadd .f32 w (canon .f32 1048576000))) (f3 q)) (fmul .f32 (sineV w) (f4 q))), .fl .f32 (fun q => fadd .f32 (fmul .f32 (sineV w) (f3 q)) (fmul .f32 (sineV (fadd .f32 w (canon .f32 1048576000))) (f4 q))), .fl .f32 f5, .fl .f32 f6])])) (.leaf (.tup [.one (.val (.slice none 0 0)), .one (.tt false)], [])))
  | _, _ => .fail
noncomputable def run_iTu : List AV → Mem → T Res
  | [.one (.su 0 7 0 n false), .one (.fl .f32 w)], [some (.cols m [.fl .f32 f0, .fl .f32 f1, .fl .f32 f2, .fl .f32 f3, .fl .f32 f4, .fl .f32 f5, .fl .f32 f6])] => .need (decide (n ≤ m)) (.ite (tu_ok n f0 f1 f2 f3 f4 f5 f6 w) (.leaf (.tup [.one (.su 4 7 0 n false), .one (.tt true)], [none, none, none, some (.cols n [.fl .f32 (fun q => fsub .f32 (fmul .f32 (sineV (fadd .f32 w (canon .f32 1048576000))) (f0 q)) (fmul .f32 (sineV w) (f1 q))), .fl .f32 (fun q => fadd .f32 (fmul .f32 (sineV w) (f0 q)) (fmul .f32 (sineV (fadd .f32 w (canon .f32 1048576000))) (f1 q))), .fl .f32 f2, .fl .f32 (fun q => fsub .f32 (fmul .f32 (sineV (fadd .f32 w (canon .f32 1048576000))) (f3 q)) (fmul .f32 (sineV w) (f4 q))), .fl .f32 (fun q => fadd .f32 (fmul .f32 (sineV w) (f3 q)) (fmul .f32 (sineV (fadd .f32 w (canon .f32 1048576000))) (f4 q))), .fl .f32 f5, .fl .f32 f6]), none])) (.leaf (.tup [.one (.val (.slice none 0 0)), .one (.tt false)], [])))
  | _, _ => .fail
theorem sTu0_ev (n m : Nat) (f0 f1 f2 f3 f4 f5 f6 : Nat → Nat) (w : Nat) : k_sTu0.run [.one (.su 0 7 0 n false), .one (.fl .f32 w)] [some (.cols m [.fl .f32 f0, .fl .f32 f1, .fl .f32 f2, .fl .f32 f3, .fl .f32 f4, .fl .f32 f5, .fl .f32 f6])] =
    .need (decide (n ≤ m)) (.need (bif bif !areB n f0 f1 f2 f3 f4 f5 f6 then true else !fin .f32 w then true else decide (n ≤ m)) (.need (bif bif !areB n f0 f1 f2 f3 f4 f5 f6 then true else !fin .f32 w then true else decide (n ≤ 1073741824)) (.need (bif bif !areB n f0 f1 f2 f3 f4 f5 f6 then true else !fin .f32 w then true else tus_ok ({ m := m, f0 := f0, f1 := f1, f2 := f2, f3 := f3, f4 := f4, f5 := f5, f6 := f6, n2 := n, m2 := n, x := (sineV (fadd .f32 w (canon .f32 1048576000))), y := sineV w, g6 := f6 } : Ctus) { i := 0, a0 := f0, a1 := f1, a2 := f2, a3 := f3, a4 := f4, a5 := f5 }) (.need (bif bif !areB n f0 f1 f2 f3 f4 f5 f6 then true else !fin .f32 w then true else decide (n ≤ n))
      (.ite (bif !areB n f0 f1 f2 f3 f4 f5 f6 then true else !fin .f32 w) (.leaf (.tup [.one (.val (.slice none 0 0)), .one (.tt false)], [])) (.ite (!areB n (tusEnd n m f0 f1 f2 f3 f4 f5 f6 (sineV (fadd .f32 w (canon .f32 1048576000))) (sineV w)).1 (tusEnd n m f0 f1 f2 f3 f4 f5 f6 (sineV (fadd .f32 w (canon .f32 1048576000))) (sineV w)).2.1 (tusEnd n m f0 f1 f2 f3 f4 f5 f6 (sineV (fadd .f32 w (canon .f32 1048576000))) (sineV w)).2.2.1 (tusEnd n m f0 f1 f2 f3 f4 f5 f6 (sineV (fadd .f32 w (canon .f32 1048576000))) (sineV w)).2.2.2.1 (tusEnd n m f0 f1 f2 f3 f4 f5 f6 (sineV (fadd .f32 w (canon .f32 1048576000))) (sineV w)).2.2.2.2.1 (tusEnd n m f0 f1 f2 f3 f4 f5 f6 (sineV (fadd .f32 w (canon .f32 1048576000))) (sineV w)).2.2.2.2.2 f6) (.leaf (.tup [.one (.val (.slice none 0 0)), .one (.tt false)], [])) (.leaf (.tup [.one (.su 1 7 0 n false), .one (.tt true)], [some (.cols n [.fl .f32 (tusEnd n m f0 f1 f2 f3 f4 f5 f6 (sineV (fadd .f32 w (canon .f32 1048576000))) (sineV w)).1, .fl .f32 (tusEnd n m f0 f1 f2 f3 f4 f5 f6 (sineV (fadd .f32 w (canon .f32 1048576000))) (sineV w)).2.1, .fl .f32 (tusEnd n m f0 f1 f2 f3 f4 f5 f6 (sineV (fadd .f32 w (canon .f32 1048576000))) (sineV w)).2.2.1, .fl .f32 (tusEnd n m f0 f1 f2 f3 f4 f5 f6 (sineV (fadd .f32 w (canon .f32 1048576000))) (sineV w)).2.2.2.1, .fl .f32 (tusEnd n m f0 f1 f2 f3 f4 f5 f6 (sineV (fadd .f32 w (canon .f32 1048576000))) (sineV w)).2.2.2.2.1, .fl .f32 (tusEnd n m f0 f1 f2 f3 f4 f5 f6 (sineV (fadd .f32 w (canon .f32 1048576000))) (sineV w)).2.2.2.2.2, .fl .f32 f6])])))))))) := by kernel_rfl
theorem iTu0_ev (n m : Nat) (f0 f1 f2 f3 f4 f5 f6 : Nat → Nat) (w : Nat) : k_iTu0.run [.one (.su 0 7 0 n false), .one (.fl .f32 w)] [some (.cols m [.fl .f32 f0, .fl .f32 f1, .fl .f32 f2, .fl .f32 f3, .fl .f32 f4, .fl .f32 f5, .fl .f32 f6])] =
    .need (bif !fin .f32 w then true else decide (n ≤ m)) (.ite (!fin .f32 w) (.leaf (.tup [.one (.val (.slice none 0 0)), .one (.tt false)], [])) (.ite (areB n f0 f1 f2 f3 f4 f5 f6 && areB n (fun q => fsub .f32 (fmul .f32 (sineV (fadd .f32 w (canon .f32 1048576000))) (f0 q)) (fmul .f32 (sineV w) (f1 q))) (fun q => fadd .f32 (fmul .f32 (sineV w) (f0 q)) (fmul .f32 (sineV (fadd .f32 w (canon .f32 1048576000))) (f1 q))) f2 (fun q => fsub .f32 (fmul .f32 (sineV (fadd .f32 w (canon .f32 1048576000))) (f3 q)) (fmul .f32 (sineV w) (f4 q))) (fun q => fadd .f32 (fmul .f32 (sineV w) (f3 q)) (fmul .f32 (sineV (fadd .f32 w (canon .f32 1048576000))) (f4 q))) f5 f6) (.leaf (.tup [.one (.su 4 7 0 n false), .one (.tt true)], [some (.box [.fl .f32 (sineV (fadd .f32 w (canon .f32 1048576000)))]), some (.box [.fl .f32 (sineV w)]), some (.box [.fn 110 [(1, 1, 0, 0), (2, 1, 0, 0)]]), some (.cols n [.fl .f32 (fun q => fsub .f32 (fmul .f32 (sineV (fadd .f32 w (canon .f32 1048576000))) (f0 q)) (fmul .f32 (sineV w) (f1 q))), .fl .f32 (fun q => fadd .f32 (fmul .f32 (sineV w) (f0 q)) (fmul .f32 (sineV (fadd .f32 w (canon .f32 1048576000))) (f1 q))), .fl .f32 f2, .fl .f32 (fun q => fsub .f32 (fmul .f32 (sineV (fadd .f32 w (canon .f32 1048576000))) (f3 q)) (fmul .f32 (sineV w) (f4 q))), .fl .f32 (fun q => fadd .f32 (fmul .f32 (sineV w) (f3 q)) (fmul .f32 (sineV (fadd .f32 w (canon .f32 1048576000))) (f4 q))), .fl .f32 f5, .fl .f32 f6]), none])) (.leaf (.tup [.one (.val (.slice none 0 0)), .one (.tt false)], [])))) := by kernel_rfl
theorem sTu_sh {Φ : Res → Prop} {nil row row' : Res} {m1 m2 m3 m4 m5 : Bool} : ∀ (A S E E' : Bool), E = E' → m1 = true → (A = true → m2 = true) → (A = true → m3 = true) → (A = true → m4 = true) → (A = true → m5 = true) → (Φ row' → Φ row) → ((A && (S && E')) = true → Φ row') ∧ ((A && (S && E')) = false → Φ nil) →
    (T.need m1 (T.need (bif bif !A then true else !S then true else m2) (T.need (bif bif !A then true else !S then true else m3) (T.need (bif bif !A then true else !S then true else m4) (T.need (bif bif !A then true else !S then true else m5) (T.ite (bif !A then true else !S) (.leaf nil) (.ite (!E) (.leaf nil) (.leaf row)))))))).holds Φ := by
  intro A S E E' e h1 h2 h3 h4 h5 hr h
  subst e
  cases A <;> cases S <;> cases E <;> simp_all [T.holds]
theorem iTu_sh {Φ : Res → Prop} {nil row : Res} {m1 : Bool} : ∀ (A S E : Bool), m1 = true → ((A && (S && E)) = true → Φ row) ∧ ((A && (S && E)) = false → Φ nil) →
    (T.need (bif !S then true else m1) (T.ite (!S) (.leaf nil) (.ite (A && E) (.leaf row) (.leaf nil)))).holds Φ := by
  intro A S E h1 h
  cases A <;> cases S <;> cases E <;> simp_all [T.holds]
noncomputable def k_sTu : Ctr Try.prog := (k_sTu0.to run_sTu (by
  intro args mem _
  unfold run_sTu
  split
  · rename_i n w m f0 f1 f2 f3 f4 f5 f6 _
    rw [sTu0_ev]
    constructor
    intro Φ hΦ h
    have hle : areB n f0 f1 f2 f3 f4 f5 f6 = true → n ≤ 16 := areB_le
    refine sTu_sh _ _ _ _ (tu_areS n m f0 f1 f2 f3 f4 f5 f6 (sineV (fadd .f32 w (canon .f32 1048576000))) (sineV w)) h.1 (fun _ => h.1) (fun hA => decide_eq_true (by have := hle hA; omega)) (fun hA => decide_eq_true ?_) (fun _ => decide_eq_true (Nat.le_refl n)) (fun hr => hΦ _ (.tup [.one (.su 1 7 0 n false), .one (.tt true)], [some (.cols n [.fl .f32 (fun q => fsub .f32 (fmul .f32 (sineV (fadd .f32 w (canon .f32 1048576000))) (f0 q)) (fmul .f32 (sineV w) (f1 q))), .fl .f32 (fun q => fadd .f32 (fmul .f32 (sineV w) (f0 q)) (fmul .f32 (sineV (fadd .f32 w (canon .f32 1048576000))) (f1 q))), .fl .f32 f2, .fl .f32 (fun q => fsub .f32 (fmul .f32 (sineV (fadd .f32 w (canon .f32 1048576000))) (f3 q)) (fmul .f32 (sineV w) (f4 q))), .fl .f32 (fun q => fadd .f32 (fmul .f32 (sineV w) (f3 q)) (fmul .f32 (sineV (fadd .f32 w (canon .f32 1048576000))) (f4 q))), .fl .f32 f5, .fl .f32 f6])]) ⟨⟨BlLe.cols_eq (fun i hi => ?_) rfl, trivial⟩, fun _ _ hv => hv⟩ hr) ⟨h.2.1, h.2.2⟩
    · have := hle hA
      exact ⟨by show n ≤ 1099511627776; omega, Nat.le_refl n, Int.le_refl 0, Int.natCast_nonneg n⟩
    · obtain ⟨h0, h1, h2, h3, h4, h5⟩ := tusEnd_at n m f0 f1 f2 f3 f4 f5 f6 (sineV (fadd .f32 w (canon .f32 1048576000))) (sineV w) i hi
      simp only [colsAt, Col.at, h0, h1, h2, h3, h4, h5]
  · exact Weak.fail _)).su.own
noncomputable def k_iTu : Ctr Try.prog := (k_iTu0.to run_iTu (by
  intro args mem _
  unfold run_iTu
  split
  · rename_i n w m f0 f1 f2 f3 f4 f5 f6 _
    rw [iTu0_ev]
    constructor
    intro Φ hΦ h
    refine iTu_sh _ _ _ h.1 ⟨fun hk => hΦ _ (.tup [.one (.su 4 7 0 n false), .one (.tt true)], [none, none, none, some (.cols n [.fl .f32 (fun q => fsub .f32 (fmul .f32 (sineV (fadd .f32 w (canon .f32 1048576000))) (f0 q)) (fmul .f32 (sineV w) (f1 q))), .fl .f32 (fun q => fadd .f32 (fmul .f32 (sineV w) (f0 q)) (fmul .f32 (sineV (fadd .f32 w (canon .f32 1048576000))) (f1 q))), .fl .f32 f2, .fl .f32 (fun q => fsub .f32 (fmul .f32 (sineV (fadd .f32 w (canon .f32 1048576000))) (f3 q)) (fmul .f32 (sineV w) (f4 q))), .fl .f32 (fun q => fadd .f32 (fmul .f32 (sineV w) (f3 q)) (fmul .f32 (sineV (fadd .f32 w (canon .f32 1048576000))) (f4 q))), .fl .f32 f5, .fl .f32 f6]), none]) ⟨⟨BlLe.refl _, trivial⟩, fun _ _ hv => hv⟩ (h.2.1 hk), fun hk => h.2.2 hk⟩
  · exact Weak.fail _)).su.own

end Go.Proofs.Ytkjggmfblkkopaa
