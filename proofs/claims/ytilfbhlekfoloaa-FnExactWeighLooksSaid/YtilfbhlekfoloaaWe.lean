/-
  WeighLooks: both functions in the same words. No conditions.
-/
import Derived.Test.YtilfbhlekfoloaaAk
import Derived.Test.YtilfbhlekfoloaaRw
namespace Go.Proofs.Ytilfbhlekfoloaa
set_option linter.unusedVariables false
set_option linter.unusedSimpArgs false
open Go.RowKit

noncomputable def k_we_i_aMass : Ctr Try.prog := (mkF Try.prog mix [k_IsFinite] 102 Try.f102 (bodyOf Try.f102) Try.func102 (by kernel_rfl) (by kernel_rfl) [0, 2] 9 (by kernel_rfl) (by kernel_rfl)).mg
structure Cwes where
  n : Nat
  m : Nat
  f0 : Nat → Nat
  f1 : Nat → Nat
  f2 : Nat → Nat
  f3 : Nat → Nat
  f4 : Nat → Nat
  wt : Nat
  l : Int
def Cwes.base (c : Cwes) : Mem := [some (.cols c.m [.fl .f32 c.f0, .fl .f32 c.f1, .fl .f32 c.f2, .fl .f32 c.f3, .fl .f32 c.f4])]
structure Vwes where
  i : Int
  n : Nat
  a0 : Nat → Nat
  a1 : Nat → Nat
  a2 : Nat → Nat
  a3 : Nat → Nat
  a4 : Nat → Nat
noncomputable abbrev wesRoot : Code := bodyOf Try.f55
def wes_st (c : Cwes) (v : Vwes) : FSt := ⟨[(0, .one (.su 0 5 0 c.n false)), (1, .one (.fl .f32 c.wt)), (6, .one (.so 1 5 v.n 2)), (19, .one (.num .i64 c.l)), (20, .one (.num .i64 v.i))], c.base ++ [some (.grow v.n [.fl .f32 v.a0, .fl .f32 v.a1, .fl .f32 v.a2, .fl .f32 v.a3, .fl .f32 v.a4] 2 89), none]⟩
def wes_step (c : Cwes) (v : Vwes) : T (Nx Vwes) :=
  .ite (decide (v.1 < c.9)) (.need (decide (0 ≤ v.1) && decide (v.1 < ↑c.1)) (.need (decide (v.1.toNat + 0 < c.2)) (.need (decide (v.2 ≤ v.2)) (.need (true) (.need (decide (v.2 + 1 ≤ 1073741824)) (.leaf (.go { i := IntKind.i64.wrap (v.1 + 1), n := v.n + 1, a0 := fun q => if q = v.n then c.f0 (v.i.toNat + 0) else v.a0 q, a1 := fun q => if q = v.n then c.f1 (v.i.toNat + 0) else v.a1 q, a2 := fun q => if q = v.n then c.f2 (v.i.toNat + 0) else v.a2 q, a3 := fun q => if q = v.n then c.f3 (v.i.toNat + 0) else v.a3 q, a4 := fun q => if q = v.n then fmul FloatKind.f32 (c.f4 (v.i.toNat + 0)) c.wt else v.a4 q }))))))) (.leaf (.out (EX.exit 0) ⟨[(0, AV.one (SV.su 0 5 0 c.1 false)), (1, AV.one (SV.fl FloatKind.f32 c.8)), (6, AV.one (SV.so 1 5 v.n 2)), (19, AV.one (SV.num IntKind.i64 c.9)), (20, AV.one (SV.num IntKind.i64 v.1))], c.base ++ [some (.grow v.n [.fl .f32 v.a0, .fl .f32 v.a1, .fl .f32 v.a2, .fl .f32 v.a3, .fl .f32 v.a4] 2 89), none]⟩))
theorem wes_round (c : Cwes) (v : Vwes) : roundF Try.prog 41 [] wesRoot [] c.base [0, 1, 4, 5, 6, 7, 8, 16, 19, 20, 21, 39, 198] [0, 1, 6, 19, 20] 0 (wes_st c v) = (wes_step c v).map (nxF (wes_st c)) := by kernel_rfl
def wes_g (c : Cwes) (j : Nat) (a : (Nat → Nat) × (Nat → Nat) × (Nat → Nat) × (Nat → Nat) × (Nat → Nat)) : (Nat → Nat) × (Nat → Nat) × (Nat → Nat) × (Nat → Nat) × (Nat → Nat) := (fun q => if q = j then c.f0 j else a.1 q, fun q => if q = j then c.f1 j else a.2.1 q, fun q => if q = j then c.f2 j else a.2.2.1 q, fun q => if q = j then c.f3 j else a.2.2.2.1 q, fun q => if q = j then fmul .f32 (c.f4 j) c.wt else a.2.2.2.2 q)
def wes_ok (c : Cwes) (v : Vwes) : Bool := decide (c.n ≤ c.m ∧ c.n ≤ 1048576 ∧ c.l = (c.n : Int) ∧ v.n = v.i.toNat ∧ 0 ≤ v.i ∧ v.i ≤ ((c.n : Nat) : Int))
def wes_fin (c : Cwes) (a : (Nat → Nat) × (Nat → Nat) × (Nat → Nat) × (Nat → Nat) × (Nat → Nat)) : FSt := wes_st c ({ i := (c.n : Int), n := c.n, a0 := a.1, a1 := a.2.1, a2 := a.2.2.1, a3 := a.2.2.2.1, a4 := a.2.2.2.2 })
noncomputable def wes_R (x : Cwes × Vwes) : T (EX × FSt) := .need (wes_ok x.1 x.2) (.leaf (.normal, wes_fin x.1 (iter (wes_g x.1) (x.1.n - x.2.i.toNat) x.2.i.toNat (x.2.a0, x.2.a1, x.2.a2, x.2.a3, x.2.a4))))
theorem wes_tri (x : Cwes × Vwes) : TriR Try.prog 41 x.1.base (.block 0 (.loop (bodyB wesRoot 0))) (wes_st x.1 x.2) (wes_R x) := by
  obtain ⟨c, v⟩ := x
  refine triR_of mix (root := wesRoot) (by kernel_rfl) (by kernel_rfl) [0, 1, 4, 5, 6, 7, 8, 16, 19, 20, 21, 39, 198] [0, 1, 6, 19, 20] (wes_st c) (wes_step c) (wes_round c) v _ ((c.n - v.i.toNat) + 1) (fun Φ h => ?_)
  have h0 := h.1
  have h1 : Φ (.normal, wes_fin c (iter (wes_g c) (c.n - v.i.toNat) v.i.toNat (v.a0, v.a1, v.a2, v.a3, v.a4))) := h.2
  simp only [wes_ok, decide_eq_true_eq] at h0
  obtain ⟨hk0, hk1, hk2, hk3, hi0, hin⟩ := h0
  have hv : v = (fun (j : Nat) (a : (Nat → Nat) × (Nat → Nat) × (Nat → Nat) × (Nat → Nat) × (Nat → Nat)) => ({ i := (j : Int), n := j, a0 := a.1, a1 := a.2.1, a2 := a.2.2.1, a3 := a.2.2.2.1, a4 := a.2.2.2.2 } : Vwes)) v.i.toNat (v.a0, v.a1, v.a2, v.a3, v.a4) := by
    obtain ⟨i, n, a0, a1, a2, a3, a4⟩ := v
    have hi0 : 0 ≤ i := hi0
    have hk9 : n = i.toNat := hk3
    subst hk9
    simp only [Int.toNat_of_nonneg hi0]
  have key := T_iter (wes_step c) (fun (j : Nat) (a : (Nat → Nat) × (Nat → Nat) × (Nat → Nat) × (Nat → Nat) × (Nat → Nat)) => ({ i := (j : Int), n := j, a0 := a.1, a1 := a.2.1, a2 := a.2.2.1, a3 := a.2.2.2.1, a4 := a.2.2.2.2 } : Vwes)) c.n (wes_g c) (fun a => (.exit 0, wes_fin c a)) (fun j a hj Ψ hΨ => ?_) (fun a Ψ hΨ => ?_) (fun a => by simp) (c.n - v.i.toNat) v.i.toNat (v.a0, v.a1, v.a2, v.a3, v.a4) (by omega) (fun r => Φ (blkEx 0 r.1, r.2)) (by simpa [blkEx] using h1)
  · exact (congrArg (fun z => (loopTree (wes_step c) (c.n - v.i.toNat + 1) z).holds fun r => Φ (blkEx 0 r.1, r.2)) hv).mpr key
  · unfold wes_step
    refine (T.h_ite (fun _ => ?_) (fun hc => absurd hc (by simp <;> omega)))
    refine (T.h_need (by simp <;> omega) (T.h_need (by simp <;> omega) (T.h_need (by simp <;> omega) (T.h_need (by simp <;> omega) (T.h_need (by simp <;> omega) ?_)))))
    refine T.h_leaf ?_
    rw [wrap_next (by omega)]
    exact hΨ
  · unfold wes_step
    refine (T.h_ite (fun hc => absurd hc (by simp <;> omega)) (fun _ => T.h_leaf hΨ.2))

def wes_dec (b : Mem) (f : FSt) : Option (Cwes × Vwes) :=
  match getSu 0 5 (findF 0 f.sl), getF .f32 (findF 1 f.sl), getI (findF 19 f.sl), getI (findF 20 f.sl), getSo 1 5 2 (findF 6 f.sl), id b, f.mem with
  | some (0, n_), some wt_, some l_, some q_i, some q_n, [some (.cols m_ [.fl .f32 f0_, .fl .f32 f1_, .fl .f32 f2_, .fl .f32 f3_, .fl .f32 f4_])], [_, some (.grow r_n [.fl .f32 q_a0, .fl .f32 q_a1, .fl .f32 q_a2, .fl .f32 q_a3, .fl .f32 q_a4] 2 89), none] => if q_n = r_n then some ({ n := n_, m := m_, f0 := f0_, f1 := f1_, f2 := f2_, f3 := f3_, f4 := f4_, wt := wt_, l := l_ }, { i := q_i, n := q_n, a0 := q_a0, a1 := q_a1, a2 := q_a2, a3 := q_a3, a4 := q_a4 }) else none
  | _, _, _, _, _, _, _ => none
theorem wes_dec_ok (b : Mem) (f : FSt) (x : Cwes × Vwes) (h : wes_dec b f = some x) : b = x.1.base ∧ FLe b f (wes_st x.1 x.2) := by
  unfold wes_dec at h
  split at h
  · rename_i e0 e1 e2 e3 e4 hb hm
    obtain ⟨hbo, h9⟩ := ite_some h
    clear h
    subst hbo
    have h := h9
    cases h
    have hb : b = _ := hb
    subst hb
    refine ⟨rfl, fle_of (fun p hp => ?_) (by rw [hm]; exact memLe_refl _)⟩
    simp only [List.mem_cons, List.not_mem_nil, or_false] at hp
    rcases hp with rfl | rfl | rfl | rfl | rfl
    · exact getSu_rel e0
    · exact getF_rel e1
    · exact getSo_rel e4
    · exact getI_rel e2
    · exact getI_rel e3
  · cases h
noncomputable def wes_sum : SumF Try.prog 41 wesRoot :=
  sumL (pathB wesRoot 0) wes_dec (fun x => x.1.base) (fun x => wes_st x.1 x.2) wes_R wes_dec_ok (by
    intro code hc x
    have hc2 : code = .block 0 (.loop (bodyB wesRoot 0)) := by
      have h : subR wesRoot (pathB wesRoot 0) = some (.block 0 (.loop (bodyB wesRoot 0))) := by kernel_rfl
      rw [h] at hc; cases hc; rfl
    subst hc2
    exact wes_tri x)

structure Cwei where
  n : Nat
  m : Nat
  f0 : Nat → Nat
  f1 : Nat → Nat
  f2 : Nat → Nat
  f3 : Nat → Nat
  f4 : Nat → Nat
  wt : Nat
  l : Int
def Cwei.base (c : Cwei) : Mem := [some (.cols c.m [.fl .f32 c.f0, .fl .f32 c.f1, .fl .f32 c.f2, .fl .f32 c.f3, .fl .f32 c.f4])]
structure Vwei where
  i : Int
  n : Nat
  a0 : Nat → Nat
  a1 : Nat → Nat
  a2 : Nat → Nat
  a3 : Nat → Nat
  a4 : Nat → Nat
noncomputable abbrev weiRoot : Code := bodyOf Try.f56
def wei_st (c : Cwei) (v : Vwei) : FSt := ⟨[(1, .one (.fl .f32 c.wt)), (6, .one (.so 1 5 v.n 2)), (18, .one (.su 0 5 0 c.n false)), (19, .one (.num .i64 c.l)), (20, .one (.num .i64 v.i))], c.base ++ [some (.grow v.n [.fl .f32 v.a0, .fl .f32 v.a1, .fl .f32 v.a2, .fl .f32 v.a3, .fl .f32 v.a4] 2 89), none]⟩
def wei_step (c : Cwei) (v : Vwei) : T (Nx Vwei) :=
  .ite (decide (v.1 < c.9)) (.need (decide (0 ≤ v.1) && decide (v.1 < ↑c.1)) (.need (decide (v.1.toNat + 0 < c.2)) (.need (decide (v.2 ≤ v.2)) (.need (true) (.need (decide (v.2 + 1 ≤ 1073741824)) (.leaf (.go { i := IntKind.i64.wrap (v.1 + 1), n := v.n + 1, a0 := fun q => if q = v.n then c.f0 (v.i.toNat + 0) else v.a0 q, a1 := fun q => if q = v.n then c.f1 (v.i.toNat + 0) else v.a1 q, a2 := fun q => if q = v.n then c.f2 (v.i.toNat + 0) else v.a2 q, a3 := fun q => if q = v.n then c.f3 (v.i.toNat + 0) else v.a3 q, a4 := fun q => if q = v.n then fmul FloatKind.f32 (c.f4 (v.i.toNat + 0)) c.wt else v.a4 q }))))))) (.leaf (.out (EX.exit 0) ⟨[(1, AV.one (SV.fl FloatKind.f32 c.8)), (6, AV.one (SV.so 1 5 v.n 2)), (18, AV.one (SV.su 0 5 0 c.1 false)), (19, AV.one (SV.num IntKind.i64 c.9)), (20, AV.one (SV.num IntKind.i64 v.1))], c.base ++ [some (.grow v.n [.fl .f32 v.a0, .fl .f32 v.a1, .fl .f32 v.a2, .fl .f32 v.a3, .fl .f32 v.a4] 2 89), none]⟩))
theorem wei_round (c : Cwei) (v : Vwei) : roundF Try.prog 38 [] weiRoot [] c.base [0, 1, 4, 5, 6, 8, 16, 18, 19, 20, 21, 36, 198] [1, 6, 18, 19, 20] 0 (wei_st c v) = (wei_step c v).map (nxF (wei_st c)) := by kernel_rfl
def wei_g (c : Cwei) (j : Nat) (a : (Nat → Nat) × (Nat → Nat) × (Nat → Nat) × (Nat → Nat) × (Nat → Nat)) : (Nat → Nat) × (Nat → Nat) × (Nat → Nat) × (Nat → Nat) × (Nat → Nat) := (fun q => if q = j then c.f0 j else a.1 q, fun q => if q = j then c.f1 j else a.2.1 q, fun q => if q = j then c.f2 j else a.2.2.1 q, fun q => if q = j then c.f3 j else a.2.2.2.1 q, fun q => if q = j then fmul .f32 (c.f4 j) c.wt else a.2.2.2.2 q)
def wei_ok (c : Cwei) (v : Vwei) : Bool := decide (c.n ≤ c.m ∧ c.n ≤ 1048576 ∧ c.l = (c.n : Int) ∧ v.n = v.i.toNat ∧ 0 ≤ v.i ∧ v.i ≤ ((c.n : Nat) : Int))
def wei_fin (c : Cwei) (a : (Nat → Nat) × (Nat → Nat) × (Nat → Nat) × (Nat → Nat) × (Nat → Nat)) : FSt := wei_st c ({ i := (c.n : Int), n := c.n, a0 := a.1, a1 := a.2.1, a2 := a.2.2.1, a3 := a.2.2.2.1, a4 := a.2.2.2.2 })
noncomputable def wei_R (x : Cwei × Vwei) : T (EX × FSt) := .need (wei_ok x.1 x.2) (.leaf (.normal, wei_fin x.1 (iter (wei_g x.1) (x.1.n - x.2.i.toNat) x.2.i.toNat (x.2.a0, x.2.a1, x.2.a2, x.2.a3, x.2.a4))))
theorem wei_tri (x : Cwei × Vwei) : TriR Try.prog 38 x.1.base (.block 0 (.loop (bodyB weiRoot 0))) (wei_st x.1 x.2) (wei_R x) := by
  obtain ⟨c, v⟩ := x
  refine triR_of mix (root := weiRoot) (by kernel_rfl) (by kernel_rfl) [0, 1, 4, 5, 6, 8, 16, 18, 19, 20, 21, 36, 198] [1, 6, 18, 19, 20] (wei_st c) (wei_step c) (wei_round c) v _ ((c.n - v.i.toNat) + 1) (fun Φ h => ?_)
  have h0 := h.1
  have h1 : Φ (.normal, wei_fin c (iter (wei_g c) (c.n - v.i.toNat) v.i.toNat (v.a0, v.a1, v.a2, v.a3, v.a4))) := h.2
  simp only [wei_ok, decide_eq_true_eq] at h0
  obtain ⟨hk0, hk1, hk2, hk3, hi0, hin⟩ := h0
  have hv : v = (fun (j : Nat) (a : (Nat → Nat) × (Nat → Nat) × (Nat → Nat) × (Nat → Nat) × (Nat → Nat)) => ({ i := (j : Int), n := j, a0 := a.1, a1 := a.2.1, a2 := a.2.2.1, a3 := a.2.2.2.1, a4 := a.2.2.2.2 } : Vwei)) v.i.toNat (v.a0, v.a1, v.a2, v.a3, v.a4) := by
    obtain ⟨i, n, a0, a1, a2, a3, a4⟩ := v
    have hi0 : 0 ≤ i := hi0
    have hk9 : n = i.toNat := hk3
    subst hk9
    simp only [Int.toNat_of_nonneg hi0]
  have key := T_iter (wei_step c) (fun (j : Nat) (a : (Nat → Nat) × (Nat → Nat) × (Nat → Nat) × (Nat → Nat) × (Nat → Nat)) => ({ i := (j : Int), n := j, a0 := a.1, a1 := a.2.1, a2 := a.2.2.1, a3 := a.2.2.2.1, a4 := a.2.2.2.2 } : Vwei)) c.n (wei_g c) (fun a => (.exit 0, wei_fin c a)) (fun j a hj Ψ hΨ => ?_) (fun a Ψ hΨ => ?_) (fun a => by simp) (c.n - v.i.toNat) v.i.toNat (v.a0, v.a1, v.a2, v.a3, v.a4) (by omega) (fun r => Φ (blkEx 0 r.1, r.2)) (by simpa [blkEx] using h1)
  · exact (congrArg (fun z => (loopTree (wei_step c) (c.n - v.i.toNat + 1) z).holds fun r => Φ (blkEx 0 r.1, r.2)) hv).mpr key
  · unfold wei_step
    refine (T.h_ite (fun _ => ?_) (fun hc => absurd hc (by simp <;> omega)))
    refine (T.h_need (by simp <;> omega) (T.h_need (by simp <;> omega) (T.h_need (by simp <;> omega) (T.h_need (by simp <;> omega) (T.h_need (by simp <;> omega) ?_)))))
    refine T.h_leaf ?_
    rw [wrap_next (by omega)]
    exact hΨ
  · unfold wei_step
    refine (T.h_ite (fun hc => absurd hc (by simp <;> omega)) (fun _ => T.h_leaf hΨ.2))

def wei_dec (b : Mem) (f : FSt) : Option (Cwei × Vwei) :=
  match getF .f32 (findF 1 f.sl), getSu 0 5 (findF 18 f.sl), getI (findF 19 f.sl), getI (findF 20 f.sl), getSo 1 5 2 (findF 6 f.sl), id b, f.mem with
  | some wt_, some (0, n_), some l_, some q_i, some q_n, [some (.cols m_ [.fl .f32 f0_, .fl .f32 f1_, .fl .f32 f2_, .fl .f32 f3_, .fl .f32 f4_])], [_, some (.grow r_n [.fl .f32 q_a0, .fl .f32 q_a1, .fl .f32 q_a2, .fl .f32 q_a3, .fl .f32 q_a4] 2 89), none] => if q_n = r_n then some ({ n := n_, m := m_, f0 := f0_, f1 := f1_, f2 := f2_, f3 := f3_, f4 := f4_, wt := wt_, l := l_ }, { i := q_i, n := q_n, a0 := q_a0, a1 := q_a1, a2 := q_a2, a3 := q_a3, a4 := q_a4 }) else none
  | _, _, _, _, _, _, _ => none
theorem wei_dec_ok (b : Mem) (f : FSt) (x : Cwei × Vwei) (h : wei_dec b f = some x) : b = x.1.base ∧ FLe b f (wei_st x.1 x.2) := by
  unfold wei_dec at h
  split at h
  · rename_i e0 e1 e2 e3 e4 hb hm
    obtain ⟨hbo, h9⟩ := ite_some h
    clear h
    subst hbo
    have h := h9
    cases h
    have hb : b = _ := hb
    subst hb
    refine ⟨rfl, fle_of (fun p hp => ?_) (by rw [hm]; exact memLe_refl _)⟩
    simp only [List.mem_cons, List.not_mem_nil, or_false] at hp
    rcases hp with rfl | rfl | rfl | rfl | rfl
    · exact getF_rel e0
    · exact getSo_rel e4
    · exact getSu_rel e1
    · exact getI_rel e2
    · exact getI_rel e3
  · cases h
noncomputable def wei_sum : SumF Try.prog 38 weiRoot :=
  sumL (pathB weiRoot 0) wei_dec (fun x => x.1.base) (fun x => wei_st x.1 x.2) wei_R wei_dec_ok (by
    intro code hc x
    have hc2 : code = .block 0 (.loop (bodyB weiRoot 0)) := by
      have h : subR weiRoot (pathB weiRoot 0) = some (.block 0 (.loop (bodyB weiRoot 0))) := by kernel_rfl
      rw [h] at hc; cases hc; rfl
    subst hc2
    exact wei_tri x)

noncomputable def k_we_sAre : Ctr Try.prog := k_l07Are.su
noncomputable def k_we_iAre : Ctr Try.prog := k_AreLooks.su
noncomputable def k_sWe0 : Ctr Try.prog := (mkF0 Try.prog mix [k_we_sAre, k_l02Least] 55 Try.f55 (bodyOf Try.f55) Try.func55 (by kernel_rfl) (by kernel_rfl) [0, 1, 4, 5, 6, 7, 8, 16, 19, 20, 21, 39, 198] 41 (by kernel_rfl) (by kernel_rfl) [wes_sum]).mg
noncomputable def k_iWe0 : Ctr Try.prog := (mkF0 Try.prog mix [k_we_iAre, k_we_i_aMass] 56 Try.f56 (bodyOf Try.f56) Try.func56 (by kernel_rfl) (by kernel_rfl) [0, 1, 4, 5, 6, 8, 16, 18, 19, 20, 21, 36, 198] 38 (by kernel_rfl) (by kernel_rfl) [wei_sum]).mg
theorem BlLe.grow_colsX {n : Nat} {cs cs' : List Col} {k : Nat} {t : TypeId} (h : ∀ i, i < n → colsAt cs i = colsAt cs' i) (hl : cs'.length = cs.length) : BlLe (.grow n cs k t) (.cols n cs') :=
  fun ρ w b o hb => BlLe.cols_eq h hl ρ w b o (BlLe.grown (Nat.le_refl n) ρ w b o hb)
theorem okFrom_eq {f0 f1 f2 f3 f4 g0 g1 g2 g3 g4 : Nat → Nat} : ∀ (n s : Nat), (∀ i, s ≤ i → i < s + n → f0 i = g0 i ∧ f1 i = g1 i ∧ f2 i = g2 i ∧ f3 i = g3 i ∧ f4 i = g4 i) → okFrom f0 f1 f2 f3 f4 n s = okFrom g0 g1 g2 g3 g4 n s
  | 0, _, _ => rfl
  | n + 1, s, h => by
    unfold okFrom
    obtain ⟨h0, h1, h2, h3, h4⟩ := h s (Nat.le_refl s) (by omega)
    rw [h0, h1, h2, h3, h4, okFrom_eq n (s + 1) fun i h1 h2 => h i (by omega) (by omega)]
theorem areB_eq {n : Nat} {f0 f1 f2 f3 f4 g0 g1 g2 g3 g4 : Nat → Nat} (h : ∀ i, i < n → f0 i = g0 i ∧ f1 i = g1 i ∧ f2 i = g2 i ∧ f3 i = g3 i ∧ f4 i = g4 i) : areB n f0 f1 f2 f3 f4 = areB n g0 g1 g2 g3 g4 := by
  unfold areB
  rw [okFrom_eq n 0 fun i _ h2 => h i (by omega)]
def geB (x : Nat) : Bool := bif fin .f32 x then fge .f32 x (canon .f32 0) else false
def we_ok (n : Nat) (f0 f1 f2 f3 f4 : Nat → Nat) (wt : Nat) : Bool := areB n f0 f1 f2 f3 f4 && (geB wt && areB n f0 f1 f2 f3 (fun q => fmul .f32 (f4 q) wt))
def run_we : List AV → Mem → T Res
  | [.one (.su 0 5 0 n false), .one (.fl .f32 wt)], [some (.cols m [.fl .f32 f0, .fl .f32 f1, .fl .f32 f2, .fl .f32 f3, .fl .f32 f4])] => .need (decide (n ≤ m)) (.ite (we_ok n f0 f1 f2 f3 f4 wt) (.leaf (.tup [.one (.su 1 5 0 n false), .one (.tt true)], [some (.cols n [.fl .f32 f0, .fl .f32 f1, .fl .f32 f2, .fl .f32 f3, .fl .f32 fun q => fmul .f32 (f4 q) wt]), none])) (.leaf (.tup [.one (.val (.slice none 0 0)), .one (.tt false)], [])))
  | _, _ => .fail
theorem we_sh {Φ : Res → Prop} {nil row : Res} {m1 m2 m3 : Bool} : ∀ (A B E : Bool), m1 = true → (A = true → m2 = true) → m3 = true → ((A && (B && E)) = true → Φ row) ∧ ((A && (B && E)) = false → Φ nil) →
    (T.need m1 (T.need (bif (bif !A then true else !B) then true else m2) (T.need (bif (bif !A then true else !B) then true else m3) (T.ite (bif !A then true else !B) (.leaf nil) (.ite (!E) (.leaf nil) (.leaf row)))))).holds Φ := by
  intro A B E h1 h2 h3 h
  cases A <;> cases B <;> cases E <;> simp_all [T.holds]
def wesEnd (n m : Nat) (f0 f1 f2 f3 f4 : Nat → Nat) (wt : Nat) : (Nat → Nat) × (Nat → Nat) × (Nat → Nat) × (Nat → Nat) × (Nat → Nat) := iter (wes_g { n := n, m := m, f0 := f0, f1 := f1, f2 := f2, f3 := f3, f4 := f4, wt := wt, l := (n : Int) }) n 0 (fun _ => canon .f32 0, fun _ => canon .f32 0, fun _ => canon .f32 0, fun _ => canon .f32 0, fun _ => canon .f32 0)
theorem wesEnd_at (n m : Nat) (f0 f1 f2 f3 f4 : Nat → Nat) (wt : Nat) (i : Nat) (hi : i < n) : (wesEnd n m f0 f1 f2 f3 f4 wt).1 i = f0 i ∧ (wesEnd n m f0 f1 f2 f3 f4 wt).2.1 i = f1 i ∧ (wesEnd n m f0 f1 f2 f3 f4 wt).2.2.1 i = f2 i ∧ (wesEnd n m f0 f1 f2 f3 f4 wt).2.2.2.1 i = f3 i ∧ (wesEnd n m f0 f1 f2 f3 f4 wt).2.2.2.2 i = fmul .f32 (f4 i) wt :=
  ⟨fillG (wes_g { n := n, m := m, f0 := f0, f1 := f1, f2 := f2, f3 := f3, f4 := f4, wt := wt, l := (n : Int) }) (fun a => a.1) (f0) (fun j a q h => if_neg h) (fun j a => if_pos rfl) n 0 _ i (Nat.zero_le i) (by omega),
   fillG (wes_g { n := n, m := m, f0 := f0, f1 := f1, f2 := f2, f3 := f3, f4 := f4, wt := wt, l := (n : Int) }) (fun a => a.2.1) (f1) (fun j a q h => if_neg h) (fun j a => if_pos rfl) n 0 _ i (Nat.zero_le i) (by omega),
   fillG (wes_g { n := n, m := m, f0 := f0, f1 := f1, f2 := f2, f3 := f3, f4 := f4, wt := wt, l := (n : Int) }) (fun a => a.2.2.1) (f2) (fun j a q h => if_neg h) (fun j a => if_pos rfl) n 0 _ i (Nat.zero_le i) (by omega),
   fillG (wes_g { n := n, m := m, f0 := f0, f1 := f1, f2 := f2, f3 := f3, f4 := f4, wt := wt, l := (n : Int) }) (fun a => a.2.2.2.1) (f3) (fun j a q h => if_neg h) (fun j a => if_pos rfl) n 0 _ i (Nat.zero_le i) (by omega),
   fillG (wes_g { n := n, m := m, f0 := f0, f1 := f1, f2 := f2, f3 := f3, f4 := f4, wt := wt, l := (n : Int) }) (fun a => a.2.2.2.2) (fun q => fmul .f32 (f4 q) wt) (fun j a q h => if_neg h) (fun j a => if_pos rfl) n 0 _ i (Nat.zero_le i) (by omega)⟩
theorem sWe0_ev (n m : Nat) (f0 f1 f2 f3 f4 : Nat → Nat) (wt : Nat) : k_sWe0.run [.one (.su 0 5 0 n false), .one (.fl .f32 wt)] [some (.cols m [.fl .f32 f0, .fl .f32 f1, .fl .f32 f2, .fl .f32 f3, .fl .f32 f4])] =
    .need (decide (n ≤ m)) (.need (bif (bif !areB n f0 f1 f2 f3 f4 then true else !geB wt) then true else wes_ok { n := n, m := m, f0 := f0, f1 := f1, f2 := f2, f3 := f3, f4 := f4, wt := wt, l := (n : Int) } { i := 0, n := 0, a0 := fun _ => canon .f32 0, a1 := fun _ => canon .f32 0, a2 := fun _ => canon .f32 0, a3 := fun _ => canon .f32 0, a4 := fun _ => canon .f32 0 }) (.need (bif (bif !areB n f0 f1 f2 f3 f4 then true else !geB wt) then true else decide (n ≤ n)) (.ite (bif !areB n f0 f1 f2 f3 f4 then true else !geB wt) (.leaf (.tup [.one (.val (.slice none 0 0)), .one (.tt false)], [])) (.ite (!areB n (wesEnd n m f0 f1 f2 f3 f4 wt).1 (wesEnd n m f0 f1 f2 f3 f4 wt).2.1 (wesEnd n m f0 f1 f2 f3 f4 wt).2.2.1 (wesEnd n m f0 f1 f2 f3 f4 wt).2.2.2.1 (wesEnd n m f0 f1 f2 f3 f4 wt).2.2.2.2) (.leaf (.tup [.one (.val (.slice none 0 0)), .one (.tt false)], [])) (.leaf (.tup [.one (.so 1 5 n 2), .one (.tt true)], [some (.grow n [.fl .f32 (wesEnd n m f0 f1 f2 f3 f4 wt).1, .fl .f32 (wesEnd n m f0 f1 f2 f3 f4 wt).2.1, .fl .f32 (wesEnd n m f0 f1 f2 f3 f4 wt).2.2.1, .fl .f32 (wesEnd n m f0 f1 f2 f3 f4 wt).2.2.2.1, .fl .f32 (wesEnd n m f0 f1 f2 f3 f4 wt).2.2.2.2] 2 89), none])))))) := by kernel_rfl
noncomputable def k_sWe : Ctr Try.prog := (k_sWe0.to run_we (by
  intro args mem _
  unfold run_we
  split
  · rename_i n wt m f0 f1 f2 f3 f4 _
    rw [sWe0_ev, show areB n (wesEnd n m f0 f1 f2 f3 f4 wt).1 (wesEnd n m f0 f1 f2 f3 f4 wt).2.1 (wesEnd n m f0 f1 f2 f3 f4 wt).2.2.1 (wesEnd n m f0 f1 f2 f3 f4 wt).2.2.2.1 (wesEnd n m f0 f1 f2 f3 f4 wt).2.2.2.2 = areB n f0 f1 f2 f3 (fun q => fmul .f32 (f4 q) wt) from areB_eq fun i hi => wesEnd_at n m f0 f1 f2 f3 f4 wt i hi]
    constructor
    intro Φ hΦ h
    have hm := of_decide_eq_true h.1
    refine we_sh _ _ _ h.1 (fun hA => decide_eq_true ⟨hm, by have : n ≤ 24 := areB_le hA; show n ≤ 1048576; omega, rfl, rfl, Int.le_refl 0, Int.natCast_nonneg n⟩) (decide_eq_true (Nat.le_refl n)) ⟨fun hk => hΦ _ (.tup [.one (.su 1 5 0 n false), .one (.tt true)], [some (.cols n [.fl .f32 f0, .fl .f32 f1, .fl .f32 f2, .fl .f32 f3, .fl .f32 fun q => fmul .f32 (f4 q) wt]), none]) ⟨⟨BlLe.grow_colsX (fun i hi => ?_) rfl, trivial⟩, ?_⟩ (h.2.1 hk), fun hk => h.2.2 hk⟩
    · obtain ⟨h0, h1, h2, h3, h4⟩ := wesEnd_at n m f0 f1 f2 f3 f4 wt i hi
      simp only [colsAt, Col.at, h0, h1, h2, h3, h4]
    · intro ρ v hv
      obtain ⟨vs, hvs, hl⟩ := hv
      refine ⟨vs, hvs, ?_⟩
      match vs.toList, hl with
      | [a, b], hl => exact ⟨AvLe.grown ρ a hl.1, hl.2.1, trivial⟩
  · exact Weak.fail _)).su.own
def weiEnd (n m : Nat) (f0 f1 f2 f3 f4 : Nat → Nat) (wt : Nat) : (Nat → Nat) × (Nat → Nat) × (Nat → Nat) × (Nat → Nat) × (Nat → Nat) := iter (wei_g { n := n, m := m, f0 := f0, f1 := f1, f2 := f2, f3 := f3, f4 := f4, wt := wt, l := (n : Int) }) n 0 (fun _ => canon .f32 0, fun _ => canon .f32 0, fun _ => canon .f32 0, fun _ => canon .f32 0, fun _ => canon .f32 0)
theorem weiEnd_at (n m : Nat) (f0 f1 f2 f3 f4 : Nat → Nat) (wt : Nat) (i : Nat) (hi : i < n) : (weiEnd n m f0 f1 f2 f3 f4 wt).1 i = f0 i ∧ (weiEnd n m f0 f1 f2 f3 f4 wt).2.1 i = f1 i ∧ (weiEnd n m f0 f1 f2 f3 f4 wt).2.2.1 i = f2 i ∧ (weiEnd n m f0 f1 f2 f3 f4 wt).2.2.2.1 i = f3 i ∧ (weiEnd n m f0 f1 f2 f3 f4 wt).2.2.2.2 i = fmul .f32 (f4 i) wt :=
  ⟨fillG (wei_g { n := n, m := m, f0 := f0, f1 := f1, f2 := f2, f3 := f3, f4 := f4, wt := wt, l := (n : Int) }) (fun a => a.1) (f0) (fun j a q h => if_neg h) (fun j a => if_pos rfl) n 0 _ i (Nat.zero_le i) (by omega),
   fillG (wei_g { n := n, m := m, f0 := f0, f1 := f1, f2 := f2, f3 := f3, f4 := f4, wt := wt, l := (n : Int) }) (fun a => a.2.1) (f1) (fun j a q h => if_neg h) (fun j a => if_pos rfl) n 0 _ i (Nat.zero_le i) (by omega),
   fillG (wei_g { n := n, m := m, f0 := f0, f1 := f1, f2 := f2, f3 := f3, f4 := f4, wt := wt, l := (n : Int) }) (fun a => a.2.2.1) (f2) (fun j a q h => if_neg h) (fun j a => if_pos rfl) n 0 _ i (Nat.zero_le i) (by omega),
   fillG (wei_g { n := n, m := m, f0 := f0, f1 := f1, f2 := f2, f3 := f3, f4 := f4, wt := wt, l := (n : Int) }) (fun a => a.2.2.2.1) (f3) (fun j a q h => if_neg h) (fun j a => if_pos rfl) n 0 _ i (Nat.zero_le i) (by omega),
   fillG (wei_g { n := n, m := m, f0 := f0, f1 := f1, f2 := f2, f3 := f3, f4 := f4, wt := wt, l := (n : Int) }) (fun a => a.2.2.2.2) (fun q => fmul .f32 (f4 q) wt) (fun j a q h => if_neg h) (fun j a => if_pos rfl) n 0 _ i (Nat.zero_le i) (by omega)⟩
theorem iWe0_ev (n m : Nat) (f0 f1 f2 f3 f4 : Nat → Nat) (wt : Nat) : k_iWe0.run [.one (.su 0 5 0 n false), .one (.fl .f32 wt)] [some (.cols m [.fl .f32 f0, .fl .f32 f1, .fl .f32 f2, .fl .f32 f3, .fl .f32 f4])] =
    .need (decide (n ≤ m)) (.need (bif (bif !areB n f0 f1 f2 f3 f4 then true else !geB wt) then true else wei_ok { n := n, m := m, f0 := f0, f1 := f1, f2 := f2, f3 := f3, f4 := f4, wt := wt, l := (n : Int) } { i := 0, n := 0, a0 := fun _ => canon .f32 0, a1 := fun _ => canon .f32 0, a2 := fun _ => canon .f32 0, a3 := fun _ => canon .f32 0, a4 := fun _ => canon .f32 0 }) (.need (bif (bif !areB n f0 f1 f2 f3 f4 then true else !geB wt) then true else decide (n ≤ n)) (.ite (bif !areB n f0 f1 f2 f3 f4 then true else !geB wt) (.leaf (.tup [.one (.val (.slice none 0 0)), .one (.tt false)], [])) (.ite (!areB n (weiEnd n m f0 f1 f2 f3 f4 wt).1 (weiEnd n m f0 f1 f2 f3 f4 wt).2.1 (weiEnd n m f0 f1 f2 f3 f4 wt).2.2.1 (weiEnd n m f0 f1 f2 f3 f4 wt).2.2.2.1 (weiEnd n m f0 f1 f2 f3 f4 wt).2.2.2.2) (.leaf (.tup [.one (.val (.slice none 0 0)), .one (.tt false)], [])) (.leaf (.tup [.one (.so 1 5 n 2), .one (.tt true)], [some (.grow n [.fl .f32 (weiEnd n m f0 f1 f2 f3 f4 wt).1, .fl .f32 (weiEnd n m f0 f1 f2 f3 f4 wt).2.1, .fl .f32 (weiEnd n m f0 f1 f2 f3 f4 wt).2.2.1, .fl .f32 (weiEnd n m f0 f1 f2 f3 f4 wt).2.2.2.1, .fl .f32 (weiEnd n m f0 f1 f2 f3 f4 wt).2.2.2.2] 2 89), none])))))) := by kernel_rfl
noncomputable def k_iWe : Ctr Try.prog := (k_iWe0.to run_we (by
  intro args mem _
  unfold run_we
  split
  · rename_i n wt m f0 f1 f2 f3 f4 _
    rw [iWe0_ev, show areB n (weiEnd n m f0 f1 f2 f3 f4 wt).1 (weiEnd n m f0 f1 f2 f3 f4 wt).2.1 (weiEnd n m f0 f1 f2 f3 f4 wt).2.2.1 (weiEnd n m f0 f1 f2 f3 f4 wt).2.2.2.1 (weiEnd n m f0 f1 f2 f3 f4 wt).2.2.2.2 = areB n f0 f1 f2 f3 (fun q => fmul .f32 (f4 q) wt) from areB_eq fun i hi => weiEnd_at n m f0 f1 f2 f3 f4 wt i hi]
    constructor
    intro Φ hΦ h
    have hm := of_decide_eq_true h.1
    refine we_sh _ _ _ h.1 (fun hA => decide_eq_true ⟨hm, by have : n ≤ 24 := areB_le hA; show n ≤ 1048576; omega, rfl, rfl, Int.le_refl 0, Int.natCast_nonneg n⟩) (decide_eq_true (Nat.le_refl n)) ⟨fun hk => hΦ _ (.tup [.one (.su 1 5 0 n false), .one (.tt true)], [some (.cols n [.fl .f32 f0, .fl .f32 f1, .fl .f32 f2, .fl .f32 f3, .fl .f32 fun q => fmul .f32 (f4 q) wt]), none]) ⟨⟨BlLe.grow_colsX (fun i hi => ?_) rfl, trivial⟩, ?_⟩ (h.2.1 hk), fun hk => h.2.2 hk⟩
    · obtain ⟨h0, h1, h2, h3, h4⟩ := weiEnd_at n m f0 f1 f2 f3 f4 wt i hi
      simp only [colsAt, Col.at, h0, h1, h2, h3, h4]
    · intro ρ v hv
      obtain ⟨vs, hvs, hl⟩ := hv
      refine ⟨vs, hvs, ?_⟩
      match vs.toList, hl with
      | [a, b], hl => exact ⟨AvLe.grown ρ a hl.1, hl.2.1, trivial⟩
  · exact Weak.fail _)).su.own

end Go.Proofs.Ytilfbhlekfoloaa
