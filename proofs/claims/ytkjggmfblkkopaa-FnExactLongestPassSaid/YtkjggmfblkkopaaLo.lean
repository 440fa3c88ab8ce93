/-
  LongestPass: the loops of both sides. No conditions.
-/
import Derived.Test.YtkjggmfblkkopaaBo
import Derived.Test.YtkjggmfblkkopaaLs
namespace Go.Proofs.Ytkjggmfblkkopaa
set_option linter.unusedVariables false
set_option linter.unusedSimpArgs false
open Go.RowKit

structure Clp where
  n : Nat
  m : Nat
  f0 : Nat → Bool
def Clp.base (c : Clp) : Mem := [some (.cols c.m [.bo c.f0])]
structure Vlp where
  i : Int
  b : Int
  l : Int
  s : Int
noncomputable abbrev lpRoot : Code := bodyOf Try.f52
def lp_st (c : Clp) (v : Vlp) : FSt := ⟨[(0, .one (.su 0 1 0 c.n false)), (5, .one (.num .i64 v.b)), (6, .one (.num .i64 v.l)), (7, .one (.num .i64 v.s)), (8, .one (.num .i64 v.i))], c.base ++ []⟩
def lpStep (f : Nat → Bool) (j : Nat) (a : Int × Int × Int) : Int × Int × Int :=
  (bif !f j then a.1 else bif decide (a.2.1 < IntKind.i64.wrap (((j + 1 : Nat) : Int) - a.2.2)) then a.2.2 else a.1,
   bif !f j then a.2.1 else bif decide (a.2.1 < IntKind.i64.wrap (((j + 1 : Nat) : Int) - a.2.2)) then IntKind.i64.wrap (((j + 1 : Nat) : Int) - a.2.2) else a.2.1,
   bif !f j then ((j + 1 : Nat) : Int) else a.2.2)
def lpAll (n : Nat) (f : Nat → Bool) : Int × Int × Int := iter (lpStep f) n 0 (0, 0, 0)
def lp_step (c : Clp) (v : Vlp) : T (Nx Vlp) :=
  .ite (decide (v.1 < ↑c.1)) (.need (decide (0 ≤ v.1) && decide (v.1 < ↑c.1)) (.need (decide (v.1.toNat + 0 < c.2)) (.leaf (.go { i := IntKind.i64.wrap (v.1 + 1), b := bif !c.3 (v.1.toNat + 0) then v.2 else bif decide (v.3 < IntKind.i64.wrap (IntKind.i64.wrap (v.1 + 1) - v.4)) then v.4 else v.2, l := bif !c.3 (v.1.toNat + 0) then v.3 else bif decide (v.3 < IntKind.i64.wrap (IntKind.i64.wrap (v.1 + 1) - v.4)) then IntKind.i64.wrap (IntKind.i64.wrap (v.1 + 1) - v.4) else v.3, s := bif !c.3 (v.1.toNat + 0) then IntKind.i64.wrap (v.1 + 1) else v.4 })))) (.leaf (.out (EX.exit 0) ⟨[(0, AV.one (SV.su 0 1 0 c.1 false)), (5, AV.one (SV.num IntKind.i64 v.2)), (6, AV.one (SV.num IntKind.i64 v.3)), (7, AV.one (SV.num IntKind.i64 v.4)), (8, AV.one (SV.num IntKind.i64 v.1))], c.base ++ []⟩))
theorem lp_round (c : Clp) (v : Vlp) : roundF Try.prog 40 [] lpRoot [] c.base [0, 2, 3, 4, 5, 6, 7, 8, 11, 15, 22, 30, 37, 198] [0, 5, 6, 7, 8] 0 (lp_st c v) = (lp_step c v).map (nxF (lp_st c)) := by kernel_rfl
def lp_g (c : Clp) (j : Nat) (a : Int × Int × Int) : Int × Int × Int := lpStep c.f0 j a
def lp_ok (c : Clp) (v : Vlp) : Bool := decide (c.n ≤ c.m ∧ c.n ≤ 64 ∧ 0 ≤ v.i ∧ v.i ≤ ((c.n : Nat) : Int))
def lp_fin (c : Clp) (a : Int × Int × Int) : FSt := lp_st c ({ i := (c.n : Int), b := a.1, l := a.2.1, s := a.2.2 })
noncomputable def lp_R (x : Clp × Vlp) : T (EX × FSt) := .need (lp_ok x.1 x.2) (.leaf (.normal, lp_fin x.1 (iter (lp_g x.1) (x.1.n - x.2.i.toNat) x.2.i.toNat (x.2.b, x.2.l, x.2.s))))
theorem lp_tri (x : Clp × Vlp) : TriR Try.prog 40 x.1.base (.block 0 (.loop (bodyB lpRoot 0))) (lp_st x.1 x.2) (lp_R x) := by
  obtain ⟨c, v⟩ := x
  refine triR_of mix (root := lpRoot) (by kernel_rfl) (by kernel_rfl) [0, 2, 3, 4, 5, 6, 7, 8, 11, 15, 22, 30, 37, 198] [0, 5, 6, 7, 8] (lp_st c) (lp_step c) (lp_round c) v _ ((c.n - v.i.toNat) + 1) (fun Φ h => ?_)
  have h0 := h.1
  have h1 : Φ (.normal, lp_fin c (iter (lp_g c) (c.n - v.i.toNat) v.i.toNat (v.b, v.l, v.s))) := h.2
  simp only [lp_ok, decide_eq_true_eq] at h0
  obtain ⟨hk0, hk1, hi0, hin⟩ := h0
  have hv : v = (fun (j : Nat) (a : Int × Int × Int) => ({ i := (j : Int), b := a.1, l := a.2.1, s := a.2.2 } : Vlp)) v.i.toNat (v.b, v.l, v.s) := by
    obtain ⟨i, b, l, s⟩ := v
    have hi0 : 0 ≤ i := hi0
    simp only [Int.toNat_of_nonneg hi0]
  have key := T_iter (lp_step c) (fun (j : Nat) (a : Int × Int × Int) => ({ i := (j : Int), b := a.1, l := a.2.1, s := a.2.2 } : Vlp)) c.n (lp_g c) (fun a => (.exit 0, lp_fin c a)) (fun j a hj Ψ hΨ => ?_) (fun a Ψ hΨ => ?_) (fun a => by simp) (c.n - v.i.toNat) v.i.toNat (v.b, v.l, v.s) (by omega) (fun r => Φ (blkEx 0 r.1, r.2)) (by simpa [blkEx] using h1)
  · exact (congrArg (fun z => (loopTree (lp_step c) (c.n - v.i.toNat + 1) z).holds fun r => Φ (blkEx 0 r.1, r.2)) hv).mpr key
  · unfold lp_step
    refine (T.h_ite (fun _ => ?_) (fun hc => absurd hc (by simp <;> omega)))
    refine (T.h_need (by simp <;> omega) (T.h_need (by simp <;> omega) ?_))
    refine T.h_leaf ?_
    rw [wrap_next (by omega)]
    exact hΨ
  · unfold lp_step
    refine (T.h_ite (fun hc => absurd hc (by simp <;> omega)) (fun _ => T.h_leaf hΨ.2))

def lp_dec (b : Mem) (f : FSt) : Option (Clp × Vlp) :=
  match getSu 0 1 (findF 0 f.sl), getI (findF 8 f.sl), getI (findF 5 f.sl), getI (findF 6 f.sl), getI (findF 7 f.sl), id b, f.mem with
  | some (0, n_), some q_i, some q_b, some q_l, some q_s, [some (.cols m_ [.bo f0_])], [_] => some ({ n := n_, m := m_, f0 := f0_ }, { i := q_i, b := q_b, l := q_l, s := q_s })
  | _, _, _, _, _, _, _ => none
theorem lp_dec_ok (b : Mem) (f : FSt) (x : Clp × Vlp) (h : lp_dec b f = some x) : b = x.1.base ∧ FLe b f (lp_st x.1 x.2) := by
  unfold lp_dec at h
  split at h
  · rename_i e0 e1 e2 e3 e4 hb hm
    cases h
    have hb : b = _ := hb
    subst hb
    refine ⟨rfl, fle_of (fun p hp => ?_) (by rw [hm]; exact trivial)⟩
    simp only [List.mem_cons, List.not_mem_nil, or_false] at hp
    rcases hp with rfl | rfl | rfl | rfl | rfl
    · exact getSu_rel e0
    · exact getI_rel e2
    · exact getI_rel e3
    · exact getI_rel e4
    · exact getI_rel e1
  · cases h
noncomputable def lp_sum : SumF Try.prog 40 lpRoot :=
  sumL (pathB lpRoot 0) lp_dec (fun x => x.1.base) (fun x => lp_st x.1 x.2) lp_R lp_dec_ok (by
    intro code hc x
    have hc2 : code = .block 0 (.loop (bodyB lpRoot 0)) := by
      have h : subR lpRoot (pathB lpRoot 0) = some (.block 0 (.loop (bodyB lpRoot 0))) := by kernel_rfl
      rw [h] at hc; cases hc; rfl
    subst hc2
    exact lp_tri x)

structure Clq where
  n : Nat
  m : Nat
  f0 : Nat → Bool
  k : Int
def Clq.base (c : Clq) : Mem := [some (.cols c.m [.bo c.f0])]
structure Vlq where
  i : Int
  b : Int
  l : Int
  s : Int
noncomputable abbrev lqRoot : Code := bodyOf Try.f53
def lq_st (c : Clq) (v : Vlq) : FSt := ⟨[(5, .one (.num .i64 v.b)), (6, .one (.num .i64 v.l)), (7, .one (.num .i64 v.s)), (13, .one (.su 0 1 0 c.n false)), (14, .one (.num .i64 c.k)), (15, .one (.num .i64 v.i))], c.base ++ []⟩
def lq_step (c : Clq) (v : Vlq) : T (Nx Vlq) :=
  .ite (decide (v.1 < c.4)) (.need (decide (0 ≤ v.1) && decide (v.1 < ↑c.1)) (.need (decide (v.1.toNat + 0 < c.2)) (.leaf (.go { i := IntKind.i64.wrap (v.1 + 1), b := bif !c.3 (v.1.toNat + 0) then v.2 else bif decide (v.3 < IntKind.i64.wrap (IntKind.i64.wrap (v.1 + 1) - v.4)) then v.4 else v.2, l := bif !c.3 (v.1.toNat + 0) then v.3 else bif decide (v.3 < IntKind.i64.wrap (IntKind.i64.wrap (v.1 + 1) - v.4)) then IntKind.i64.wrap (IntKind.i64.wrap (v.1 + 1) - v.4) else v.3, s := bif !c.3 (v.1.toNat + 0) then IntKind.i64.wrap (v.1 + 1) else v.4 })))) (.leaf (.out (EX.exit 0) ⟨[(5, AV.one (SV.num IntKind.i64 v.2)), (6, AV.one (SV.num IntKind.i64 v.3)), (7, AV.one (SV.num IntKind.i64 v.4)), (13, AV.one (SV.su 0 1 0 c.1 false)), (14, AV.one (SV.num IntKind.i64 c.4)), (15, AV.one (SV.num IntKind.i64 v.1))], c.base ++ []⟩))
theorem lq_round (c : Clq) (v : Vlq) : roundF Try.prog 40 [] lqRoot [] c.base [0, 2, 3, 4, 5, 6, 7, 8, 9, 12, 13, 14, 15, 16, 21, 29, 37, 198] [5, 6, 7, 13, 14, 15] 0 (lq_st c v) = (lq_step c v).map (nxF (lq_st c)) := by kernel_rfl
def lq_g (c : Clq) (j : Nat) (a : Int × Int × Int) : Int × Int × Int := lpStep c.f0 j a
def lq_ok (c : Clq) (v : Vlq) : Bool := decide (c.n ≤ c.m ∧ c.n ≤ 64 ∧ c.k = (c.n : Int) ∧ 0 ≤ v.i ∧ v.i ≤ ((c.n : Nat) : Int))
def lq_fin (c : Clq) (a : Int × Int × Int) : FSt := lq_st c ({ i := (c.n : Int), b := a.1, l := a.2.1, s := a.2.2 })
noncomputable def lq_R (x : Clq × Vlq) : T (EX × FSt) := .need (lq_ok x.1 x.2) (.leaf (.normal, lq_fin x.1 (iter (lq_g x.1) (x.1.n - x.2.i.toNat) x.2.i.toNat (x.2.b, x.2.l, x.2.s))))
theorem lq_tri (x : Clq × Vlq) : TriR Try.prog 40 x.1.base (.block 0 (.loop (bodyB lqRoot 0))) (lq_st x.1 x.2) (lq_R x) := by
  obtain ⟨c, v⟩ := x
  refine triR_of mix (root := lqRoot) (by kernel_rfl) (by kernel_rfl) [0, 2, 3, 4, 5, 6, 7, 8, 9, 12, 13, 14, 15, 16, 21, 29, 37, 198] [5, 6, 7, 13, 14, 15] (lq_st c) (lq_step c) (lq_round c) v _ ((c.n - v.i.toNat) + 1) (fun Φ h => ?_)
  have h0 := h.1
  have h1 : Φ (.normal, lq_fin c (iter (lq_g c) (c.n - v.i.toNat) v.i.toNat (v.b, v.l, v.s))) := h.2
  simp only [lq_ok, decide_eq_true_eq] at h0
  obtain ⟨hk0, hk1, hk2, hi0, hin⟩ := h0
  have hv : v = (fun (j : Nat) (a : Int × Int × Int) => ({ i := (j : Int), b := a.1, l := a.2.1, s := a.2.2 } : Vlq)) v.i.toNat (v.b, v.l, v.s) := by
    obtain ⟨i, b, l, s⟩ := v
    have hi0 : 0 ≤ i := hi0
    simp only [Int.toNat_of_nonneg hi0]
  have key := T_iter (lq_step c) (fun (j : Nat) (a : Int × Int × Int) => ({ i := (j : Int), b := a.1, l := a.2.1, s := a.2.2 } : Vlq)) c.n (lq_g c) (fun a => (.exit 0, lq_fin c a)) (fun j a hj Ψ hΨ => ?_) (fun a Ψ hΨ => ?_) (fun a => by simp) (c.n - v.i.toNat) v.i.toNat (v.b, v.l, v.s) (by omega) (fun r => Φ (blkEx 0 r.1, r.2)) (by simpa [blkEx] using h1)
  · exact (congrArg (fun z => (loopTree (lq_step c) (c.n - v.i.toNat + 1) z).holds fun r => Φ (blkEx 0 r.1, r.2)) hv).mpr key
  · unfold lq_step
    refine (T.h_ite (fun _ => ?_) (fun hc => absurd hc (by simp <;> omega)))
    refine (T.h_need (by simp <;> omega) (T.h_need (by simp <;> omega) ?_))
    refine T.h_leaf ?_
    rw [wrap_next (by omega)]
    exact hΨ
  · unfold lq_step
    refine (T.h_ite (fun hc => absurd hc (by simp <;> omega)) (fun _ => T.h_leaf hΨ.2))

def lq_dec (b : Mem) (f : FSt) : Option (Clq × Vlq) :=
  match getSu 0 1 (findF 13 f.sl), getI (findF 14 f.sl), getI (findF 15 f.sl), getI (findF 5 f.sl), getI (findF 6 f.sl), getI (findF 7 f.sl), id b, f.mem with
  | some (0, n_), some k_, some q_i, some q_b, some q_l, some q_s, [some (.cols m_ [.bo f0_])], [_] => some ({ n := n_, m := m_, f0 := f0_, k := k_ }, { i := q_i, b := q_b, l := q_l, s := q_s })
  | _, _, _, _, _, _, _, _ => none
theorem lq_dec_ok (b : Mem) (f : FSt) (x : Clq × Vlq) (h : lq_dec b f = some x) : b = x.1.base ∧ FLe b f (lq_st x.1 x.2) := by
  unfold lq_dec at h
  split at h
  · rename_i e0 e1 e2 e3 e4 e5 hb hm
    cases h
    have hb : b = _ := hb
    subst hb
    refine ⟨rfl, fle_of (fun p hp => ?_) (by rw [hm]; exact trivial)⟩
    simp only [List.mem_cons, List.not_mem_nil, or_false] at hp
    rcases hp with rfl | rfl | rfl | rfl | rfl | rfl
    · exact getI_rel e3
    · exact getI_rel e4
    · exact getI_rel e5
    · exact getSu_rel e0
    · exact getI_rel e1
    · exact getI_rel e2
  · cases h
noncomputable def lq_sum : SumF Try.prog 40 lqRoot :=
  sumL (pathB lqRoot 0) lq_dec (fun x => x.1.base) (fun x => lq_st x.1 x.2) lq_R lq_dec_ok (by
    intro code hc x
    have hc2 : code = .block 0 (.loop (bodyB lqRoot 0)) := by
      have h : subR lqRoot (pathB lqRoot 0) = some (.block 0 (.loop (bodyB lqRoot 0))) := by kernel_rfl
      rw [h] at hc; cases hc; rfl
    subst hc2
    exact lq_tri x)

noncomputable def k_sLp0 : Ctr Try.prog := (mkF0 Try.prog mix [] 52 Try.f52 (bodyOf Try.f52) Try.func52 (by kernel_rfl) (by kernel_rfl) [0, 2, 3, 4, 5, 6, 7, 8, 11, 15, 22, 30, 37, 198] 40 (by kernel_rfl) (by kernel_rfl) [lp_sum]).mg
noncomputable def k_iLp0 : Ctr Try.prog := (mkF0 Try.prog mix [] 53 Try.f53 (bodyOf Try.f53) Try.func53 (by kernel_rfl) (by kernel_rfl) [0, 2, 3, 4, 5, 6, 7, 8, 9, 12, 13, 14, 15, 16, 21, 29, 37, 198] 40 (by kernel_rfl) (by kernel_rfl) [lq_sum]).mg
def run_Lp : List AV → Mem → T Res
  | [.one (.su 0 1 0 n false)], [some (.cols m [.bo f0])] => .need (decide (n ≤ m)) (T.leaf (AV.tup [Pt.one (SV.num IntKind.i64 (bif decide (64 < (n : Int)) then 0 else bif decide ((lpAll n f0).2.1 = 0) then 0 else (lpAll n f0).1)), Pt.one (SV.num IntKind.i64 (bif decide (64 < (n : Int)) then 0 else bif decide ((lpAll n f0).2.1 = 0) then 0 else (lpAll n f0).2.1)), Pt.one (SV.bo (bif decide (64 < (n : Int)) then false else !decide ((lpAll n f0).2.1 = 0)))], []))
  | _, _ => .fail
theorem sLp_ev (n m : Nat) (f0 : Nat → Bool) : k_sLp0.run [.one (.su 0 1 0 n false)] [some (.cols m [.bo f0])] =
    T.need (bif decide (64 < (n : Int)) then true else lp_ok { n := n, m := m, f0 := f0 } { i := 0, b := 0, l := 0, s := 0 }) (T.leaf (AV.tup [Pt.one (SV.num IntKind.i64 (bif decide (64 < (n : Int)) then 0 else bif decide ((iter (lp_g { n := n, m := m, f0 := f0 }) (n - Int.toNat 0) (Int.toNat 0) (0, 0, 0)).2.1 = 0) then 0 else (iter (lp_g { n := n, m := m, f0 := f0 }) (n - Int.toNat 0) (Int.toNat 0) (0, 0, 0)).1)), Pt.one (SV.num IntKind.i64 (bif decide (64 < (n : Int)) then 0 else bif decide ((iter (lp_g { n := n, m := m, f0 := f0 }) (n - Int.toNat 0) (Int.toNat 0) (0, 0, 0)).2.1 = 0) then 0 else (iter (lp_g { n := n, m := m, f0 := f0 }) (n - Int.toNat 0) (Int.toNat 0) (0, 0, 0)).2.1)), Pt.one (SV.bo (bif decide (64 < (n : Int)) then false else !decide ((iter (lp_g { n := n, m := m, f0 := f0 }) (n - Int.toNat 0) (Int.toNat 0) (0, 0, 0)).2.1 = 0)))], [])) := by kernel_rfl
noncomputable def k_sLp : Ctr Try.prog := (k_sLp0.to run_Lp (by
  intro args mem _
  unfold run_Lp
  split
  · rename_i n m f0 _
    rw [sLp_ev]
    constructor
    intro Φ hΦ h
    have hnm := of_decide_eq_true h.1
    have h2 := h.2
    refine T.h_need (needT fun hc => ?_) (T.h_leaf h2)
    have hc := of_decide_eq_false hc
    simp [lp_ok] <;> omega
  · exact Weak.fail _)).su.own
theorem iLp_ev (n m : Nat) (f0 : Nat → Bool) : k_iLp0.run [.one (.su 0 1 0 n false)] [some (.cols m [.bo f0])] =
    T.need (bif decide (64 < (n : Int)) then true else lq_ok { n := n, m := m, f0 := f0, k := (n : Int) } { i := 0, b := 0, l := 0, s := 0 }) (T.leaf (AV.tup [Pt.one (SV.num IntKind.i64 (bif decide (64 < (n : Int)) then 0 else bif decide ((iter (lq_g { n := n, m := m, f0 := f0, k := (n : Int) }) (n - Int.toNat 0) (Int.toNat 0) (0, 0, 0)).2.1 = 0) then 0 else (iter (lq_g { n := n, m := m, f0 := f0, k := (n : Int) }) (n - Int.toNat 0) (Int.toNat 0) (0, 0, 0)).1)), Pt.one (SV.num IntKind.i64 (bif decide (64 < (n : Int)) then 0 else bif decide ((iter (lq_g { n := n, m := m, f0 := f0, k := (n : Int) }) (n - Int.toNat 0) (Int.toNat 0) (0, 0, 0)).2.1 = 0) then 0 else (iter (lq_g { n := n, m := m, f0 := f0, k := (n : Int) }) (n - Int.toNat 0) (Int.toNat 0) (0, 0, 0)).2.1)), Pt.one (SV.bo (bif decide (64 < (n : Int)) then false else !decide ((iter (lq_g { n := n, m := m, f0 := f0, k := (n : Int) }) (n - Int.toNat 0) (Int.toNat 0) (0, 0, 0)).2.1 = 0)))], [])) := by kernel_rfl
noncomputable def k_iLp : Ctr Try.prog := (k_iLp0.to run_Lp (by
  intro args mem _
  unfold run_Lp
  split
  · rename_i n m f0 _
    rw [iLp_ev]
    constructor
    intro Φ hΦ h
    have hnm := of_decide_eq_true h.1
    have h2 := h.2
    refine T.h_need (needT fun hc => ?_) (T.h_leaf h2)
    have hc := of_decide_eq_false hc
    simp [lq_ok] <;> omega
  · exact Weak.fail _)).su.own

end Go.Proofs.Ytkjggmfblkkopaa
