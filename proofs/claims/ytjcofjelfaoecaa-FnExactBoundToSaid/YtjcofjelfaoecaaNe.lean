/-
  NearestBodies: the loops of both sides. No conditions.
-/
import Derived.Test.YtjcofjelfaoecaaEn
namespace Go.Proofs.Ytjcofjelfaoecaa
set_option linter.unusedVariables false
set_option linter.unusedSimpArgs false
open Go.RowKit

noncomputable def k_s_l01VLong : Ctr Try.prog := (mkF Try.prog mix [k_s_l01VInner, k_l01Sqrt] 104 Try.f104 (bodyOf Try.f104) Try.func104 (by kernel_rfl) (by kernel_rfl) [0, 1, 2] 7 (by kernel_rfl) (by kernel_rfl)).mg
noncomputable def k_s_l02Apart : Ctr Try.prog := (mkF Try.prog mix [k_s_l01VLess, k_s_l01VLong] 53 Try.f53 (bodyOf Try.f53) Try.func53 (by kernel_rfl) (by kernel_rfl) [0, 1, 2, 3, 4] 9 (by kernel_rfl) (by kernel_rfl)).mg
noncomputable def k_i_SizeOfVector : Ctr Try.prog := (mkF Try.prog mix [k_i_InnerOf, k_RootNumber] 60 Try.f60 (bodyOf Try.f60) Try.func60 (by kernel_rfl) (by kernel_rfl) [0, 1, 2] 7 (by kernel_rfl) (by kernel_rfl)).mg
def apart (f0 f1 f2 : Nat → Nat) (i k : Nat) : Nat := rootV (inner (fsub .f32 (f0 k) (f0 i)) (fsub .f32 (f1 k) (f1 i)) (fsub .f32 (f2 k) (f2 i)) (fsub .f32 (f0 k) (f0 i)) (fsub .f32 (f1 k) (f1 i)) (fsub .f32 (f2 k) (f2 i)))
def nUp (f0 f1 f2 : Nat → Nat) (i k : Nat) (a : Int × Int × Nat) : Bool := bif decide (a.1 < 0) then true else flt .f32 (apart f0 f1 f2 i k) a.2.2
def nPair (f0 f1 f2 : Nat → Nat) (i k : Nat) (a : Int × Int × Nat) : Int × Int × Nat := (bif nUp f0 f1 f2 i k a then (i : Int) else a.1, bif nUp f0 f1 f2 i k a then (k : Int) else a.2.1, bif nUp f0 f1 f2 i k a then apart f0 f1 f2 i k else a.2.2)
def nAll (n : Nat) (f0 f1 f2 : Nat → Nat) : Int × Int × Nat := iter (fun i a => iter (nPair f0 f1 f2 i) (n - (i + 1)) (i + 1) a) n 0 (-1, -1, 0)
structure Cn2 where
  n : Nat
  m : Nat
  f0 : Nat → Nat
  f1 : Nat → Nat
  f2 : Nat → Nat
  f3 : Nat → Nat
  f4 : Nat → Nat
  f5 : Nat → Nat
  f6 : Nat → Nat
  i : Int
def Cn2.base (c : Cn2) : Mem := [some (.cols c.m [.fl .f32 c.f0, .fl .f32 c.f1, .fl .f32 c.f2, .fl .f32 c.f3, .fl .f32 c.f4, .fl .f32 c.f5, .fl .f32 c.f6])]
structure Vn2 where
  k : Int
  a : Int
  b : Int
  d : Nat
noncomputable abbrev n2Root : Code := bodyOf Try.f71
def n2_st (c : Cn2) (v : Vn2) : FSt := ⟨[(0, .one (.su 0 7 0 c.n false)), (6, .one (.num .i64 v.a)), (7, .one (.num .i64 v.b)), (8, .one (.fl .f32 v.d)), (9, .one (.num .i64 c.i)), (10, .one (.num .i64 v.k))], c.base ++ []⟩
def n2_step (c : Cn2) (v : Vn2) : T (Nx Vn2) :=
  .ite (decide (v.1 < ↑c.1)) (.need (decide (0 ≤ v.1) && decide (v.1 < ↑c.1)) (.need (decide (v.1.toNat + 0 < c.2)) (.need (decide (0 ≤ c.10) && decide (c.10 < ↑c.1)) (.need (decide (c.10.toNat + 0 < c.2)) (.leaf (.go { k := IntKind.i64.wrap (v.1 + 1), a := bif bif decide (v.2 < 0) then true else flt FloatKind.f32 (rootV (fadd FloatKind.f32 (fadd FloatKind.f32 (fmul FloatKind.f32 (fsub FloatKind.f32 (c.3 (v.1.toNat + 0)) (c.3 (c.10.toNat + 0))) (fsub FloatKind.f32 (c.3 (v.1.toNat + 0)) (c.3 (c.10.toNat + 0)))) (fmul FloatKind.f32 (fsub FloatKind.f32 (c.4 (v.1.toNat + 0)) (c.4 (c.10.toNat + 0))) (fsub FloatKind.f32 (c.4 (v.1.toNat + 0)) (c.4 (c.10.toNat + 0))))) (fmul FloatKind.f32 (fsub FloatKind.f32 (c.5 (v.1.toNat + 0)) (c.5 (c.10.toNat + 0))) (fsub FloatKind.f32 (c.5 (v.1.toNat + 0)) (c.5 (c.10.toNat + 0)))))) v.4 then c.10 else v.2, b := bif bif decide (v.2 < 0) then true else flt FloatKind.f32 (rootV (fadd FloatKind.f32 (fadd FloatKind.f32 (fmul FloatKind.f32 (fsub FloatKind.f32 (c.3 (v.1.toNat + 0)) (c.3 (c.10.toNat + 0))) (fsub FloatKind.f32 (c.3 (v.1.toNat + 0)) (c.3 (c.10.toNat + 0)))) (fmul FloatKind.f32 (fsub FloatKind.f32 (c.4 (v.1.toNat + 0)) (c.4 (c.10.toNat + 0))) (fsub FloatKind.f32 (c.4 (v.1.toNat + 0)) (c.4 (c.10.toNat + 0))))) (fmul FloatKind.f32 (fsub FloatKind.f32 (c.5 (v.1.toNat + 0)) (c.5 (c.10.toNat + 0))) (fsub FloatKind.f32 (c.5 (v.1.toNat + 0)) (c.5 (c.10.toNat + 0)))))) v.4 then v.1 else v.3, d := bif bif decide (v.2 < 0) then true else flt FloatKind.f32 (rootV (fadd FloatKind.f32 (fadd FloatKind.f32 (fmul FloatKind.f32 (fsub FloatKind.f32 (c.3 (v.1.toNat + 0)) (c.3 (c.10.toNat + 0))) (fsub FloatKind.f32 (c.3 (v.1.toNat + 0)) (c.3 (c.10.toNat + 0)))) (fmul FloatKind.f32 (fsub FloatKind.f32 (c.4 (v.1.toNat + 0)) (c.4 (c.10.toNat + 0))) (fsub FloatKind.f32 (c.4 (v.1.toNat + 0)) (c.4 (c.10.toNat + 0))))) (fmul FloatKind.f32 (fsub FloatKind.f32 (c.5 (v.1.toNat + 0)) (c.5 (c.10.toNat + 0))) (fsub FloatKind.f32 (c.5 (v.1.toNat + 0)) (c.5 (c.10.toNat + 0)))))) v.4 then rootV (fadd FloatKind.f32 (fadd FloatKind.f32 (fmul FloatKind.f32 (fsub FloatKind.f32 (c.3 (v.1.toNat + 0)) (c.3 (c.10.toNat + 0))) (fsub FloatKind.f32 (c.3 (v.1.toNat + 0)) (c.3 (c.10.toNat + 0)))) (fmul FloatKind.f32 (fsub FloatKind.f32 (c.4 (v.1.toNat + 0)) (c.4 (c.10.toNat + 0))) (fsub FloatKind.f32 (c.4 (v.1.toNat + 0)) (c.4 (c.10.toNat + 0))))) (fmul FloatKind.f32 (fsub FloatKind.f32 (c.5 (v.1.toNat + 0)) (c.5 (c.10.toNat + 0))) (fsub FloatKind.f32 (c.5 (v.1.toNat + 0)) (c.5 (c.10.toNat + 0))))) else v.4 })))))) (.leaf (.out (EX.exit 2) ⟨[(0, AV.one (SV.su 0 7 0 c.1 false)), (6, AV.one (SV.num IntKind.i64 v.2)), (7, AV.one (SV.num IntKind.i64 v.3)), (8, AV.one (SV.fl FloatKind.f32 v.4)), (9, AV.one (SV.num IntKind.i64 c.10)), (10, AV.one (SV.num IntKind.i64 v.1))], c.base ++ []⟩))
theorem n2_round (c : Cn2) (v : Vn2) : roundF Try.prog 56 [k_s_l02Apart] n2Root [] c.base [0, 2, 3, 4, 5, 6, 7, 8, 9, 10, 11, 15, 23, 43, 198] [0, 6, 7, 8, 9, 10] 2 (n2_st c v) = (n2_step c v).map (nxF (n2_st c)) := by kernel_rfl
def n2_g (c : Cn2) (k : Nat) (a : Int × Int × Nat) : Int × Int × Nat := (bif nUp c.f0 c.f1 c.f2 c.i.toNat k a then c.i else a.1, bif nUp c.f0 c.f1 c.f2 c.i.toNat k a then (k : Int) else a.2.1, bif nUp c.f0 c.f1 c.f2 c.i.toNat k a then apart c.f0 c.f1 c.f2 c.i.toNat k else a.2.2)
def n2_ok (c : Cn2) (v : Vn2) : Bool := decide (c.n ≤ c.m ∧ c.n ≤ 1099511627776 ∧ 0 ≤ c.i ∧ c.i < (c.n : Int) ∧ 0 ≤ v.k ∧ v.k ≤ ((c.n : Nat) : Int))
def n2_fin (c : Cn2) (a : Int × Int × Nat) : FSt := n2_st c ({ k := (c.n : Int), a := a.1, b := a.2.1, d := a.2.2 })
noncomputable def n2_R (x : Cn2 × Vn2) : T (EX × FSt) := .need (n2_ok x.1 x.2) (.leaf (.normal, n2_fin x.1 (iter (n2_g x.1) (x.1.n - x.2.k.toNat) x.2.k.toNat (x.2.a, x.2.b, x.2.d))))
theorem n2_tri (x : Cn2 × Vn2) : TriR Try.prog 56 x.1.base (.block 2 (.loop (bodyB n2Root 2))) (n2_st x.1 x.2) (n2_R x) := by
  obtain ⟨c, v⟩ := x
  refine triR_of mix (root := n2Root) (by kernel_rfl) (by kernel_rfl) [0, 2, 3, 4, 5, 6, 7, 8, 9, 10, 11, 15, 23, 43, 198] [0, 6, 7, 8, 9, 10] (n2_st c) (n2_step c) (n2_round c) v _ ((c.n - v.k.toNat) + 1) (fun Φ h => ?_)
  have h0 := h.1
  have h1 : Φ (.normal, n2_fin c (iter (n2_g c) (c.n - v.k.toNat) v.k.toNat (v.a, v.b, v.d))) := h.2
  simp only [n2_ok, decide_eq_true_eq] at h0
  obtain ⟨hk0, hk1, hk2, hk3, hi0, hin⟩ := h0
  have hv : v = (fun (j : Nat) (a : Int × Int × Nat) => ({ k := (j : Int), a := a.1, b := a.2.1, d := a.2.2 } : Vn2)) v.k.toNat (v.a, v.b, v.d) := by
    obtain ⟨k, a, b, d⟩ := v
    have hi0 : 0 ≤ k := hi0
    simp only [Int.toNat_of_nonneg hi0]
  have key := T_iter (n2_step c) (fun (j : Nat) (a : Int × Int × Nat) => ({ k := (j : Int), a := a.1, b := a.2.1, d := a.2.2 } : Vn2)) c.n (n2_g c) (fun a => (.exit 2, n2_fin c a)) (fun j a hj Ψ hΨ => ?_) (fun a Ψ hΨ => ?_) (fun a => by simp) (c.n - v.k.toNat) v.k.toNat (v.a, v.b, v.d) (by omega) (fun r => Φ (blkEx 2 r.1, r.2)) (by simpa [blkEx] using h1)
  · exact (congrArg (fun z => (loopTree (n2_step c) (c.n - v.k.toNat + 1) z).holds fun r => Φ (blkEx 2 r.1, r.2)) hv).mpr key
  · unfold n2_step
    refine (T.h_ite (fun _ => ?_) (fun hc => absurd hc (by simp <;> omega)))
    refine (T.h_need (by simp <;> omega) (T.h_need (by simp <;> omega) (T.h_need (by simp <;> omega) (T.h_need (by simp <;> omega) ?_))))
    refine T.h_leaf ?_
    rw [wrap_next (by omega)]
    exact hΨ
  · unfold n2_step
    refine (T.h_ite (fun hc => absurd hc (by simp <;> omega)) (fun _ => T.h_leaf hΨ.2))

def n2_dec (b : Mem) (f : FSt) : Option (Cn2 × Vn2) :=
  match getSu 0 7 (findF 0 f.sl), getI (findF 9 f.sl), getI (findF 10 f.sl), getI (findF 6 f.sl), getI (findF 7 f.sl), getF .f32 (findF 8 f.sl), id b, f.mem with
  | some (0, n_), some i_, some q_k, some q_a, some q_b, some q_d, [some (.cols m_ [.fl .f32 f0_, .fl .f32 f1_, .fl .f32 f2_, .fl .f32 f3_, .fl .f32 f4_, .fl .f32 f5_, .fl .f32 f6_])], [_] => some ({ n := n_, m := m_, f0 := f0_, f1 := f1_, f2 := f2_, f3 := f3_, f4 := f4_, f5 := f5_, f6 := f6_, i := i_ }, { k := q_k, a := q_a, b := q_b, d := q_d })
  | _, _, _, _, _, _, _, _ => none
theorem n2_dec_ok (b : Mem) (f : FSt) (x : Cn2 × Vn2) (h : n2_dec b f = some x) : b = x.1.base ∧ FLe b f (n2_st x.1 x.2) := by
  unfold n2_dec at h
  split at h
  · rename_i e0 e1 e2 e3 e4 e5 hb hm
    cases h
    have hb : b = _ := hb
    subst hb
    refine ⟨rfl, fle_of (fun p hp => ?_) (by rw [hm]; exact trivial)⟩
    simp only [List.mem_cons, List.not_mem_nil, or_false] at hp
    rcases hp with rfl | rfl | rfl | rfl | rfl | rfl
    · exact getSu_rel e0
    · exact getI_rel e3
    · exact getI_rel e4
    · exact getF_rel e5
    · exact getI_rel e1
    · exact getI_rel e2
  · cases h
noncomputable def n2_sum : SumF Try.prog 56 n2Root :=
  sumL (pathB n2Root 2) n2_dec (fun x => x.1.base) (fun x => n2_st x.1 x.2) n2_R n2_dec_ok (by
    intro code hc x
    have hc2 : code = .block 2 (.loop (bodyB n2Root 2)) := by
      have h : subR n2Root (pathB n2Root 2) = some (.block 2 (.loop (bodyB n2Root 2))) := by kernel_rfl
      rw [h] at hc; cases hc; rfl
    subst hc2
    exact n2_tri x)

structure Cn1 where
  n : Nat
  m : Nat
  f0 : Nat → Nat
  f1 : Nat → Nat
  f2 : Nat → Nat
  f3 : Nat → Nat
  f4 : Nat → Nat
  f5 : Nat → Nat
  f6 : Nat → Nat
def Cn1.base (c : Cn1) : Mem := [some (.cols c.m [.fl .f32 c.f0, .fl .f32 c.f1, .fl .f32 c.f2, .fl .f32 c.f3, .fl .f32 c.f4, .fl .f32 c.f5, .fl .f32 c.f6])]
structure Vn1 where
  i : Int
  a : Int
  b : Int
  d : Nat
noncomputable abbrev n1Root : Code := bodyOf Try.f71
def n1_st (c : Cn1) (v : Vn1) : FSt := ⟨[(0, .one (.su 0 7 0 c.n false)), (6, .one (.num .i64 v.a)), (7, .one (.num .i64 v.b)), (8, .one (.fl .f32 v.d)), (9, .one (.num .i64 v.i))], c.base ++ []⟩
def n1_step (c : Cn1) (v : Vn1) : T (Nx Vn1) :=
  .ite (decide (v.1 < ↑c.1)) (.need (n2_ok { n := c.1, m := c.2, f0 := c.3, f1 := c.4, f2 := c.5, f3 := c.6, f4 := c.7, f5 := c.8, f6 := c.9, i := v.1 } { k := IntKind.i64.wrap (v.1 + 1), a := v.2, b := v.3, d := v.4 }) (.leaf (.go { i := IntKind.i64.wrap (v.1 + 1), a := (iter (n2_g { n := c.1, m := c.2, f0 := c.3, f1 := c.4, f2 := c.5, f3 := c.6, f4 := c.7, f5 := c.8, f6 := c.9, i := v.1 }) (c.1 - (IntKind.i64.wrap (v.1 + 1)).toNat) (IntKind.i64.wrap (v.1 + 1)).toNat (v.2, v.3, v.4)).1, b := (iter (n2_g { n := c.1, m := c.2, f0 := c.3, f1 := c.4, f2 := c.5, f3 := c.6, f4 := c.7, f5 := c.8, f6 := c.9, i := v.1 }) (c.1 - (IntKind.i64.wrap (v.1 + 1)).toNat) (IntKind.i64.wrap (v.1 + 1)).toNat (v.2, v.3, v.4)).2.1, d := (iter (n2_g { n := c.1, m := c.2, f0 := c.3, f1 := c.4, f2 := c.5, f3 := c.6, f4 := c.7, f5 := c.8, f6 := c.9, i := v.1 }) (c.1 - (IntKind.i64.wrap (v.1 + 1)).toNat) (IntKind.i64.wrap (v.1 + 1)).toNat (v.2, v.3, v.4)).2.2 }))) (.leaf (.out (EX.exit 0) ⟨[(0, AV.one (SV.su 0 7 0 c.1 false)), (6, AV.one (SV.num IntKind.i64 v.2)), (7, AV.one (SV.num IntKind.i64 v.3)), (8, AV.one (SV.fl FloatKind.f32 v.4)), (9, AV.one (SV.num IntKind.i64 v.1))], c.base ++ []⟩))
theorem n1_round (c : Cn1) (v : Vn1) : roundF Try.prog 56 [k_s_l02Apart] n1Root [n2_sum] c.base [0, 2, 3, 4, 5, 6, 7, 8, 9, 10, 11, 15, 23, 43, 198] [0, 6, 7, 8, 9] 0 (n1_st c v) = (n1_step c v).map (nxF (n1_st c)) := by kernel_rfl
def n1_g (c : Cn1) (i : Nat) (a : Int × Int × Nat) : Int × Int × Nat := iter (nPair c.f0 c.f1 c.f2 i) (c.n - (i + 1)) (i + 1) a
def n1_ok (c : Cn1) (v : Vn1) : Bool := decide (c.n ≤ c.m ∧ c.n ≤ 1099511627776 ∧ 0 ≤ v.i ∧ v.i ≤ ((c.n : Nat) : Int))
def n1_fin (c : Cn1) (a : Int × Int × Nat) : FSt := n1_st c ({ i := (c.n : Int), a := a.1, b := a.2.1, d := a.2.2 })
noncomputable def n1_R (x : Cn1 × Vn1) : T (EX × FSt) := .need (n1_ok x.1 x.2) (.leaf (.normal, n1_fin x.1 (iter (n1_g x.1) (x.1.n - x.2.i.toNat) x.2.i.toNat (x.2.a, x.2.b, x.2.d))))
theorem n1_tri (x : Cn1 × Vn1) : TriR Try.prog 56 x.1.base (.block 0 (.loop (bodyB n1Root 0))) (n1_st x.1 x.2) (n1_R x) := by
  obtain ⟨c, v⟩ := x
  refine triR_of mix (root := n1Root) (by kernel_rfl) (by kernel_rfl) [0, 2, 3, 4, 5, 6, 7, 8, 9, 10, 11, 15, 23, 43, 198] [0, 6, 7, 8, 9] (n1_st c) (n1_step c) (n1_round c) v _ ((c.n - v.i.toNat) + 1) (fun Φ h => ?_)
  have h0 := h.1
  have h1 : Φ (.normal, n1_fin c (iter (n1_g c) (c.n - v.i.toNat) v.i.toNat (v.a, v.b, v.d))) := h.2
  simp only [n1_ok, decide_eq_true_eq] at h0
  obtain ⟨hk0, hk1, hi0, hin⟩ := h0
  have hv : v = (fun (j : Nat) (a : Int × Int × Nat) => ({ i := (j : Int), a := a.1, b := a.2.1, d := a.2.2 } : Vn1)) v.i.toNat (v.a, v.b, v.d) := by
    obtain ⟨i, a, b, d⟩ := v
    have hi0 : 0 ≤ i := hi0
    simp only [Int.toNat_of_nonneg hi0]
  have key := T_iter (n1_step c) (fun (j : Nat) (a : Int × Int × Nat) => ({ i := (j : Int), a := a.1, b := a.2.1, d := a.2.2 } : Vn1)) c.n (n1_g c) (fun a => (.exit 0, n1_fin c a)) (fun j a hj Ψ hΨ => ?_) (fun a Ψ hΨ => ?_) (fun a => by simp) (c.n - v.i.toNat) v.i.toNat (v.a, v.b, v.d) (by omega) (fun r => Φ (blkEx 0 r.1, r.2)) (by simpa [blkEx] using h1)
  · exact (congrArg (fun z => (loopTree (n1_step c) (c.n - v.i.toNat + 1) z).holds fun r => Φ (blkEx 0 r.1, r.2)) hv).mpr key
  · unfold n1_step
    refine (T.h_ite (fun _ => ?_) (fun hc => absurd hc (by simp <;> omega)))
    refine (T.h_need (by rw [wrap_next (by omega)]; simp [n2_ok] <;> omega) ?_)
    refine T.h_leaf ?_
    rw [wrap_next (by omega)]
    exact hΨ
  · unfold n1_step
    refine (T.h_ite (fun hc => absurd hc (by simp <;> omega)) (fun _ => T.h_leaf hΨ.2))

def n1_dec (b : Mem) (f : FSt) : Option (Cn1 × Vn1) :=
  match getSu 0 7 (findF 0 f.sl), getI (findF 9 f.sl), getI (findF 6 f.sl), getI (findF 7 f.sl), getF .f32 (findF 8 f.sl), id b, f.mem with
  | some (0, n_), some q_i, some q_a, some q_b, some q_d, [some (.cols m_ [.fl .f32 f0_, .fl .f32 f1_, .fl .f32 f2_, .fl .f32 f3_, .fl .f32 f4_, .fl .f32 f5_, .fl .f32 f6_])], [_] => some ({ n := n_, m := m_, f0 := f0_, f1 := f1_, f2 := f2_, f3 := f3_, f4 := f4_, f5 := f5_, f6 := f6_ }, { i := q_i, a := q_a, b := q_b, d := q_d })
  | _, _, _, _, _, _, _ => none
theorem n1_dec_ok (b : Mem) (f : FSt) (x : Cn1 × Vn1) (h : n1_dec b f = some x) : b = x.1.base ∧ FLe b f (n1_st x.1 x.2) := by
  unfold n1_dec at h
  split at h
  · rename_i e0 e1 e2 e3 e4 hb hm
    cases h
    have hb : b = _ := hb
    subst hb
    refine ⟨rfl, fle_of (fun p hp => ?_) (by rw [hm]; exact trivial)⟩
    simp only [List.mem_cons, List.not_mem_nil, or_false] at hp
    rcases hp with rfl | rfl | rfl | rfl | rfl
    · exact getSu_rel e0
    · exact getI_rel e2
    · exact getI_rel e3
    · exact getF_rel e4
    · exact getI_rel e1
  · cases h
noncomputable def n1_sum : SumF Try.prog 56 n1Root :=
  sumL (pathB n1Root 0) n1_dec (fun x => x.1.base) (fun x => n1_st x.1 x.2) n1_R n1_dec_ok (by
    intro code hc x
    have hc2 : code = .block 0 (.loop (bodyB n1Root 0)) := by
      have h : subR n1Root (pathB n1Root 0) = some (.block 0 (.loop (bodyB n1Root 0))) := by kernel_rfl
      rw [h] at hc; cases hc; rfl
    subst hc2
    exact n1_tri x)

structure Cm2 where
  n : Nat
  m : Nat
  f0 : Nat → Nat
  f1 : Nat → Nat
  f2 : Nat → Nat
  f3 : Nat → Nat
  f4 : Nat → Nat
  f5 : Nat → Nat
  f6 : Nat → Nat
  i : Int
  l : Int
  i2 : Int
def Cm2.base (c : Cm2) : Mem := [some (.cols c.m [.fl .f32 c.f0, .fl .f32 c.f1, .fl .f32 c.f2, .fl .f32 c.f3, .fl .f32 c.f4, .fl .f32 c.f5, .fl .f32 c.f6])]
structure Vm2 where
  k : Int
  a : Int
  b : Int
  d : Nat
noncomputable abbrev m2Root : Code := bodyOf Try.f72
def m2_st (c : Cm2) (v : Vm2) : FSt := ⟨[(0, .one (.su 0 7 0 c.n false)), (5, .one (.num .i64 v.a)), (6, .one (.num .i64 v.b)), (7, .one (.fl .f32 v.d)), (8, .one (.num .i64 c.i)), (9, .one (.num .i64 v.k)), (12, .one (.num .i64 c.l)), (13, .one (.num .i64 c.i2))], c.base ++ []⟩
def m2_step (c : Cm2) (v : Vm2) : T (Nx Vm2) :=
  .ite (decide (v.1 < ↑c.1)) (.need (decide (0 ≤ v.1) && decide (v.1 < ↑c.1)) (.need (decide (v.1.toNat + 0 < c.2)) (.need (decide (0 ≤ c.10) && decide (c.10 < ↑c.1)) (.need (decide (c.10.toNat + 0 < c.2)) (.leaf (.go { k := IntKind.i64.wrap (v.1 + 1), a := bif bif decide (v.2 < 0) then true else flt FloatKind.f32 (rootV (fadd FloatKind.f32 (fadd FloatKind.f32 (fmul FloatKind.f32 (fsub FloatKind.f32 (c.3 (v.1.toNat + 0)) (c.3 (c.10.toNat + 0))) (fsub FloatKind.f32 (c.3 (v.1.toNat + 0)) (c.3 (c.10.toNat + 0)))) (fmul FloatKind.f32 (fsub FloatKind.f32 (c.4 (v.1.toNat + 0)) (c.4 (c.10.toNat + 0))) (fsub FloatKind.f32 (c.4 (v.1.toNat + 0)) (c.4 (c.10.toNat + 0))))) (fmul FloatKind.f32 (fsub FloatKind.f32 (c.5 (v.1.toNat + 0)) (c.5 (c.10.toNat + 0))) (fsub FloatKind.f32 (c.5 (v.1.toNat + 0)) (c.5 (c.10.toNat + 0)))))) v.4 then c.10 else v.2, b := bif bif decide (v.2 < 0) then true else flt FloatKind.f32 (rootV (fadd FloatKind.f32 (fadd FloatKind.f32 (fmul FloatKind.f32 (fsub FloatKind.f32 (c.3 (v.1.toNat + 0)) (c.3 (c.10.toNat + 0))) (fsub FloatKind.f32 (c.3 (v.1.toNat + 0)) (c.3 (c.10.toNat + 0)))) (fmul FloatKind.f32 (fsub FloatKind.f32 (c.4 (v.1.toNat + 0)) (c.4 (c.10.toNat + 0))) (fsub FloatKind.f32 (c.4 (v.1.toNat + 0)) (c.4 (c.10.toNat + 0))))) (fmul FloatKind.f32 (fsub FloatKind.f32 (c.5 (v.1.toNat + 0)) (c.5 (c.10.toNat + 0))) (fsub FloatKind.f32 (c.5 (v.1.toNat + 0)) (c.5 (c.10.toNat + 0)))))) v.4 then v.1 else v.3, d := bif bif decide (v.2 < 0) then true else flt FloatKind.f32 (rootV (fadd FloatKind.f32 (fadd FloatKind.f32 (fmul FloatKind.f32 (fsub FloatKind.f32 (c.3 (v.1.toNat + 0)) (c.3 (c.10.toNat + 0))) (fsub FloatKind.f32 (c.3 (v.1.toNat + 0)) (c.3 (c.10.toNat + 0)))) (fmul FloatKind.f32 (fsub FloatKind.f32 (c.4 (v.1.toNat + 0)) (c.4 (c.10.toNat + 0))) (fsub FloatKind.f32 (c.4 (v.1.toNat + 0)) (c.4 (c.10.toNat + 0))))) (fmul FloatKind.f32 (fsub FloatKind.f32 (c.5 (v.1.toNat + 0)) (c.5 (c.10.toNat + 0))) (fsub FloatKind.f32 (c.5 (v.1.toNat + 0)) (c.5 (c.10.toNat + 0)))))) v.4 then rootV (fadd FloatKind.f32 (fadd FloatKind.f32 (fmul FloatKind.f32 (fsub FloatKind.f32 (c.3 (v.1.toNat + 0)) (c.3 (c.10.toNat + 0))) (fsub FloatKind.f32 (c.3 (v.1.toNat + 0)) (c.3 (c.10.toNat + 0)))) (fmul FloatKind.f32 (fsub FloatKind.f32 (c.4 (v.1.toNat + 0)) (c.4 (c.10.toNat + 0))) (fsub FloatKind.f32 (c.4 (v.1.toNat + 0)) (c.4 (c.10.toNat + 0))))) (fmul FloatKind.f32 (fsub FloatKind.f32 (c.5 (v.1.toNat + 0)) (c.5 (c.10.toNat + 0))) (fsub FloatKind.f32 (c.5 (v.1.toNat + 0)) (c.5 (c.10.toNat + 0))))) else v.4 })))))) (.leaf (.out (EX.exit 2) ⟨[(0, AV.one (SV.su 0 7 0 c.1 false)), (5, AV.one (SV.num IntKind.i64 v.2)), (6, AV.one (SV.num IntKind.i64 v.3)), (7, AV.one (SV.fl FloatKind.f32 v.4)), (8, AV.one (SV.num IntKind.i64 c.10)), (9, AV.one (SV.num IntKind.i64 v.1)), (12, AV.one (SV.num IntKind.i64 c.11)), (13, AV.one (SV.num IntKind.i64 c.12))], c.base ++ []⟩))
theorem m2_round (c : Cm2) (v : Vm2) : roundF Try.prog 50 [k_i_SizeOfVector, k_i_LessVectors] m2Root [] c.base [0, 2, 3, 4, 5, 6, 7, 8, 9, 10, 12, 13, 14, 21, 42, 198] [0, 5, 6, 7, 8, 9, 12, 13] 2 (m2_st c v) = (m2_step c v).map (nxF (m2_st c)) := by kernel_rfl
def m2_g (c : Cm2) (k : Nat) (a : Int × Int × Nat) : Int × Int × Nat := (bif nUp c.f0 c.f1 c.f2 c.i.toNat k a then c.i else a.1, bif nUp c.f0 c.f1 c.f2 c.i.toNat k a then (k : Int) else a.2.1, bif nUp c.f0 c.f1 c.f2 c.i.toNat k a then apart c.f0 c.f1 c.f2 c.i.toNat k else a.2.2)
def m2_ok (c : Cm2) (v : Vm2) : Bool := decide (c.n ≤ c.m ∧ c.n ≤ 1099511627776 ∧ 0 ≤ c.i ∧ c.i < (c.n : Int) ∧ 0 ≤ v.k ∧ v.k ≤ ((c.n : Nat) : Int))
def m2_fin (c : Cm2) (a : Int × Int × Nat) : FSt := m2_st c ({ k := (c.n : Int), a := a.1, b := a.2.1, d := a.2.2 })
noncomputable def m2_R (x : Cm2 × Vm2) : T (EX × FSt) := .need (m2_ok x.1 x.2) (.leaf (.normal, m2_fin x.1 (iter (m2_g x.1) (x.1.n - x.2.k.toNat) x.2.k.toNat (x.2.a, x.2.b, x.2.d))))
theorem m2_tri (x : Cm2 × Vm2) : TriR Try.prog 50 x.1.base (.block 2 (.loop (bodyB m2Root 2))) (m2_st x.1 x.2) (m2_R x) := by
  obtain ⟨c, v⟩ := x
  refine triR_of mix (root := m2Root) (by kernel_rfl) (by kernel_rfl) [0, 2, 3, 4, 5, 6, 7, 8, 9, 10, 12, 13, 14, 21, 42, 198] [0, 5, 6, 7, 8, 9, 12, 13] (m2_st c) (m2_step c) (m2_round c) v _ ((c.n - v.k.toNat) + 1) (fun Φ h => ?_)
  have h0 := h.1
  have h1 : Φ (.normal, m2_fin c (iter (m2_g c) (c.n - v.k.toNat) v.k.toNat (v.a, v.b, v.d))) := h.2
  simp only [m2_ok, decide_eq_true_eq] at h0
  obtain ⟨hk0, hk1, hk2, hk3, hi0, hin⟩ := h0
  have hv : v = (fun (j : Nat) (a : Int × Int × Nat) => ({ k := (j : Int), a := a.1, b := a.2.1, d := a.2.2 } : Vm2)) v.k.toNat (v.a, v.b, v.d) := by
    obtain ⟨k, a, b, d⟩ := v
    have hi0 : 0 ≤ k := hi0
    simp only [Int.toNat_of_nonneg hi0]
  have key := T_iter (m2_step c) (fun (j : Nat) (a : Int × Int × Nat) => ({ k := (j : Int), a := a.1, b := a.2.1, d := a.2.2 } : Vm2)) c.n (m2_g c) (fun a => (.exit 2, m2_fin c a)) (fun j a hj Ψ hΨ => ?_) (fun a Ψ hΨ => ?_) (fun a => by simp) (c.n - v.k.toNat) v.k.toNat (v.a, v.b, v.d) (by omega) (fun r => Φ (blkEx 2 r.1, r.2)) (by simpa [blkEx] using h1)
  · exact (congrArg (fun z => (loopTree (m2_step c) (c.n - v.k.toNat + 1) z).holds fun r => Φ (blkEx 2 r.1, r.2)) hv).mpr key
  · unfold m2_step
    refine (T.h_ite (fun _ => ?_) (fun hc => absurd hc (by simp <;> omega)))
    refine (T.h_need (by simp <;> omega) (T.h_need (by simp <;> omega) (T.h_need (by simp <;> omega) (T.h_need (by simp <;> omega) ?_))))
    refine T.h_leaf ?_
    rw [wrap_next (by omega)]
    exact hΨ
  · unfold m2_step
    refine (T.h_ite (fun hc => absurd hc (by simp <;> omega)) (fun _ => T.h_leaf hΨ.2))

def m2_dec (b : Mem) (f : FSt) : Option (Cm2 × Vm2) :=
  match getSu 0 7 (findF 0 f.sl), getI (findF 8 f.sl), getI (findF 12 f.sl), getI (findF 13 f.sl), getI (findF 9 f.sl), getI (findF 5 f.sl), getI (findF 6 f.sl), getF .f32 (findF 7 f.sl), id b, f.mem with
  | some (0, n_), some i_, some l_, some i2_, some q_k, some q_a, some q_b, some q_d, [some (.cols m_ [.fl .f32 f0_, .fl .f32 f1_, .fl .f32 f2_, .fl .f32 f3_, .fl .f32 f4_, .fl .f32 f5_, .fl .f32 f6_])], [_] => some ({ n := n_, m := m_, f0 := f0_, f1 := f1_, f2 := f2_, f3 := f3_, f4 := f4_, f5 := f5_, f6 := f6_, i := i_, l := l_, i2 := i2_ }, { k := q_k, a := q_a, b := q_b, d := q_d })
  | _, _, _, _, _, _, _, _, _, _ => none
theorem m2_dec_ok (b : Mem) (f : FSt) (x : Cm2 × Vm2) (h : m2_dec b f = some x) : b = x.1.base ∧ FLe b f (m2_st x.1 x.2) := by
  unfold m2_dec at h
  split at h
  · rename_i e0 e1 e2 e3 e4 e5 e6 e7 hb hm
    cases h
    have hb : b = _ := hb
    subst hb
    refine ⟨rfl, fle_of (fun p hp => ?_) (by rw [hm]; exact trivial)⟩
    simp only [List.mem_cons, List.not_mem_nil, or_false] at hp
    rcases hp with rfl | rfl | rfl | rfl | rfl | rfl | rfl | rfl
    · exact getSu_rel e0
    · exact getI_rel e5
    · exact getI_rel e6
    · exact getF_rel e7
    · exact getI_rel e1
    · exact getI_rel e4
    · exact getI_rel e2
    · exact getI_rel e3
  · cases h
noncomputable def m2_sum : SumF Try.prog 50 m2Root :=
  sumL (pathB m2Root 2) m2_dec (fun x => x.1.base) (fun x => m2_st x.1 x.2) m2_R m2_dec_ok (by
    intro code hc x
    have hc2 : code = .block 2 (.loop (bodyB m2Root 2)) := by
      have h : subR m2Root (pathB m2Root 2) = some (.block 2 (.loop (bodyB m2Root 2))) := by kernel_rfl
      rw [h] at hc; cases hc; rfl
    subst hc2
    exact m2_tri x)

structure Cm1 where
  n : Nat
  m : Nat
  f0 : Nat → Nat
  f1 : Nat → Nat
  f2 : Nat → Nat
  f3 : Nat → Nat
  f4 : Nat → Nat
  f5 : Nat → Nat
  f6 : Nat → Nat
  l : Int
def Cm1.base (c : Cm1) : Mem := [some (.cols c.m [.fl .f32 c.f0, .fl .f32 c.f1, .fl .f32 c.f2, .fl .f32 c.f3, .fl .f32 c.f4, .fl .f32 c.f5, .fl .f32 c.f6])]
structure Vm1 where
  i : Int
  a : Int
  b : Int
  d : Nat
noncomputable abbrev m1Root : Code := bodyOf Try.f72
def m1_st (c : Cm1) (v : Vm1) : FSt := ⟨[(0, .one (.su 0 7 0 c.n false)), (5, .one (.num .i64 v.a)), (6, .one (.num .i64 v.b)), (7, .one (.fl .f32 v.d)), (12, .one (.num .i64 c.l)), (13, .one (.num .i64 v.i))], c.base ++ []⟩
def m1_step (c : Cm1) (v : Vm1) : T (Nx Vm1) :=
  .ite (decide (v.1 < c.10)) (.need (m2_ok { n := c.1, m := c.2, f0 := c.3, f1 := c.4, f2 := c.5, f3 := c.6, f4 := c.7, f5 := c.8, f6 := c.9, i := v.1, l := c.10, i2 := v.1 } { k := IntKind.i64.wrap (v.1 + 1), a := v.2, b := v.3, d := v.4 }) (.leaf (.go { i := IntKind.i64.wrap (v.1 + 1), a := (iter (m2_g { n := c.1, m := c.2, f0 := c.3, f1 := c.4, f2 := c.5, f3 := c.6, f4 := c.7, f5 := c.8, f6 := c.9, i := v.1, l := c.10, i2 := v.1 }) (c.1 - (IntKind.i64.wrap (v.1 + 1)).toNat) (IntKind.i64.wrap (v.1 + 1)).toNat (v.2, v.3, v.4)).1, b := (iter (m2_g { n := c.1, m := c.2, f0 := c.3, f1 := c.4, f2 := c.5, f3 := c.6, f4 := c.7, f5 := c.8, f6 := c.9, i := v.1, l := c.10, i2 := v.1 }) (c.1 - (IntKind.i64.wrap (v.1 + 1)).toNat) (IntKind.i64.wrap (v.1 + 1)).toNat (v.2, v.3, v.4)).2.1, d := (iter (m2_g { n := c.1, m := c.2, f0 := c.3, f1 := c.4, f2 := c.5, f3 := c.6, f4 := c.7, f5 := c.8, f6 := c.9, i := v.1, l := c.10, i2 := v.1 }) (c.1 - (IntKind.i64.wrap (v.1 + 1)).toNat) (IntKind.i64.wrap (v.1 + 1)).toNat (v.2, v.3, v.4)).2.2 }))) (.leaf (.out (EX.exit 0) ⟨[(0, AV.one (SV.su 0 7 0 c.1 false)), (5, AV.one (SV.num IntKind.i64 v.2)), (6, AV.one (SV.num IntKind.i64 v.3)), (7, AV.one (SV.fl FloatKind.f32 v.4)), (12, AV.one (SV.num IntKind.i64 c.10)), (13, AV.one (SV.num IntKind.i64 v.1))], c.base ++ []⟩))
theorem m1_round (c : Cm1) (v : Vm1) : roundF Try.prog 50 [k_i_SizeOfVector, k_i_LessVectors] m1Root [m2_sum] c.base [0, 2, 3, 4, 5, 6, 7, 8, 9, 10, 12, 13, 14, 21, 42, 198] [0, 5, 6, 7, 12, 13] 0 (m1_st c v) = (m1_step c v).map (nxF (m1_st c)) := by kernel_rfl
def m1_g (c : Cm1) (i : Nat) (a : Int × Int × Nat) : Int × Int × Nat := iter (nPair c.f0 c.f1 c.f2 i) (c.n - (i + 1)) (i + 1) a
def m1_ok (c : Cm1) (v : Vm1) : Bool := decide (c.n ≤ c.m ∧ c.n ≤ 1099511627776 ∧ c.l = (c.n : Int) ∧ 0 ≤ v.i ∧ v.i ≤ ((c.n : Nat) : Int))
def m1_fin (c : Cm1) (a : Int × Int × Nat) : FSt := m1_st c ({ i := (c.n : Int), a := a.1, b := a.2.1, d := a.2.2 })
noncomputable def m1_R (x : Cm1 × Vm1) : T (EX × FSt) := .need (m1_ok x.1 x.2) (.leaf (.normal, m1_fin x.1 (iter (m1_g x.1) (x.1.n - x.2.i.toNat) x.2.i.toNat (x.2.a, x.2.b, x.2.d))))
theorem m1_tri (x : Cm1 × Vm1) : TriR Try.prog 50 x.1.base (.block 0 (.loop (bodyB m1Root 0))) (m1_st x.1 x.2) (m1_R x) := by
  obtain ⟨c, v⟩ := x
  refine triR_of mix (root := m1Root) (by kernel_rfl) (by kernel_rfl) [0, 2, 3, 4, 5, 6, 7, 8, 9, 10, 12, 13, 14, 21, 42, 198] [0, 5, 6, 7, 12, 13] (m1_st c) (m1_step c) (m1_round c) v _ ((c.n - v.i.toNat) + 1) (fun Φ h => ?_)
  have h0 := h.1
  have h1 : Φ (.normal, m1_fin c (iter (m1_g c) (c.n - v.i.toNat) v.i.toNat (v.a, v.b, v.d))) := h.2
  simp only [m1_ok, decide_eq_true_eq] at h0
  obtain ⟨hk0, hk1, hk2, hi0, hin⟩ := h0
  have hv : v = (fun (j : Nat) (a : Int × Int × Nat) => ({ i := (j : Int), a := a.1, b := a.2.1, d := a.2.2 } : Vm1)) v.i.toNat (v.a, v.b, v.d) := by
    obtain ⟨i, a, b, d⟩ := v
    have hi0 : 0 ≤ i := hi0
    simp only [Int.toNat_of_nonneg hi0]
  have key := T_iter (m1_step c) (fun (j : Nat) (a : Int × Int × Nat) => ({ i := (j : Int), a := a.1, b := a.2.1, d := a.2.2 } : Vm1)) c.n (m1_g c) (fun a => (.exit 0, m1_fin c a)) (fun j a hj Ψ hΨ => ?_) (fun a Ψ hΨ => ?_) (fun a => by simp) (c.n - v.i.toNat) v.i.toNat (v.a, v.b, v.d) (by omega) (fun r => Φ (blkEx 0 r.1, r.2)) (by simpa [blkEx] using h1)
  · exact (congrArg (fun z => (loopTree (m1_step c) (c.n - v.i.toNat + 1) z).holds fun r => Φ (blkEx 0 r.1, r.2)) hv).mpr key
  · unfold m1_step
    refine (T.h_ite (fun _ => ?_) (fun hc => absurd hc (by simp <;> omega)))
    refine (T.h_need (by rw [wrap_next (by omega)]; simp [m2_ok] <;> omega) ?_)
    refine T.h_leaf ?_
    rw [wrap_next (by omega)]
    exact hΨ
  · unfold m1_step
    refine (T.h_ite (fun hc => absurd hc (by simp <;> omega)) (fun _ => T.h_leaf hΨ.2))

def m1_dec (b : Mem) (f : FSt) : Option (Cm1 × Vm1) :=
  match getSu 0 7 (findF 0 f.sl), getI (findF 12 f.sl), getI (findF 13 f.sl), getI (findF 5 f.sl), getI (findF 6 f.sl), getF .f32 (findF 7 f.sl), id b, f.mem with
  | some (0, n_), some l_, some q_i, some q_a, some q_b, some q_d, [some (.cols m_ [.fl .f32 f0_, .fl .f32 f1_, .fl .f32 f2_, .fl .f32 f3_, .fl .f32 f4_, .fl .f32 f5_, .fl .f32 f6_])], [_] => some ({ n := n_, m := m_, f0 := f0_, f1 := f1_, f2 := f2_, f3 := f3_, f4 := f4_, f5 := f5_, f6 := f6_, l := l_ }, { i := q_i, a := q_a, b := q_b, d := q_d })
  | _, _, _, _, _, _, _, _ => none
theorem m1_dec_ok (b : Mem) (f : FSt) (x : Cm1 × Vm1) (h : m1_dec b f = some x) : b = x.1.base ∧ FLe b f (m1_st x.1 x.2) := by
  unfold m1_dec at h
  split at h
  · rename_i e0 e1 e2 e3 e4 e5 hb hm
    cases h
    have hb : b = _ := hb
    subst hb
    refine ⟨rfl, fle_of (fun p hp => ?_) (by rw [hm]; exact trivial)⟩
    simp only [List.mem_cons, List.not_mem_nil, or_false] at hp
    rcases hp with rfl | rfl | rfl | rfl | rfl | rfl
    · exact getSu_rel e0
    · exact getI_rel e3
    · exact getI_rel e4
    · exact getF_rel e5
    · exact getI_rel e1
    · exact getI_rel e2
  · cases h
noncomputable def m1_sum : SumF Try.prog 50 m1Root :=
  sumL (pathB m1Root 0) m1_dec (fun x => x.1.base) (fun x => m1_st x.1 x.2) m1_R m1_dec_ok (by
    intro code hc x
    have hc2 : code = .block 0 (.loop (bodyB m1Root 0)) := by
      have h : subR m1Root (pathB m1Root 0) = some (.block 0 (.loop (bodyB m1Root 0))) := by kernel_rfl
      rw [h] at hc; cases hc; rfl
    subst hc2
    exact m1_tri x)


end Go.Proofs.Ytjcofjelfaoecaa
