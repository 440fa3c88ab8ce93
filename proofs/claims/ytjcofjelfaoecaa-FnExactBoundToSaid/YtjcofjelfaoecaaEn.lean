/-
  EnergyOfBodies: the loops of both sides. No conditions.
-/
import Derived.Test.YtjcofjelfaoecaaAi
import Derived.Test.YtjcofjelfaoecaaLs
import Derived.Test.YtjcofjelfaoecaaFi
namespace Go.Proofs.Ytjcofjelfaoecaa
set_option linter.unusedVariables false
set_option linter.unusedSimpArgs false
open Go.RowKit

def inner (a b c x y z : Nat) : Nat := fadd .f32 (fadd .f32 (fmul .f32 a x) (fmul .f32 b y)) (fmul .f32 c z)
noncomputable def k_s_l01VInner : Ctr Try.prog := (mkF Try.prog mix [] 52 Try.f52 (bodyOf Try.f52) Try.func52 (by kernel_rfl) (by kernel_rfl) [0, 1, 2, 3, 4] 22 (by kernel_rfl) (by kernel_rfl)).mg
noncomputable def k_s_l01VLess : Ctr Try.prog := (mkF Try.prog mix [] 51 Try.f51 (bodyOf Try.f51) Try.func51 (by kernel_rfl) (by kernel_rfl) [0, 1, 2, 3, 4] 21 (by kernel_rfl) (by kernel_rfl)).mg
noncomputable def k_s_l02Number : Ctr Try.prog := (mkF Try.prog mix [k_l01Finite] 66 Try.f66 (bodyOf Try.f66) Try.func66 (by kernel_rfl) (by kernel_rfl) [0, 2, 3, 6] 8 (by kernel_rfl) (by kernel_rfl)).mg
noncomputable def k_i_InnerOf : Ctr Try.prog := (mkF Try.prog mix [] 59 Try.f59 (bodyOf Try.f59) Try.func59 (by kernel_rfl) (by kernel_rfl) [0, 1, 2, 3, 4] 22 (by kernel_rfl) (by kernel_rfl)).mg
noncomputable def k_i_LessVectors : Ctr Try.prog := (mkF Try.prog mix [] 58 Try.f58 (bodyOf Try.f58) Try.func58 (by kernel_rfl) (by kernel_rfl) [0, 1, 2, 3, 4] 21 (by kernel_rfl) (by kernel_rfl)).mg
noncomputable def k_i_softened : Ctr Try.prog := (mkF Try.prog mix [k_i_InnerOf] 68 Try.f68 (bodyOf Try.f68) Try.func68 (by kernel_rfl) (by kernel_rfl) [0, 1, 2, 4] 12 (by kernel_rfl) (by kernel_rfl)).mg
noncomputable def k_i_isCore : Ctr Try.prog := (mkF Try.prog mix [k_IsFinite] 67 Try.f67 (bodyOf Try.f67) Try.func67 (by kernel_rfl) (by kernel_rfl) [0, 2] 9 (by kernel_rfl) (by kernel_rfl)).mg
noncomputable def k_i_told : Ctr Try.prog := (mkF Try.prog mix [k_IsFinite] 70 Try.f70 (bodyOf Try.f70) Try.func70 (by kernel_rfl) (by kernel_rfl) [0, 2, 3, 6] 8 (by kernel_rfl) (by kernel_rfl)).mg
structure Ce1 where
  n : Nat
  m : Nat
  f0 : Nat → Nat
  f1 : Nat → Nat
  f2 : Nat → Nat
  f3 : Nat → Nat
  f4 : Nat → Nat
  f5 : Nat → Nat
  f6 : Nat → Nat
  core : Nat
def Ce1.base (c : Ce1) : Mem := [some (.cols c.m [.fl .f32 c.f0, .fl .f32 c.f1, .fl .f32 c.f2, .fl .f32 c.f3, .fl .f32 c.f4, .fl .f32 c.f5, .fl .f32 c.f6])]
structure Ve1 where
  i : Int
  a : Nat
noncomputable abbrev e1Root : Code := bodyOf Try.f20
def e1_st (c : Ce1) (v : Ve1) : FSt := ⟨[(0, .one (.su 0 7 0 c.n false)), (1, .one (.fl .f32 c.core)), (6, .one (.fl .f32 v.a)), (7, .one (.num .i64 v.i))], c.base ++ []⟩
def e1_step (c : Ce1) (v : Ve1) : T (Nx Ve1) :=
  .ite (decide (v.1 < ↑c.1)) (.need (decide (0 ≤ v.1) && decide (v.1 < ↑c.1)) (.need (decide (v.1.toNat + 0 < c.2)) (.need (decide (0 ≤ v.1) && decide (v.1 < ↑c.1)) (.need (decide (v.1.toNat + 0 < c.2)) (.need (decide (0 ≤ v.1) && decide (v.1 < ↑c.1)) (.need (decide (v.1.toNat + 0 < c.2)) (.leaf (.go { i := IntKind.i64.wrap (v.1 + 1), a := fadd FloatKind.f32 v.2 (fmul FloatKind.f32 (fmul FloatKind.f32 (canon FloatKind.f32 1056964608) (c.9 (v.1.toNat + 0))) (fadd FloatKind.f32 (fadd FloatKind.f32 (fmul FloatKind.f32 (c.6 (v.1.toNat + 0)) (c.6 (v.1.toNat + 0))) (fmul FloatKind.f32 (c.7 (v.1.toNat + 0)) (c.7 (v.1.toNat + 0)))) (fmul FloatKind.f32 (c.8 (v.1.toNat + 0)) (c.8 (v.1.toNat + 0))))) })))))))) (.leaf (.out (EX.exit 0) ⟨[(0, AV.one (SV.su 0 7 0 c.1 false)), (1, AV.one (SV.fl FloatKind.f32 c.10)), (6, AV.one (SV.fl FloatKind.f32 v.2)), (7, AV.one (SV.num IntKind.i64 v.1))], c.base ++ []⟩))
theorem e1_round (c : Ce1) (v : Ve1) : roundF Try.prog 100 [k_s_l01VInner] e1Root [] c.base [0, 1, 4, 5, 6, 7, 8, 9, 10, 11, 19, 23, 49, 57, 79, 198] [0, 1, 6, 7] 0 (e1_st c v) = (e1_step c v).map (nxF (e1_st c)) := by kernel_rfl
def eOne (c : Ce1) (j : Nat) (a : Nat) : Nat := fadd .f32 a (fmul .f32 (fmul .f32 1056964608 (c.f6 j)) (inner (c.f3 j) (c.f4 j) (c.f5 j) (c.f3 j) (c.f4 j) (c.f5 j)))
def e1_ok (c : Ce1) (v : Ve1) : Bool := decide (c.n ≤ c.m ∧ c.n ≤ 1099511627776 ∧ 0 ≤ v.i ∧ v.i ≤ ((c.n : Nat) : Int))
def e1_fin (c : Ce1) (a : Nat) : FSt := e1_st c ({ i := (c.n : Int), a := a })
noncomputable def e1_R (x : Ce1 × Ve1) : T (EX × FSt) := .need (e1_ok x.1 x.2) (.leaf (.normal, e1_fin x.1 (iter (eOne x.1) (x.1.n - x.2.i.toNat) x.2.i.toNat x.2.a)))
theorem e1_tri (x : Ce1 × Ve1) : TriR Try.prog 100 x.1.base (.block 0 (.loop (bodyB e1Root 0))) (e1_st x.1 x.2) (e1_R x) := by
  obtain ⟨c, v⟩ := x
  refine triR_of mix (root := e1Root) (by kernel_rfl) (by kernel_rfl) [0, 1, 4, 5, 6, 7, 8, 9, 10, 11, 19, 23, 49, 57, 79, 198] [0, 1, 6, 7] (e1_st c) (e1_step c) (e1_round c) v _ ((c.n - v.i.toNat) + 1) (fun Φ h => ?_)
  have h0 := h.1
  have h1 : Φ (.normal, e1_fin c (iter (eOne c) (c.n - v.i.toNat) v.i.toNat v.a)) := h.2
  simp only [e1_ok, decide_eq_true_eq] at h0
  obtain ⟨hk0, hk1, hi0, hin⟩ := h0
  have hv : v = (fun (j : Nat) (a : Nat) => ({ i := (j : Int), a := a } : Ve1)) v.i.toNat v.a := by
    obtain ⟨i, a⟩ := v
    have hi0 : 0 ≤ i := hi0
    simp only [Int.toNat_of_nonneg hi0]
  have key := T_iter (e1_step c) (fun (j : Nat) (a : Nat) => ({ i := (j : Int), a := a } : Ve1)) c.n (eOne c) (fun a => (.exit 0, e1_fin c a)) (fun j a hj Ψ hΨ => ?_) (fun a Ψ hΨ => ?_) (fun a => by simp) (c.n - v.i.toNat) v.i.toNat v.a (by omega) (fun r => Φ (blkEx 0 r.1, r.2)) (by simpa [blkEx] using h1)
  · exact (congrArg (fun z => (loopTree (e1_step c) (c.n - v.i.toNat + 1) z).holds fun r => Φ (blkEx 0 r.1, r.2)) hv).mpr key
  · unfold e1_step
    refine (T.h_ite (fun _ => ?_) (fun hc => absurd hc (by simp <;> omega)))
    refine (T.h_need (by simp <;> omega) (T.h_need (by simp <;> omega) (T.h_need (by simp <;> omega) (T.h_need (by simp <;> omega) (T.h_need (by simp <;> omega) (T.h_need (by simp <;> omega) ?_))))))
    refine T.h_leaf ?_
    rw [wrap_next (by omega)]
    exact hΨ
  · unfold e1_step
    refine (T.h_ite (fun hc => absurd hc (by simp <;> omega)) (fun _ => T.h_leaf hΨ.2))

def e1_dec (b : Mem) (f : FSt) : Option (Ce1 × Ve1) :=
  match getSu 0 7 (findF 0 f.sl), getF .f32 (findF 1 f.sl), getI (findF 7 f.sl), getF .f32 (findF 6 f.sl), id b, f.mem with
  | some (0, n_), some core_, some q_i, some q_a, [some (.cols m_ [.fl .f32 f0_, .fl .f32 f1_, .fl .f32 f2_, .fl .f32 f3_, .fl .f32 f4_, .fl .f32 f5_, .fl .f32 f6_])], [_] => some ({ n := n_, m := m_, f0 := f0_, f1 := f1_, f2 := f2_, f3 := f3_, f4 := f4_, f5 := f5_, f6 := f6_, core := core_ }, { i := q_i, a := q_a })
  | _, _, _, _, _, _ => none
theorem e1_dec_ok (b : Mem) (f : FSt) (x : Ce1 × Ve1) (h : e1_dec b f = some x) : b = x.1.base ∧ FLe b f (e1_st x.1 x.2) := by
  unfold e1_dec at h
  split at h
  · rename_i e0 e1 e2 e3 hb hm
    cases h
    have hb : b = _ := hb
    subst hb
    refine ⟨rfl, fle_of (fun p hp => ?_) (by rw [hm]; exact trivial)⟩
    simp only [List.mem_cons, List.not_mem_nil, or_false] at hp
    rcases hp with rfl | rfl | rfl | rfl
    · exact getSu_rel e0
    · exact getF_rel e1
    · exact getF_rel e3
    · exact getI_rel e2
  · cases h
noncomputable def e1_sum : SumF Try.prog 100 e1Root :=
  sumL (pathB e1Root 0) e1_dec (fun x => x.1.base) (fun x => e1_st x.1 x.2) e1_R e1_dec_ok (by
    intro code hc x
    have hc2 : code = .block 0 (.loop (bodyB e1Root 0)) := by
      have h : subR e1Root (pathB e1Root 0) = some (.block 0 (.loop (bodyB e1Root 0))) := by kernel_rfl
      rw [h] at hc; cases hc; rfl
    subst hc2
    exact e1_tri x)

structure Ce3 where
  n : Nat
  m : Nat
  f0 : Nat → Nat
  f1 : Nat → Nat
  f2 : Nat → Nat
  f3 : Nat → Nat
  f4 : Nat → Nat
  f5 : Nat → Nat
  f6 : Nat → Nat
  core : Nat
  i : Int
def Ce3.base (c : Ce3) : Mem := [some (.cols c.m [.fl .f32 c.f0, .fl .f32 c.f1, .fl .f32 c.f2, .fl .f32 c.f3, .fl .f32 c.f4, .fl .f32 c.f5, .fl .f32 c.f6])]
structure Ve3 where
  k : Int
  a : Nat
noncomputable abbrev e3Root : Code := bodyOf Try.f20
def e3_st (c : Ce3) (v : Ve3) : FSt := ⟨[(0, .one (.su 0 7 0 c.n false)), (1, .one (.fl .f32 c.core)), (6, .one (.fl .f32 v.a)), (8, .one (.num .i64 c.i)), (9, .one (.num .i64 v.k))], c.base ++ []⟩
def e3_step (c : Ce3) (v : Ve3) : T (Nx Ve3) :=
  .ite (decide (v.1 < ↑c.1)) (.need (decide (0 ≤ v.1) && decide (v.1 < ↑c.1)) (.need (decide (v.1.toNat + 0 < c.2)) (.need (decide (0 ≤ c.11) && decide (c.11 < ↑c.1)) (.need (decide (c.11.toNat + 0 < c.2)) (.need (bif fgt FloatKind.f32 (fadd FloatKind.f32 (fadd FloatKind.f32 (fadd FloatKind.f32 (fmul FloatKind.f32 (fsub FloatKind.f32 (c.3 (v.1.toNat + 0)) (c.3 (c.11.toNat + 0))) (fsub FloatKind.f32 (c.3 (v.1.toNat + 0)) (c.3 (c.11.toNat + 0)))) (fmul FloatKind.f32 (fsub FloatKind.f32 (c.4 (v.1.toNat + 0)) (c.4 (c.11.toNat + 0))) (fsub FloatKind.f32 (c.4 (v.1.toNat + 0)) (c.4 (c.11.toNat + 0))))) (fmul FloatKind.f32 (fsub FloatKind.f32 (c.5 (v.1.toNat + 0)) (c.5 (c.11.toNat + 0))) (fsub FloatKind.f32 (c.5 (v.1.toNat + 0)) (c.5 (c.11.toNat + 0))))) (fmul FloatKind.f32 c.10 c.10)) (canon FloatKind.f32 0) then decide (0 ≤ c.11) && decide (c.11 < ↑c.1) else true) (.need (bif fgt FloatKind.f32 (fadd FloatKind.f32 (fadd FloatKind.f32 (fadd FloatKind.f32 (fmul FloatKind.f32 (fsub FloatKind.f32 (c.3 (v.1.toNat + 0)) (c.3 (c.11.toNat + 0))) (fsub FloatKind.f32 (c.3 (v.1.toNat + 0)) (c.3 (c.11.toNat + 0)))) (fmul FloatKind.f32 (fsub FloatKind.f32 (c.4 (v.1.toNat + 0)) (c.4 (c.11.toNat + 0))) (fsub FloatKind.f32 (c.4 (v.1.toNat + 0)) (c.4 (c.11.toNat + 0))))) (fmul FloatKind.f32 (fsub FloatKind.f32 (c.5 (v.1.toNat + 0)) (c.5 (c.11.toNat + 0))) (fsub FloatKind.f32 (c.5 (v.1.toNat + 0)) (c.5 (c.11.toNat + 0))))) (fmul FloatKind.f32 c.10 c.10)) (canon FloatKind.f32 0) then decide (c.11.toNat + 0 < c.2) else true) (.need (bif fgt FloatKind.f32 (fadd FloatKind.f32 (fadd FloatKind.f32 (fadd FloatKind.f32 (fmul FloatKind.f32 (fsub FloatKind.f32 (c.3 (v.1.toNat + 0)) (c.3 (c.11.toNat + 0))) (fsub FloatKind.f32 (c.3 (v.1.toNat + 0)) (c.3 (c.11.toNat + 0)))) (fmul FloatKind.f32 (fsub FloatKind.f32 (c.4 (v.1.toNat + 0)) (c.4 (c.11.toNat + 0))) (fsub FloatKind.f32 (c.4 (v.1.toNat + 0)) (c.4 (c.11.toNat + 0))))) (fmul FloatKind.f32 (fsub FloatKind.f32 (c.5 (v.1.toNat + 0)) (c.5 (c.11.toNat + 0))) (fsub FloatKind.f32 (c.5 (v.1.toNat + 0)) (c.5 (c.11.toNat + 0))))) (fmul FloatKind.f32 c.10 c.10)) (canon FloatKind.f32 0) then decide (0 ≤ v.1) && decide (v.1 < ↑c.1) else true) (.need (bif fgt FloatKind.f32 (fadd FloatKind.f32 (fadd FloatKind.f32 (fadd FloatKind.f32 (fmul FloatKind.f32 (fsub FloatKind.f32 (c.3 (v.1.toNat + 0)) (c.3 (c.11.toNat + 0))) (fsub FloatKind.f32 (c.3 (v.1.toNat + 0)) (c.3 (c.11.toNat + 0)))) (fmul FloatKind.f32 (fsub FloatKind.f32 (c.4 (v.1.toNat + 0)) (c.4 (c.11.toNat + 0))) (fsub FloatKind.f32 (c.4 (v.1.toNat + 0)) (c.4 (c.11.toNat + 0))))) (fmul FloatKind.f32 (fsub FloatKind.f32 (c.5 (v.1.toNat + 0)) (c.5 (c.11.toNat + 0))) (fsub FloatKind.f32 (c.5 (v.1.toNat + 0)) (c.5 (c.11.toNat + 0))))) (fmul FloatKind.f32 c.10 c.10)) (canon FloatKind.f32 0) then decide (v.1.toNat + 0 < c.2) else true) (.leaf (.go { k := IntKind.i64.wrap (v.1 + 1), a := bif fgt FloatKind.f32 (fadd FloatKind.f32 (fadd FloatKind.f32 (fadd FloatKind.f32 (fmul FloatKind.f32 (fsub FloatKind.f32 (c.3 (v.1.toNat + 0)) (c.3 (c.11.toNat + 0))) (fsub FloatKind.f32 (c.3 (v.1.toNat + 0)) (c.3 (c.11.toNat + 0)))) (fmul FloatKind.f32 (fsub FloatKind.f32 (c.4 (v.1.toNat + 0)) (c.4 (c.11.toNat + 0))) (fsub FloatKind.f32 (c.4 (v.1.toNat + 0)) (c.4 (c.11.toNat + 0))))) (fmul FloatKind.f32 (fsub FloatKind.f32 (c.5 (v.1.toNat + 0)) (c.5 (c.11.toNat + 0))) (fsub FloatKind.f32 (c.5 (v.1.toNat + 0)) (c.5 (c.11.toNat + 0))))) (fmul FloatKind.f32 c.10 c.10)) (canon FloatKind.f32 0) then fsub FloatKind.f32 v.2 (fdiv FloatKind.f32 (fmul FloatKind.f32 (c.9 (c.11.toNat + 0)) (c.9 (v.1.toNat + 0))) (rootV (fadd FloatKind.f32 (fadd FloatKind.f32 (fadd FloatKind.f32 (fmul FloatKind.f32 (fsub FloatKind.f32 (c.3 (v.1.toNat + 0)) (c.3 (c.11.toNat + 0))) (fsub FloatKind.f32 (c.3 (v.1.toNat + 0)) (c.3 (c.11.toNat + 0)))) (fmul FloatKind.f32 (fsub FloatKind.f32 (c.4 (v.1.toNat + 0)) (c.4 (c.11.toNat + 0))) (fsub FloatKind.f32 (c.4 (v.1.toNat + 0)) (c.4 (c.11.toNat + 0))))) (fmul FloatKind.f32 (fsub FloatKind.f32 (c.5 (v.1.toNat + 0)) (c.5 (c.11.toNat + 0))) (fsub FloatKind.f32 (c.5 (v.1.toNat + 0)) (c.5 (c.11.toNat + 0))))) (fmul FloatKind.f32 c.10 c.10)))) else v.2 })))))))))) (.leaf (.out (EX.exit 4) ⟨[(0, AV.one (SV.su 0 7 0 c.1 false)), (1, AV.one (SV.fl FloatKind.f32 c.10)), (6, AV.one (SV.fl FloatKind.f32 v.2)), (8, AV.one (SV.num IntKind.i64 c.11)), (9, AV.one (SV.num IntKind.i64 v.1))], c.base ++ []⟩))
theorem e3_round (c : Ce3) (v : Ve3) : roundF Try.prog 100 [k_s_l01VInner, k_s_l01VLess, k_l01Sqrt] e3Root [] c.base [0, 1, 4, 5, 6, 7, 8, 9, 10, 11, 19, 23, 49, 57, 79, 198] [0, 1, 6, 8, 9] 4 (e3_st c v) = (e3_step c v).map (nxF (e3_st c)) := by kernel_rfl
def eQ (f0 f1 f2 : Nat → Nat) (core i k : Nat) : Nat := fadd .f32 (inner (fsub .f32 (f0 k) (f0 i)) (fsub .f32 (f1 k) (f1 i)) (fsub .f32 (f2 k) (f2 i)) (fsub .f32 (f0 k) (f0 i)) (fsub .f32 (f1 k) (f1 i)) (fsub .f32 (f2 k) (f2 i))) (fmul .f32 core core)
def ePair (f0 f1 f2 f6 : Nat → Nat) (core i k a : Nat) : Nat := bif fgt .f32 (eQ f0 f1 f2 core i k) 0 then fsub .f32 a (fdiv .f32 (fmul .f32 (f6 i) (f6 k)) (rootV (eQ f0 f1 f2 core i k))) else a
def e3_g (c : Ce3) (k a : Nat) : Nat := ePair c.f0 c.f1 c.f2 c.f6 c.core c.i.toNat k a
def e3_ok (c : Ce3) (v : Ve3) : Bool := decide (c.n ≤ c.m ∧ c.n ≤ 1099511627776 ∧ 0 ≤ c.i ∧ c.i < (c.n : Int) ∧ 0 ≤ v.k ∧ v.k ≤ ((c.n : Nat) : Int))
def e3_fin (c : Ce3) (a : Nat) : FSt := e3_st c ({ k := (c.n : Int), a := a })
noncomputable def e3_R (x : Ce3 × Ve3) : T (EX × FSt) := .need (e3_ok x.1 x.2) (.leaf (.normal, e3_fin x.1 (iter (e3_g x.1) (x.1.n - x.2.k.toNat) x.2.k.toNat x.2.a)))
theorem e3_tri (x : Ce3 × Ve3) : TriR Try.prog 100 x.1.base (.block 4 (.loop (bodyB e3Root 4))) (e3_st x.1 x.2) (e3_R x) := by
  obtain ⟨c, v⟩ := x
  refine triR_of mix (root := e3Root) (by kernel_rfl) (by kernel_rfl) [0, 1, 4, 5, 6, 7, 8, 9, 10, 11, 19, 23, 49, 57, 79, 198] [0, 1, 6, 8, 9] (e3_st c) (e3_step c) (e3_round c) v _ ((c.n - v.k.toNat) + 1) (fun Φ h => ?_)
  have h0 := h.1
  have h1 : Φ (.normal, e3_fin c (iter (e3_g c) (c.n - v.k.toNat) v.k.toNat v.a)) := h.2
  simp only [e3_ok, decide_eq_true_eq] at h0
  obtain ⟨hk0, hk1, hk2, hk3, hi0, hin⟩ := h0
  have hv : v = (fun (j : Nat) (a : Nat) => ({ k := (j : Int), a := a } : Ve3)) v.k.toNat v.a := by
    obtain ⟨k, a⟩ := v
    have hi0 : 0 ≤ k := hi0
    simp only [Int.toNat_of_nonneg hi0]
  have key := T_iter (e3_step c) (fun (j : Nat) (a : Nat) => ({ k := (j : Int), a := a } : Ve3)) c.n (e3_g c) (fun a => (.exit 4, e3_fin c a)) (fun j a hj Ψ hΨ => ?_) (fun a Ψ hΨ => ?_) (fun a => by simp) (c.n - v.k.toNat) v.k.toNat v.a (by omega) (fun r => Φ (blkEx 4 r.1, r.2)) (by simpa [blkEx] using h1)
  · exact (congrArg (fun z => (loopTree (e3_step c) (c.n - v.k.toNat + 1) z).holds fun r => Φ (blkEx 4 r.1, r.2)) hv).mpr key
  · unfold e3_step
    refine (T.h_ite (fun _ => ?_) (fun hc => absurd hc (by simp <;> omega)))
    refine (T.h_need (by simp <;> omega) (T.h_need (by simp <;> omega) (T.h_need (by simp <;> omega) (T.h_need (by simp <;> omega) (T.h_need (needE fun _ => (by simp <;> omega)) (T.h_need (needE fun _ => (by simp <;> omega)) (T.h_need (needE fun _ => (by simp <;> omega)) (T.h_need (needE fun _ => (by simp <;> omega)) ?_))))))))
    refine T.h_leaf ?_
    rw [wrap_next (by omega)]
    exact hΨ
  · unfold e3_step
    refine (T.h_ite (fun hc => absurd hc (by simp <;> omega)) (fun _ => T.h_leaf hΨ.2))

def e3_dec (b : Mem) (f : FSt) : Option (Ce3 × Ve3) :=
  match getSu 0 7 (findF 0 f.sl), getF .f32 (findF 1 f.sl), getI (findF 8 f.sl), getI (findF 9 f.sl), getF .f32 (findF 6 f.sl), id b, f.mem with
  | some (0, n_), some core_, some i_, some q_k, some q_a, [some (.cols m_ [.fl .f32 f0_, .fl .f32 f1_, .fl .f32 f2_, .fl .f32 f3_, .fl .f32 f4_, .fl .f32 f5_, .fl .f32 f6_])], [_] => some ({ n := n_, m := m_, f0 := f0_, f1 := f1_, f2 := f2_, f3 := f3_, f4 := f4_, f5 := f5_, f6 := f6_, core := core_, i := i_ }, { k := q_k, a := q_a })
  | _, _, _, _, _, _, _ => none
theorem e3_dec_ok (b : Mem) (f : FSt) (x : Ce3 × Ve3) (h : e3_dec b f = some x) : b = x.1.base ∧ FLe b f (e3_st x.1 x.2) := by
  unfold e3_dec at h
  split at h
  · rename_i e0 e1 e2 e3 e4 hb hm
    cases h
    have hb : b = _ := hb
    subst hb
    refine ⟨rfl, fle_of (fun p hp => ?_) (by rw [hm]; exact trivial)⟩
    simp only [List.mem_cons, List.not_mem_nil, or_false] at hp
    rcases hp with rfl | rfl | rfl | rfl | rfl
    · exact getSu_rel e0
    · exact getF_rel e1
    · exact getF_rel e4
    · exact getI_rel e2
    · exact getI_rel e3
  · cases h
noncomputable def e3_sum : SumF Try.prog 100 e3Root :=
  sumL (pathB e3Root 4) e3_dec (fun x => x.1.base) (fun x => e3_st x.1 x.2) e3_R e3_dec_ok (by
    intro code hc x
    have hc2 : code = .block 4 (.loop (bodyB e3Root 4)) := by
      have h : subR e3Root (pathB e3Root 4) = some (.block 4 (.loop (bodyB e3Root 4))) := by kernel_rfl
      rw [h] at hc; cases hc; rfl
    subst hc2
    exact e3_tri x)

structure Ce2 where
  n : Nat
  m : Nat
  f0 : Nat → Nat
  f1 : Nat → Nat
  f2 : Nat → Nat
  f3 : Nat → Nat
  f4 : Nat → Nat
  f5 : Nat → Nat
  f6 : Nat → Nat
  core : Nat
def Ce2.base (c : Ce2) : Mem := [some (.cols c.m [.fl .f32 c.f0, .fl .f32 c.f1, .fl .f32 c.f2, .fl .f32 c.f3, .fl .f32 c.f4, .fl .f32 c.f5, .fl .f32 c.f6])]
structure Ve2 where
  i : Int
  a : Nat
noncomputable abbrev e2Root : Code := bodyOf Try.f20
def e2_st (c : Ce2) (v : Ve2) : FSt := ⟨[(0, .one (.su 0 7 0 c.n false)), (1, .one (.fl .f32 c.core)), (6, .one (.fl .f32 v.a)), (8, .one (.num .i64 v.i))], c.base ++ []⟩
def e2_step (c : Ce2) (v : Ve2) : T (Nx Ve2) :=
  .ite (decide (v.1 < ↑c.1)) (.need (e3_ok { n := c.1, m := c.2, f0 := c.3, f1 := c.4, f2 := c.5, f3 := c.6, f4 := c.7, f5 := c.8, f6 := c.9, core := c.10, i := v.1 } { k := IntKind.i64.wrap (v.1 + 1), a := v.2 }) (.leaf (.go { i := IntKind.i64.wrap (v.1 + 1), a := iter (e3_g { n := c.1, m := c.2, f0 := c.3, f1 := c.4, f2 := c.5, f3 := c.6, f4 := c.7, f5 := c.8, f6 := c.9, core := c.10, i := v.1 }) (c.1 - (IntKind.i64.wrap (v.1 + 1)).toNat) (IntKind.i64.wrap (v.1 + 1)).toNat v.2 }))) (.leaf (.out (EX.exit 2) ⟨[(0, AV.one (SV.su 0 7 0 c.1 false)), (1, AV.one (SV.fl FloatKind.f32 c.10)), (6, AV.one (SV.fl FloatKind.f32 v.2)), (8, AV.one (SV.num IntKind.i64 v.1))], c.base ++ []⟩))
theorem e2_round (c : Ce2) (v : Ve2) : roundF Try.prog 100 [k_s_l01VInner, k_s_l01VLess, k_l01Sqrt] e2Root [e3_sum] c.base [0, 1, 4, 5, 6, 7, 8, 9, 10, 11, 19, 23, 49, 57, 79, 198] [0, 1, 6, 8] 2 (e2_st c v) = (e2_step c v).map (nxF (e2_st c)) := by kernel_rfl
def e2_g (c : Ce2) (i a : Nat) : Nat := iter (ePair c.f0 c.f1 c.f2 c.f6 c.core i) (c.n - (i + 1)) (i + 1) a
def e2_ok (c : Ce2) (v : Ve2) : Bool := decide (c.n ≤ c.m ∧ c.n ≤ 1099511627776 ∧ 0 ≤ v.i ∧ v.i ≤ ((c.n : Nat) : Int))
def e2_fin (c : Ce2) (a : Nat) : FSt := e2_st c ({ i := (c.n : Int), a := a })
noncomputable def e2_R (x : Ce2 × Ve2) : T (EX × FSt) := .need (e2_ok x.1 x.2) (.leaf (.normal, e2_fin x.1 (iter (e2_g x.1) (x.1.n - x.2.i.toNat) x.2.i.toNat x.2.a)))
theorem e2_tri (x : Ce2 × Ve2) : TriR Try.prog 100 x.1.base (.block 2 (.loop (bodyB e2Root 2))) (e2_st x.1 x.2) (e2_R x) := by
  obtain ⟨c, v⟩ := x
  refine triR_of mix (root := e2Root) (by kernel_rfl) (by kernel_rfl) [0, 1, 4, 5, 6, 7, 8, 9, 10, 11, 19, 23, 49, 57, 79, 198] [0, 1, 6, 8] (e2_st c) (e2_step c) (e2_round c) v _ ((c.n - v.i.toNat) + 1) (fun Φ h => ?_)
  have h0 := h.1
  have h1 : Φ (.normal, e2_fin c (iter (e2_g c) (c.n - v.i.toNat) v.i.toNat v.a)) := h.2
  simp only [e2_ok, decide_eq_true_eq] at h0
  obtain ⟨hk0, hk1, hi0, hin⟩ := h0
  have hv : v = (fun (j : Nat) (a : Nat) => ({ i := (j : Int), a := a } : Ve2)) v.i.toNat v.a := by
    obtain ⟨i, a⟩ := v
    have hi0 : 0 ≤ i := hi0
    simp only [Int.toNat_of_nonneg hi0]
  have key := T_iter (e2_step c) (fun (j : Nat) (a : Nat) => ({ i := (j : Int), a := a } : Ve2)) c.n (e2_g c) (fun a => (.exit 2, e2_fin c a)) (fun j a hj Ψ hΨ => ?_) (fun a Ψ hΨ => ?_) (fun a => by simp) (c.n - v.i.toNat) v.i.toNat v.a (by omega) (fun r => Φ (blkEx 2 r.1, r.2)) (by simpa [blkEx] using h1)
  · exact (congrArg (fun z => (loopTree (e2_step c) (c.n - v.i.toNat + 1) z).holds fun r => Φ (blkEx 2 r.1, r.2)) hv).mpr key
  · unfold e2_step
    refine (T.h_ite (fun _ => ?_) (fun hc => absurd hc (by simp <;> omega)))
    refine (T.h_need (by rw [wrap_next (by omega)]; simp [e3_ok] <;> omega) ?_)
    refine T.h_leaf ?_
    rw [wrap_next (by omega)]
    exact hΨ
  · unfold e2_step
    refine (T.h_ite (fun hc => absurd hc (by simp <;> omega)) (fun _ => T.h_leaf hΨ.2))

def e2_dec (b : Mem) (f : FSt) : Option (Ce2 × Ve2) :=
  match getSu 0 7 (findF 0 f.sl), getF .f32 (findF 1 f.sl), getI (findF 8 f.sl), getF .f32 (findF 6 f.sl), id b, f.mem with
  | some (0, n_), some core_, some q_i, some q_a, [some (.cols m_ [.fl .f32 f0_, .fl .f32 f1_, .fl .f32 f2_, .fl .f32 f3_, .fl .f32 f4_, .fl .f32 f5_, .fl .f32 f6_])], [_] => some ({ n := n_, m := m_, f0 := f0_, f1 := f1_, f2 := f2_, f3 := f3_, f4 := f4_, f5 := f5_, f6 := f6_, core := core_ }, { i := q_i, a := q_a })
  | _, _, _, _, _, _ => none
theorem e2_dec_ok (b : Mem) (f : FSt) (x : Ce2 × Ve2) (h : e2_dec b f = some x) : b = x.1.base ∧ FLe b f (e2_st x.1 x.2) := by
  unfold e2_dec at h
  split at h
  · rename_i e0 e1 e2 e3 hb hm
    cases h
    have hb : b = _ := hb
    subst hb
    refine ⟨rfl, fle_of (fun p hp => ?_) (by rw [hm]; exact trivial)⟩
    simp only [List.mem_cons, List.not_mem_nil, or_false] at hp
    rcases hp with rfl | rfl | rfl | rfl
    · exact getSu_rel e0
    · exact getF_rel e1
    · exact getF_rel e3
    · exact getI_rel e2
  · cases h
noncomputable def e2_sum : SumF Try.prog 100 e2Root :=
  sumL (pathB e2Root 2) e2_dec (fun x => x.1.base) (fun x => e2_st x.1 x.2) e2_R e2_dec_ok (by
    intro code hc x
    have hc2 : code = .block 2 (.loop (bodyB e2Root 2)) := by
      have h : subR e2Root (pathB e2Root 2) = some (.block 2 (.loop (bodyB e2Root 2))) := by kernel_rfl
      rw [h] at hc; cases hc; rfl
    subst hc2
    exact e2_tri x)

structure Cf1 where
  n : Nat
  m : Nat
  f0 : Nat → Nat
  f1 : Nat → Nat
  f2 : Nat → Nat
  f3 : Nat → Nat
  f4 : Nat → Nat
  f5 : Nat → Nat
  f6 : Nat → Nat
  core : Nat
  l : Int
  n2 : Nat
def Cf1.base (c : Cf1) : Mem := [some (.cols c.m [.fl .f32 c.f0, .fl .f32 c.f1, .fl .f32 c.f2, .fl .f32 c.f3, .fl .f32 c.f4, .fl .f32 c.f5, .fl .f32 c.f6])]
structure Vf1 where
  i : Int
  a : Nat
noncomputable abbrev f1Root : Code := bodyOf Try.f21
def f1_st (c : Cf1) (v : Vf1) : FSt := ⟨[(0, .one (.su 0 7 0 c.n false)), (1, .one (.fl .f32 c.core)), (6, .one (.fl .f32 v.a)), (22, .one (.su 0 7 0 c.n2 false)), (23, .one (.num .i64 c.l)), (24, .one (.num .i64 v.i))], c.base ++ []⟩
def f1_step (c : Cf1) (v : Vf1) : T (Nx Vf1) :=
  .ite (decide (v.1 < c.11)) (.need (decide (0 ≤ v.1) && decide (v.1 < ↑c.12)) (.need (decide (v.1.toNat + 0 < c.2)) (.leaf (.go { i := IntKind.i64.wrap (v.1 + 1), a := fadd FloatKind.f32 v.2 (fmul FloatKind.f32 (fmul FloatKind.f32 (canon FloatKind.f32 1056964608) (c.9 (v.1.toNat + 0))) (fadd FloatKind.f32 (fadd FloatKind.f32 (fmul FloatKind.f32 (c.6 (v.1.toNat + 0)) (c.6 (v.1.toNat + 0))) (fmul FloatKind.f32 (c.7 (v.1.toNat + 0)) (c.7 (v.1.toNat + 0)))) (fmul FloatKind.f32 (c.8 (v.1.toNat + 0)) (c.8 (v.1.toNat + 0))))) })))) (.leaf (.out (EX.exit 0) ⟨[(0, AV.one (SV.su 0 7 0 c.1 false)), (1, AV.one (SV.fl FloatKind.f32 c.10)), (6, AV.one (SV.fl FloatKind.f32 v.2)), (22, AV.one (SV.su 0 7 0 c.12 false)), (23, AV.one (SV.num IntKind.i64 c.11)), (24, AV.one (SV.num IntKind.i64 v.1))], c.base ++ []⟩))
theorem f1_round (c : Cf1) (v : Vf1) : roundF Try.prog 81 [k_i_InnerOf] f1Root [] c.base [0, 1, 4, 5, 6, 8, 9, 10, 12, 13, 21, 22, 23, 24, 25, 40, 41, 42, 43, 50, 51, 52, 53, 64, 198] [0, 1, 6, 22, 23, 24] 0 (f1_st c v) = (f1_step c v).map (nxF (f1_st c)) := by kernel_rfl
def f1_g (c : Cf1) (j : Nat) (a : Nat) : Nat := fadd .f32 a (fmul .f32 (fmul .f32 1056964608 (c.f6 j)) (inner (c.f3 j) (c.f4 j) (c.f5 j) (c.f3 j) (c.f4 j) (c.f5 j)))
def f1_ok (c : Cf1) (v : Vf1) : Bool := decide (c.n ≤ c.m ∧ c.n ≤ 1099511627776 ∧ c.l = (c.n : Int) ∧ c.n2 = c.n ∧ 0 ≤ v.i ∧ v.i ≤ ((c.n : Nat) : Int))
def f1_fin (c : Cf1) (a : Nat) : FSt := f1_st c ({ i := (c.n : Int), a := a })
noncomputable def f1_R (x : Cf1 × Vf1) : T (EX × FSt) := .need (f1_ok x.1 x.2) (.leaf (.normal, f1_fin x.1 (iter (f1_g x.1) (x.1.n - x.2.i.toNat) x.2.i.toNat x.2.a)))
theorem f1_tri (x : Cf1 × Vf1) : TriR Try.prog 81 x.1.base (.block 0 (.loop (bodyB f1Root 0))) (f1_st x.1 x.2) (f1_R x) := by
  obtain ⟨c, v⟩ := x
  refine triR_of mix (root := f1Root) (by kernel_rfl) (by kernel_rfl) [0, 1, 4, 5, 6, 8, 9, 10, 12, 13, 21, 22, 23, 24, 25, 40, 41, 42, 43, 50, 51, 52, 53, 64, 198] [0, 1, 6, 22, 23, 24] (f1_st c) (f1_step c) (f1_round c) v _ ((c.n - v.i.toNat) + 1) (fun Φ h => ?_)
  have h0 := h.1
  have h1 : Φ (.normal, f1_fin c (iter (f1_g c) (c.n - v.i.toNat) v.i.toNat v.a)) := h.2
  simp only [f1_ok, decide_eq_true_eq] at h0
  obtain ⟨hk0, hk1, hk2, hk3, hi0, hin⟩ := h0
  have hv : v = (fun (j : Nat) (a : Nat) => ({ i := (j : Int), a := a } : Vf1)) v.i.toNat v.a := by
    obtain ⟨i, a⟩ := v
    have hi0 : 0 ≤ i := hi0
    simp only [Int.toNat_of_nonneg hi0]
  have key := T_iter (f1_step c) (fun (j : Nat) (a : Nat) => ({ i := (j : Int), a := a } : Vf1)) c.n (f1_g c) (fun a => (.exit 0, f1_fin c a)) (fun j a hj Ψ hΨ => ?_) (fun a Ψ hΨ => ?_) (fun a => by simp) (c.n - v.i.toNat) v.i.toNat v.a (by omega) (fun r => Φ (blkEx 0 r.1, r.2)) (by simpa [blkEx] using h1)
  · exact (congrArg (fun z => (loopTree (f1_step c) (c.n - v.i.toNat + 1) z).holds fun r => Φ (blkEx 0 r.1, r.2)) hv).mpr key
  · unfold f1_step
    refine (T.h_ite (fun _ => ?_) (fun hc => absurd hc (by simp <;> omega)))
    refine (T.h_need (by simp <;> omega) (T.h_need (by simp <;> omega) ?_))
    refine T.h_leaf ?_
    rw [wrap_next (by omega)]
    exact hΨ
  · unfold f1_step
    refine (T.h_ite (fun hc => absurd hc (by simp <;> omega)) (fun _ => T.h_leaf hΨ.2))

def f1_dec (b : Mem) (f : FSt) : Option (Cf1 × Vf1) :=
  match getSu 0 7 (findF 0 f.sl), getF .f32 (findF 1 f.sl), getSu 0 7 (findF 22 f.sl), getI (findF 23 f.sl), getI (findF 24 f.sl), getF .f32 (findF 6 f.sl), id b, f.mem with
  | some (0, n_), some core_, some (0, n2_), some l_, some q_i, some q_a, [some (.cols m_ [.fl .f32 f0_, .fl .f32 f1_, .fl .f32 f2_, .fl .f32 f3_, .fl .f32 f4_, .fl .f32 f5_, .fl .f32 f6_])], [_] => some ({ n := n_, m := m_, f0 := f0_, f1 := f1_, f2 := f2_, f3 := f3_, f4 := f4_, f5 := f5_, f6 := f6_, core := core_, l := l_, n2 := n2_ }, { i := q_i, a := q_a })
  | _, _, _, _, _, _, _, _ => none
theorem f1_dec_ok (b : Mem) (f : FSt) (x : Cf1 × Vf1) (h : f1_dec b f = some x) : b = x.1.base ∧ FLe b f (f1_st x.1 x.2) := by
  unfold f1_dec at h
  split at h
  · rename_i e0 e1 e2 e3 e4 e5 hb hm
    cases h
    have hb : b = _ := hb
    subst hb
    refine ⟨rfl, fle_of (fun p hp => ?_) (by rw [hm]; exact trivial)⟩
    simp only [List.mem_cons, List.not_mem_nil, or_false] at hp
    rcases hp with rfl | rfl | rfl | rfl | rfl | rfl
    · exact getSu_rel e0
    · exact getF_rel e1
    · exact getF_rel e5
    · exact getSu_rel e2
    · exact getI_rel e3
    · exact getI_rel e4
  · cases h
noncomputable def f1_sum : SumF Try.prog 81 f1Root :=
  sumL (pathB f1Root 0) f1_dec (fun x => x.1.base) (fun x => f1_st x.1 x.2) f1_R f1_dec_ok (by
    intro code hc x
    have hc2 : code = .block 0 (.loop (bodyB f1Root 0)) := by
      have h : subR f1Root (pathB f1Root 0) = some (.block 0 (.loop (bodyB f1Root 0))) := by kernel_rfl
      rw [h] at hc; cases hc; rfl
    subst hc2
    exact f1_tri x)

structure Cf3 where
  n : Nat
  m : Nat
  f0 : Nat → Nat
  f1 : Nat → Nat
  f2 : Nat → Nat
  f3 : Nat → Nat
  f4 : Nat → Nat
  f5 : Nat → Nat
  f6 : Nat → Nat
  core : Nat
  l : Int
  s : Nat
  w : Nat
  n2 : Nat
  l2 : Int
  i : Int
  g0 : Nat
  g1 : Nat
  g2 : Nat
  g3 : Nat
  g4 : Nat
  g5 : Nat
  g6 : Nat
def Cf3.base (c : Cf3) : Mem := [some (.cols c.m [.fl .f32 c.f0, .fl .f32 c.f1, .fl .f32 c.f2, .fl .f32 c.f3, .fl .f32 c.f4, .fl .f32 c.f5, .fl .f32 c.f6])]
structure Vf3 where
  k : Int
  a : Nat
noncomputable abbrev f3Root : Code := bodyOf Try.f21
def f3_st (c : Cf3) (v : Vf3) : FSt := ⟨[(0, .one (.su 0 7 0 c.n false)), (1, .one (.fl .f32 c.core)), (6, .one (.fl .f32 v.a)), (10, .one (.ptr 1 7 0 0)), (40, .one (.su 0 7 0 c.n2 false)), (41, .one (.num .i64 c.l2)), (42, .one (.num .i64 c.i)), (50, .one (.su 0 7 c.s c.w false)), (51, .one (.num .i64 c.l)), (52, .one (.num .i64 v.k))], c.base ++ [some (.box [.fl .f32 c.g0, .fl .f32 c.g1, .fl .f32 c.g2, .fl .f32 c.g3, .fl .f32 c.g4, .fl .f32 c.g5, .fl .f32 c.g6])]⟩
def f3_step (c : Cf3) (v : Vf3) : T (Nx Vf3) :=
  .ite (decide (v.1 < c.11)) (.need (decide (0 ≤ v.1) && decide (v.1 < ↑c.13)) (.need (decide (v.1.toNat + c.12 < c.2)) (.leaf (.go { k := IntKind.i64.wrap (v.1 + 1), a := bif fgt FloatKind.f32 (fadd FloatKind.f32 (fadd FloatKind.f32 (fadd FloatKind.f32 (fmul FloatKind.f32 (fsub FloatKind.f32 (c.3 (v.1.toNat + c.12)) c.17) (fsub FloatKind.f32 (c.3 (v.1.toNat + c.12)) c.17)) (fmul FloatKind.f32 (fsub FloatKind.f32 (c.4 (v.1.toNat + c.12)) c.18) (fsub FloatKind.f32 (c.4 (v.1.toNat + c.12)) c.18))) (fmul FloatKind.f32 (fsub FloatKind.f32 (c.5 (v.1.toNat + c.12)) c.19) (fsub FloatKind.f32 (c.5 (v.1.toNat + c.12)) c.19))) (fmul FloatKind.f32 c.10 c.10)) (canon FloatKind.f32 0) then fsub FloatKind.f32 v.2 (fdiv FloatKind.f32 (fmul FloatKind.f32 c.23 (c.9 (v.1.toNat + c.12))) (rootV (fadd FloatKind.f32 (fadd FloatKind.f32 (fadd FloatKind.f32 (fmul FloatKind.f32 (fsub FloatKind.f32 (c.3 (v.1.toNat + c.12)) c.17) (fsub FloatKind.f32 (c.3 (v.1.toNat + c.12)) c.17)) (fmul FloatKind.f32 (fsub FloatKind.f32 (c.4 (v.1.toNat + c.12)) c.18) (fsub FloatKind.f32 (c.4 (v.1.toNat + c.12)) c.18))) (fmul FloatKind.f32 (fsub FloatKind.f32 (c.5 (v.1.toNat + c.12)) c.19) (fsub FloatKind.f32 (c.5 (v.1.toNat + c.12)) c.19))) (fmul FloatKind.f32 c.10 c.10)))) else v.2 })))) (.leaf (.out (EX.exit 4) ⟨[(0, AV.one (SV.su 0 7 0 c.1 false)), (1, AV.one (SV.fl FloatKind.f32 c.10)), (6, AV.one (SV.fl FloatKind.f32 v.2)), (10, AV.one (SV.ptr 1 7 0 0)), (40, AV.one (SV.su 0 7 0 c.14 false)), (41, AV.one (SV.num IntKind.i64 c.15)), (42, AV.one (SV.num IntKind.i64 c.16)), (50, AV.one (SV.su 0 7 c.12 c.13 false)), (51, AV.one (SV.num IntKind.i64 c.11)), (52, AV.one (SV.num IntKind.i64 v.1))], c.base ++ [some (.box [.fl .f32 c.g0, .fl .f32 c.g1, .fl .f32 c.g2, .fl .f32 c.g3, .fl .f32 c.g4, .fl .f32 c.g5, .fl .f32 c.g6])]⟩))
theorem f3_round (c : Cf3) (v : Vf3) : roundF Try.prog 81 [k_i_LessVectors, k_i_softened, k_RootNumber] f3Root [] c.base [0, 1, 4, 5, 6, 8, 9, 10, 12, 13, 21, 22, 23, 24, 25, 40, 41, 42, 43, 50, 51, 52, 53, 64, 198] [0, 1, 6, 10, 40, 41, 42, 50, 51, 52] 4 (f3_st c v) = (f3_step c v).map (nxF (f3_st c)) := by kernel_rfl
def fQ (f0 f1 f2 : Nat → Nat) (core g0 g1 g2 k : Nat) : Nat := fadd .f32 (inner (fsub .f32 (f0 k) g0) (fsub .f32 (f1 k) g1) (fsub .f32 (f2 k) g2) (fsub .f32 (f0 k) g0) (fsub .f32 (f1 k) g1) (fsub .f32 (f2 k) g2)) (fmul .f32 core core)
def f3_g (c : Cf3) (q a : Nat) : Nat := bif fgt .f32 (fQ c.f0 c.f1 c.f2 c.core c.g0 c.g1 c.g2 (q + c.s)) 0 then fsub .f32 a (fdiv .f32 (fmul .f32 c.g6 (c.f6 (q + c.s))) (rootV (fQ c.f0 c.f1 c.f2 c.core c.g0 c.g1 c.g2 (q + c.s)))) else a
def f3_ok (c : Cf3) (v : Vf3) : Bool := decide (c.n ≤ c.m ∧ c.n ≤ 1099511627776 ∧ c.l = (c.w : Int) ∧ c.s + c.w ≤ c.n ∧ 0 ≤ v.k ∧ v.k ≤ ((c.w : Nat) : Int))
def f3_fin (c : Cf3) (a : Nat) : FSt := f3_st c ({ k := (c.w : Int), a := a })
noncomputable def f3_R (x : Cf3 × Vf3) : T (EX × FSt) := .need (f3_ok x.1 x.2) (.leaf (.normal, f3_fin x.1 (iter (f3_g x.1) (x.1.w - x.2.k.toNat) x.2.k.toNat x.2.a)))
theorem f3_tri (x : Cf3 × Vf3) : TriR Try.prog 81 x.1.base (.block 4 (.loop (bodyB f3Root 4))) (f3_st x.1 x.2) (f3_R x) := by
  obtain ⟨c, v⟩ := x
  refine triR_of mix (root := f3Root) (by kernel_rfl) (by kernel_rfl) [0, 1, 4, 5, 6, 8, 9, 10, 12, 13, 21, 22, 23, 24, 25, 40, 41, 42, 43, 50, 51, 52, 53, 64, 198] [0, 1, 6, 10, 40, 41, 42, 50, 51, 52] (f3_st c) (f3_step c) (f3_round c) v _ ((c.w - v.k.toNat) + 1) (fun Φ h => ?_)
  have h0 := h.1
  have h1 : Φ (.normal, f3_fin c (iter (f3_g c) (c.w - v.k.toNat) v.k.toNat v.a)) := h.2
  simp only [f3_ok, decide_eq_true_eq] at h0
  obtain ⟨hk0, hk1, hk2, hk3, hi0, hin⟩ := h0
  have hv : v = (fun (j : Nat) (a : Nat) => ({ k := (j : Int), a := a } : Vf3)) v.k.toNat v.a := by
    obtain ⟨k, a⟩ := v
    have hi0 : 0 ≤ k := hi0
    simp only [Int.toNat_of_nonneg hi0]
  have key := T_iter (f3_step c) (fun (j : Nat) (a : Nat) => ({ k := (j : Int), a := a } : Vf3)) c.w (f3_g c) (fun a => (.exit 4, f3_fin c a)) (fun j a hj Ψ hΨ => ?_) (fun a Ψ hΨ => ?_) (fun a => by simp) (c.w - v.k.toNat) v.k.toNat v.a (by omega) (fun r => Φ (blkEx 4 r.1, r.2)) (by simpa [blkEx] using h1)
  · exact (congrArg (fun z => (loopTree (f3_step c) (c.w - v.k.toNat + 1) z).holds fun r => Φ (blkEx 4 r.1, r.2)) hv).mpr key
  · unfold f3_step
    refine (T.h_ite (fun _ => ?_) (fun hc => absurd hc (by simp <;> omega)))
    refine (T.h_need (by simp <;> omega) (T.h_need (by simp <;> omega) ?_))
    refine T.h_leaf ?_
    rw [wrap_next (by omega)]
    exact hΨ
  · unfold f3_step
    refine (T.h_ite (fun hc => absurd hc (by simp <;> omega)) (fun _ => T.h_leaf hΨ.2))

def f3_dec (b : Mem) (f : FSt) : Option (Cf3 × Vf3) :=
  match getSu 0 7 (findF 0 f.sl), getF .f32 (findF 1 f.sl), getSu 0 7 (findF 40 f.sl), getI (findF 41 f.sl), getI (findF 42 f.sl), getPtr 1 7 (findF 10 f.sl), getSu 0 7 (findF 50 f.sl), getI (findF 51 f.sl), getI (findF 52 f.sl), getF .f32 (findF 6 f.sl), id b, f.mem with
  | some (0, n_), some core_, some (0, n2_), some l2_, some i_, some (), some (s_, w_), some l_, some q_k, some q_a, [some (.cols m_ [.fl .f32 f0_, .fl .f32 f1_, .fl .f32 f2_, .fl .f32 f3_, .fl .f32 f4_, .fl .f32 f5_, .fl .f32 f6_])], [_, some (.box [.fl .f32 g0_, .fl .f32 g1_, .fl .f32 g2_, .fl .f32 g3_, .fl .f32 g4_, .fl .f32 g5_, .fl .f32 g6_])] => some ({ n := n_, m := m_, f0 := f0_, f1 := f1_, f2 := f2_, f3 := f3_, f4 := f4_, f5 := f5_, f6 := f6_, core := core_, l := l_, s := s_, w := w_, n2 := n2_, l2 := l2_, i := i_, g0 := g0_, g1 := g1_, g2 := g2_, g3 := g3_, g4 := g4_, g5 := g5_, g6 := g6_ }, { k := q_k, a := q_a })
  | _, _, _, _, _, _, _, _, _, _, _, _ => none
theorem f3_dec_ok (b : Mem) (f : FSt) (x : Cf3 × Vf3) (h : f3_dec b f = some x) : b = x.1.base ∧ FLe b f (f3_st x.1 x.2) := by
  unfold f3_dec at h
  split at h
  · rename_i e0 e1 e2 e3 e4 e5 e6 e7 e8 e9 hb hm
    cases h
    have hb : b = _ := hb
    subst hb
    refine ⟨rfl, fle_of (fun p hp => ?_) (by rw [hm]; exact memLe_refl _)⟩
    simp only [List.mem_cons, List.not_mem_nil, or_false] at hp
    rcases hp with rfl | rfl | rfl | rfl | rfl | rfl | rfl | rfl | rfl | rfl
    · exact getSu_rel e0
    · exact getF_rel e1
    · exact getF_rel e9
    · exact getPtr_rel e5
    · exact getSu_rel e2
    · exact getI_rel e3
    · exact getI_rel e4
    · exact getSu_rel e6
    · exact getI_rel e7
    · exact getI_rel e8
  · cases h
noncomputable def f3_sum : SumF Try.prog 81 f3Root :=
  sumL (pathB f3Root 4) f3_dec (fun x => x.1.base) (fun x => f3_st x.1 x.2) f3_R f3_dec_ok (by
    intro code hc x
    have hc2 : code = .block 4 (.loop (bodyB f3Root 4)) := by
      have h : subR f3Root (pathB f3Root 4) = some (.block 4 (.loop (bodyB f3Root 4))) := by kernel_rfl
      rw [h] at hc; cases hc; rfl
    subst hc2
    exact f3_tri x)

structure Cf2 where
  n : Nat
  m : Nat
  f0 : Nat → Nat
  f1 : Nat → Nat
  f2 : Nat → Nat
  f3 : Nat → Nat
  f4 : Nat → Nat
  f5 : Nat → Nat
  f6 : Nat → Nat
  core : Nat
  l : Int
  n2 : Nat
def Cf2.base (c : Cf2) : Mem := [some (.cols c.m [.fl .f32 c.f0, .fl .f32 c.f1, .fl .f32 c.f2, .fl .f32 c.f3, .fl .f32 c.f4, .fl .f32 c.f5, .fl .f32 c.f6])]
structure Vf2 where
  i : Int
  a : Nat
noncomputable abbrev f2Root : Code := bodyOf Try.f21
def f2_st (c : Cf2) (v : Vf2) : FSt := ⟨[(0, .one (.su 0 7 0 c.n false)), (1, .one (.fl .f32 c.core)), (6, .one (.fl .f32 v.a)), (40, .one (.su 0 7 0 c.n2 false)), (41, .one (.num .i64 c.l)), (42, .one (.num .i64 v.i))], c.base ++ []⟩
def f2_step (c : Cf2) (v : Vf2) : T (Nx Vf2) :=
  .ite (decide (v.1 < c.11)) (.need (decide (0 ≤ v.1) && decide (v.1 < ↑c.12)) (.need (decide (v.1.toNat + 0 < c.2)) (.need (decide (0 ≤ (↑c.1 : Int) ∧ (↑c.1 : Int) ≤ (↑c.1 : Int))) (.need (decide (0 ≤ bdOf c.1 none ∧ bdOf c.1 none ≤ ↑c.1)) (.need (decide (0 ≤ bdOf 0 (some (IntKind.i64.wrap (v.1 + 1), false)) ∧ bdOf 0 (some (IntKind.i64.wrap (v.1 + 1), false)) ≤ bdOf c.1 none)) (.need (f3_ok { n := c.1, m := c.2, f0 := c.3, f1 := c.4, f2 := c.5, f3 := c.6, f4 := c.7, f5 := c.8, f6 := c.9, core := c.10, l := ↑((bdOf c.1 none).toNat - (bdOf 0 (some (IntKind.i64.wrap (v.1 + 1), false))).toNat), s := 0 + (bdOf 0 (some (IntKind.i64.wrap (v.1 + 1), false))).toNat, w := (bdOf c.1 none).toNat - (bdOf 0 (some (IntKind.i64.wrap (v.1 + 1), false))).toNat, n2 := c.12, l2 := c.11, i := v.1, g0 := c.3 (v.1.toNat + 0), g1 := c.4 (v.1.toNat + 0), g2 := c.5 (v.1.toNat + 0), g3 := c.6 (v.1.toNat + 0), g4 := c.7 (v.1.toNat + 0), g5 := c.8 (v.1.toNat + 0), g6 := c.9 (v.1.toNat + 0) } { k := 0, a := v.2 }) (.leaf (.go { i := IntKind.i64.wrap (v.1 + 1), a := iter (f3_g { n := c.1, m := c.2, f0 := c.3, f1 := c.4, f2 := c.5, f3 := c.6, f4 := c.7, f5 := c.8, f6 := c.9, core := c.10, l := ↑((bdOf c.1 none).toNat - (bdOf 0 (some (IntKind.i64.wrap (v.1 + 1), false))).toNat), s := 0 + (bdOf 0 (some (IntKind.i64.wrap (v.1 + 1), false))).toNat, w := (bdOf c.1 none).toNat - (bdOf 0 (some (IntKind.i64.wrap (v.1 + 1), false))).toNat, n2 := c.12, l2 := c.11, i := v.1, g0 := c.3 (v.1.toNat + 0), g1 := c.4 (v.1.toNat + 0), g2 := c.5 (v.1.toNat + 0), g3 := c.6 (v.1.toNat + 0), g4 := c.7 (v.1.toNat + 0), g5 := c.8 (v.1.toNat + 0), g6 := c.9 (v.1.toNat + 0) }) ((bdOf c.1 none).toNat - (bdOf 0 (some (IntKind.i64.wrap (v.1 + 1), false))).toNat - Int.toNat 0) (Int.toNat 0) v.2 })))))))) (.leaf (.out (EX.exit 2) ⟨[(0, AV.one (SV.su 0 7 0 c.1 false)), (1, AV.one (SV.fl FloatKind.f32 c.10)), (6, AV.one (SV.fl FloatKind.f32 v.2)), (40, AV.one (SV.su 0 7 0 c.12 false)), (41, AV.one (SV.num IntKind.i64 c.11)), (42, AV.one (SV.num IntKind.i64 v.1))], c.base ++ []⟩))
theorem f2_round (c : Cf2) (v : Vf2) : roundF Try.prog 81 [k_i_LessVectors, k_i_softened, k_RootNumber] f2Root [f3_sum] c.base [0, 1, 4, 5, 6, 8, 9, 10, 12, 13, 21, 22, 23, 24, 25, 40, 41, 42, 43, 50, 51, 52, 53, 64, 198] [0, 1, 6, 40, 41, 42] 2 (f2_st c v) = (f2_step c v).map (nxF (f2_st c)) := by kernel_rfl
def f2_g (c : Cf2) (i a : Nat) : Nat := iter (fun q => ePair c.f0 c.f1 c.f2 c.f6 c.core i (q + (i + 1))) (c.n - (i + 1)) 0 a
def f2_ok (c : Cf2) (v : Vf2) : Bool := decide (c.n ≤ c.m ∧ c.n ≤ 1099511627776 ∧ c.l = (c.n : Int) ∧ c.n2 = c.n ∧ 0 ≤ v.i ∧ v.i ≤ ((c.n : Nat) : Int))
def f2_fin (c : Cf2) (a : Nat) : FSt := f2_st c ({ i := (c.n : Int), a := a })
noncomputable def f2_R (x : Cf2 × Vf2) : T (EX × FSt) := .need (f2_ok x.1 x.2) (.leaf (.normal, f2_fin x.1 (iter (f2_g x.1) (x.1.n - x.2.i.toNat) x.2.i.toNat x.2.a)))
theorem f2_tri (x : Cf2 × Vf2) : TriR Try.prog 81 x.1.base (.block 2 (.loop (bodyB f2Root 2))) (f2_st x.1 x.2) (f2_R x) := by
  obtain ⟨c, v⟩ := x
  refine triR_of mix (root := f2Root) (by kernel_rfl) (by kernel_rfl) [0, 1, 4, 5, 6, 8, 9, 10, 12, 13, 21, 22, 23, 24, 25, 40, 41, 42, 43, 50, 51, 52, 53, 64, 198] [0, 1, 6, 40, 41, 42] (f2_st c) (f2_step c) (f2_round c) v _ ((c.n - v.i.toNat) + 1) (fun Φ h => ?_)
  have h0 := h.1
  have h1 : Φ (.normal, f2_fin c (iter (f2_g c) (c.n - v.i.toNat) v.i.toNat v.a)) := h.2
  simp only [f2_ok, decide_eq_true_eq] at h0
  obtain ⟨hk0, hk1, hk2, hk3, hi0, hin⟩ := h0
  have hv : v = (fun (j : Nat) (a : Nat) => ({ i := (j : Int), a := a } : Vf2)) v.i.toNat v.a := by
    obtain ⟨i, a⟩ := v
    have hi0 : 0 ≤ i := hi0
    simp only [Int.toNat_of_nonneg hi0]
  have key := T_iter (f2_step c) (fun (j : Nat) (a : Nat) => ({ i := (j : Int), a := a } : Vf2)) c.n (f2_g c) (fun a => (.exit 2, f2_fin c a)) (fun j a hj Ψ hΨ => ?_) (fun a Ψ hΨ => ?_) (fun a => by simp) (c.n - v.i.toNat) v.i.toNat v.a (by omega) (fun r => Φ (blkEx 2 r.1, r.2)) (by simpa [blkEx] using h1)
  · exact (congrArg (fun z => (loopTree (f2_step c) (c.n - v.i.toNat + 1) z).holds fun r => Φ (blkEx 2 r.1, r.2)) hv).mpr key
  · unfold f2_step
    refine (T.h_ite (fun _ => ?_) (fun hc => absurd hc (by simp <;> omega)))
    refine (T.h_need (by simp <;> omega) (T.h_need (by simp <;> omega) (T.h_need (by simp <;> omega) (T.h_need (decide_eq_true (by simp only [bdOf_s, bdOf_n]; omega)) (T.h_need (decide_eq_true (by rw [wrap_next (by omega)]; simp only [bdOf_s, bdOf_n]; omega)) (T.h_need (by rw [wrap_next (by omega)]; simp [f3_ok, bdOf_s, bdOf_n] <;> omega) ?_))))))
    refine T.h_leaf ?_
    rw [wrap_next (by omega)]
    rw [Nat.zero_add]
    exact hΨ
  · unfold f2_step
    refine (T.h_ite (fun hc => absurd hc (by simp <;> omega)) (fun _ => T.h_leaf hΨ.2))

def f2_dec (b : Mem) (f : FSt) : Option (Cf2 × Vf2) :=
  match getSu 0 7 (findF 0 f.sl), getF .f32 (findF 1 f.sl), getSu 0 7 (findF 40 f.sl), getI (findF 41 f.sl), getI (findF 42 f.sl), getF .f32 (findF 6 f.sl), id b, f.mem with
  | some (0, n_), some core_, some (0, n2_), some l_, some q_i, some q_a, [some (.cols m_ [.fl .f32 f0_, .fl .f32 f1_, .fl .f32 f2_, .fl .f32 f3_, .fl .f32 f4_, .fl .f32 f5_, .fl .f32 f6_])], [_] => some ({ n := n_, m := m_, f0 := f0_, f1 := f1_, f2 := f2_, f3 := f3_, f4 := f4_, f5 := f5_, f6 := f6_, core := core_, l := l_, n2 := n2_ }, { i := q_i, a := q_a })
  | _, _, _, _, _, _, _, _ => none
theorem f2_dec_ok (b : Mem) (f : FSt) (x : Cf2 × Vf2) (h : f2_dec b f = some x) : b = x.1.base ∧ FLe b f (f2_st x.1 x.2) := by
  unfold f2_dec at h
  split at h
  · rename_i e0 e1 e2 e3 e4 e5 hb hm
    cases h
    have hb : b = _ := hb
    subst hb
    refine ⟨rfl, fle_of (fun p hp => ?_) (by rw [hm]; exact trivial)⟩
    simp only [List.mem_cons, List.not_mem_nil, or_false] at hp
    rcases hp with rfl | rfl | rfl | rfl | rfl | rfl
    · exact getSu_rel e0
    · exact getF_rel e1
    · exact getF_rel e5
    · exact getSu_rel e2
    · exact getI_rel e3
    · exact getI_rel e4
  · cases h
noncomputable def f2_sum : SumF Try.prog 81 f2Root :=
  sumL (pathB f2Root 2) f2_dec (fun x => x.1.base) (fun x => f2_st x.1 x.2) f2_R f2_dec_ok (by
    intro code hc x
    have hc2 : code = .block 2 (.loop (bodyB f2Root 2)) := by
      have h : subR f2Root (pathB f2Root 2) = some (.block 2 (.loop (bodyB f2Root 2))) := by kernel_rfl
      rw [h] at hc; cases hc; rfl
    subst hc2
    exact f2_tri x)


end Go.Proofs.Ytjcofjelfaoecaa
