/-
  MirrorBodies: both functions in the same words. No conditions.
-/
import Derived.Test.YtjcofjelfaoecaaAi
import Derived.Test.YtjcofjelfaoecaaLs
import Derived.Test.YtjcofjelfaoecaaFi
namespace Go.Proofs.Ytjcofjelfaoecaa
set_option linter.unusedVariables false
set_option linter.unusedSimpArgs false
open Go.RowKit

noncomputable def k_sOwn0 : Ctr Try.prog := (mkF0 Try.prog mix [] 91 Try.f91 (bodyOf Try.f91) Try.func91 (by kernel_rfl) (by kernel_rfl) [0, 2, 198] 6 (by kernel_rfl) (by kernel_rfl) []).mg
theorem sOwn0_ev (n m : Nat) (f0 f1 f2 f3 f4 f5 f6 : Nat → Nat) : k_sOwn0.run [.one (.su 0 7 0 n false)] [some (.cols m [.fl .f32 f0, .fl .f32 f1, .fl .f32 f2, .fl .f32 f3, .fl .f32 f4, .fl .f32 f5, .fl .f32 f6])] =
    .need true (.need (decide (0 + n ≤ m)) (.need (decide (0 + n ≤ 1073741824)) (.leaf (.one (.so 1 7 (0 + n) 2), [some (.grow (0 + n) [.fl .f32 fun j => if j < 0 then canon .f32 0 else f0 (0 + (j - 0)), .fl .f32 fun j => if j < 0 then canon .f32 0 else f1 (0 + (j - 0)), .fl .f32 fun j => if j < 0 then canon .f32 0 else f2 (0 + (j - 0)), .fl .f32 fun j => if j < 0 then canon .f32 0 else f3 (0 + (j - 0)), .fl .f32 fun j => if j < 0 then canon .f32 0 else f4 (0 + (j - 0)), .fl .f32 fun j => if j < 0 then canon .f32 0 else f5 (0 + (j - 0)), .fl .f32 fun j => if j < 0 then canon .f32 0 else f6 (0 + (j - 0))] 2 66), none])))) := by kernel_rfl
noncomputable def run_own : List AV → Mem → T Res
  | [.one (.su 0 7 0 n false)], [some (.cols m [.fl .f32 f0, .fl .f32 f1, .fl .f32 f2, .fl .f32 f3, .fl .f32 f4, .fl .f32 f5, .fl .f32 f6])] => .need (decide (n ≤ m)) (.need (decide (n ≤ 1073741824)) (.leaf (.one (.su 1 7 0 n false), [some (.cols n [.fl .f32 f0, .fl .f32 f1, .fl .f32 f2, .fl .f32 f3, .fl .f32 f4, .fl .f32 f5, .fl .f32 f6]), none])))
  | _, _ => .fail
theorem BlLe.grow_cols {n : Nat} {cs cs' : List Col} {k : Nat} {t : TypeId} (h : ∀ i, i < n → colsAt cs i = colsAt cs' i) (hl : cs'.length = cs.length) : BlLe (.grow n cs k t) (.cols n cs') :=
  fun ρ w b o hb => BlLe.cols_eq h hl ρ w b o (BlLe.grown (Nat.le_refl n) ρ w b o hb)
noncomputable def k_sOwn : Ctr Try.prog := (k_sOwn0.to run_own (by
  intro args mem _
  unfold run_own
  split
  · rename_i n m f0 f1 f2 f3 f4 f5 f6 _
    rw [sOwn0_ev]
    constructor
    intro Φ hΦ h
    have h1 := of_decide_eq_true h.1
    have h2 := of_decide_eq_true h.2.1
    refine T.h_need rfl (T.h_need (decide_eq_true (by omega)) (T.h_need (decide_eq_true (by omega)) (T.h_leaf (hΦ _ (.one (.su 1 7 0 n false), [some (.cols n [.fl .f32 f0, .fl .f32 f1, .fl .f32 f2, .fl .f32 f3, .fl .f32 f4, .fl .f32 f5, .fl .f32 f6]), none]) ⟨⟨?_, trivial⟩, ?_⟩ h.2.2))))
    · rw [Nat.zero_add]
      exact BlLe.grow_cols (fun i _ => by simp [colsAt, Col.at]) rfl
    · intro ρ v hv
      rw [Nat.zero_add] at hv
      exact AvLe.grown ρ v hv
  · exact Weak.fail _)).su.own
structure Cmi where
  m : Nat
  f0 : Nat → Nat
  f1 : Nat → Nat
  f2 : Nat → Nat
  f3 : Nat → Nat
  f4 : Nat → Nat
  f5 : Nat → Nat
  f6 : Nat → Nat
  n2 : Nat
  m2 : Nat
  g0 : Nat → Nat
  g1 : Nat → Nat
  g3 : Nat → Nat
  g4 : Nat → Nat
  g6 : Nat → Nat
def Cmi.base (c : Cmi) : Mem := [some (.cols c.m [.fl .f32 c.f0, .fl .f32 c.f1, .fl .f32 c.f2, .fl .f32 c.f3, .fl .f32 c.f4, .fl .f32 c.f5, .fl .f32 c.f6])]
structure Vmi where
  i : Int
  a : Nat → Nat
  b : Nat → Nat
noncomputable abbrev miRoot : Code := bodyOf Try.f35
def mi_st (c : Cmi) (v : Vmi) : FSt := ⟨[(4, .one (.su 1 7 0 c.n2 false)), (5, .one (.num .i64 v.i))], c.base ++ [some (.cols c.m2 [.fl .f32 c.g0, .fl .f32 c.g1, .fl .f32 v.a, .fl .f32 c.g3, .fl .f32 c.g4, .fl .f32 v.b, .fl .f32 c.g6])]⟩
def mi_step (c : Cmi) (v : Vmi) : T (Nx Vmi) :=
  .ite (decide (v.1 < ↑c.9)) (.need (decide (0 ≤ v.1) && decide (v.1 < ↑c.9)) (.need (decide (v.1.toNat + 0 < c.10)) (.need (decide (0 ≤ v.1) && decide (v.1 < ↑c.9)) (.need (decide (v.1.toNat + 0 < c.10)) (.need (decide (0 ≤ v.1) && decide (v.1 < ↑c.9)) (.need (decide (v.1.toNat + 0 < c.10)) (.need (decide (0 ≤ v.1) && decide (v.1 < ↑c.9)) (.need (decide (v.1.toNat + 0 < c.10)) (.leaf (.go { i := IntKind.i64.wrap (v.1 + 1), a := fun q => if q = v.i.toNat + 0 then fneg FloatKind.f32 (v.a (v.i.toNat + 0)) else v.a q, b := fun q => if q = v.i.toNat + 0 then fneg FloatKind.f32 (v.b (v.i.toNat + 0)) else v.b q })))))))))) (.leaf (.out (EX.exit 0) ⟨[(4, AV.one (SV.su 1 7 0 c.9 false)), (5, AV.one (SV.num IntKind.i64 v.1))], c.base ++ [some (.cols c.m2 [.fl .f32 c.g0, .fl .f32 c.g1, .fl .f32 v.a, .fl .f32 c.g3, .fl .f32 c.g4, .fl .f32 v.b, .fl .f32 c.g6])]⟩))
theorem mi_round (c : Cmi) (v : Vmi) : roundF Try.prog 42 [] miRoot [] c.base [0, 2, 3, 4, 5, 8, 14, 198] [4, 5] 0 (mi_st c v) = (mi_step c v).map (nxF (mi_st c)) := by kernel_rfl
def negAt (j : Nat) (f : Nat → Nat) : Nat → Nat := fun q => if q = j then fneg .f32 (f j) else f q
def mi_g (c : Cmi) (j : Nat) (a : (Nat → Nat) × (Nat → Nat)) : (Nat → Nat) × (Nat → Nat) := (negAt j a.1, negAt j a.2)
def mi_ok (c : Cmi) (v : Vmi) : Bool := decide (c.n2 ≤ 1099511627776 ∧ c.n2 ≤ c.m2 ∧ 0 ≤ v.i ∧ v.i ≤ ((c.n2 : Nat) : Int))
def mi_fin (c : Cmi) (a : (Nat → Nat) × (Nat → Nat)) : FSt := mi_st c ({ i := (c.n2 : Int), a := a.1, b := a.2 })
noncomputable def mi_R (x : Cmi × Vmi) : T (EX × FSt) := .need (mi_ok x.1 x.2) (.leaf (.normal, mi_fin x.1 (iter (mi_g x.1) (x.1.n2 - x.2.i.toNat) x.2.i.toNat (x.2.a, x.2.b))))
theorem mi_tri (x : Cmi × Vmi) : TriR Try.prog 42 x.1.base (.block 0 (.loop (bodyB miRoot 0))) (mi_st x.1 x.2) (mi_R x) := by
  obtain ⟨c, v⟩ := x
  refine triR_of mix (root := miRoot) (by kernel_rfl) (by kernel_rfl) [0, 2, 3, 4, 5, 8, 14, 198] [4, 5] (mi_st c) (mi_step c) (mi_round c) v _ ((c.n2 - v.i.toNat) + 1) (fun Φ h => ?_)
  have h0 := h.1
  have h1 : Φ (.normal, mi_fin c (iter (mi_g c) (c.n2 - v.i.toNat) v.i.toNat (v.a, v.b))) := h.2
  simp only [mi_ok, decide_eq_true_eq] at h0
  obtain ⟨hk0, hk1, hi0, hin⟩ := h0
  have hv : v = (fun (j : Nat) (a : (Nat → Nat) × (Nat → Nat)) => ({ i := (j : Int), a := a.1, b := a.2 } : Vmi)) v.i.toNat (v.a, v.b) := by
    obtain ⟨i, a, b⟩ := v
    have hi0 : 0 ≤ i := hi0
    simp only [Int.toNat_of_nonneg hi0]
  have key := T_iter (mi_step c) (fun (j : Nat) (a : (Nat → Nat) × (Nat → Nat)) => ({ i := (j : Int), a := a.1, b := a.2 } : Vmi)) c.n2 (mi_g c) (fun a => (.exit 0, mi_fin c a)) (fun j a hj Ψ hΨ => ?_) (fun a Ψ hΨ => ?_) (fun a => by simp) (c.n2 - v.i.toNat) v.i.toNat (v.a, v.b) (by omega) (fun r => Φ (blkEx 0 r.1, r.2)) (by simpa [blkEx] using h1)
  · exact (congrArg (fun z => (loopTree (mi_step c) (c.n2 - v.i.toNat + 1) z).holds fun r => Φ (blkEx 0 r.1, r.2)) hv).mpr key
  · unfold mi_step
    refine (T.h_ite (fun _ => ?_) (fun hc => absurd hc (by simp <;> omega)))
    refine (T.h_need (by simp <;> omega) (T.h_need (by simp <;> omega) (T.h_need (by simp <;> omega) (T.h_need (by simp <;> omega) (T.h_need (by simp <;> omega) (T.h_need (by simp <;> omega) (T.h_need (by simp <;> omega) (T.h_need (by simp <;> omega) ?_))))))))
    refine T.h_leaf ?_
    rw [wrap_next (by omega)]
    exact hΨ
  · unfold mi_step
    refine (T.h_ite (fun hc => absurd hc (by simp <;> omega)) (fun _ => T.h_leaf hΨ.2))

def mi_dec (b : Mem) (f : FSt) : Option (Cmi × Vmi) :=
  match getSu 1 7 (findF 4 f.sl), getI (findF 5 f.sl), id b, f.mem with
  | some (0, n2_), some q_i, [some (.cols m_ [.fl .f32 f0_, .fl .f32 f1_, .fl .f32 f2_, .fl .f32 f3_, .fl .f32 f4_, .fl .f32 f5_, .fl .f32 f6_])], [_, some (.cols m2_ [.fl .f32 g0_, .fl .f32 g1_, .fl .f32 q_a, .fl .f32 g3_, .fl .f32 g4_, .fl .f32 q_b, .fl .f32 g6_])] => some ({ m := m_, f0 := f0_, f1 := f1_, f2 := f2_, f3 := f3_, f4 := f4_, f5 := f5_, f6 := f6_, n2 := n2_, m2 := m2_, g0 := g0_, g1 := g1_, g3 := g3_, g4 := g4_, g6 := g6_ }, { i := q_i, a := q_a, b := q_b })
  | _, _, _, _ => none
theorem mi_dec_ok (b : Mem) (f : FSt) (x : Cmi × Vmi) (h : mi_dec b f = some x) : b = x.1.base ∧ FLe b f (mi_st x.1 x.2) := by
  unfold mi_dec at h
  split at h
  · rename_i e0 e1 hb hm
    cases h
    have hb : b = _ := hb
    subst hb
    refine ⟨rfl, fle_of (fun p hp => ?_) (by rw [hm]; exact memLe_refl _)⟩
    simp only [List.mem_cons, List.not_mem_nil, or_false] at hp
    rcases hp with rfl | rfl
    · exact getSu_rel e0
    · exact getI_rel e1
  · cases h
noncomputable def mi_sum : SumF Try.prog 42 miRoot :=
  sumL (pathB miRoot 0) mi_dec (fun x => x.1.base) (fun x => mi_st x.1 x.2) mi_R mi_dec_ok (by
    intro code hc x
    have hc2 : code = .block 0 (.loop (bodyB miRoot 0)) := by
      have h : subR miRoot (pathB miRoot 0) = some (.block 0 (.loop (bodyB miRoot 0))) := by kernel_rfl
      rw [h] at hc; cases hc; rfl
    subst hc2
    exact mi_tri x)

noncomputable def k_sMi0 : Ctr Try.prog := (mkF0 Try.prog mix [k_l02Are, k_sOwn] 35 Try.f35 (bodyOf Try.f35) Try.func35 (by kernel_rfl) (by kernel_rfl) [0, 2, 3, 4, 5, 8, 14, 198] 42 (by kernel_rfl) (by kernel_rfl) [mi_sum]).mg
noncomputable def k_i_MirrorBodiesD1 : Ctr Try.prog := (mkF Try.prog mix [] 93 Try.f93 (bodyOf Try.f93) Try.func93 (by kernel_rfl) (by kernel_rfl) [0, 1, 2] 16 (by kernel_rfl) (by kernel_rfl)).mg
structure Cmj where
  n : Nat
  m : Nat
  f0 : Nat → Nat
  f1 : Nat → Nat
  f2 : Nat → Nat
  f3 : Nat → Nat
  f4 : Nat → Nat
  f5 : Nat → Nat
  f6 : Nat → Nat
  l : Int
def Cmj.base (c : Cmj) : Mem := [some (.cols c.m [.fl .f32 c.f0, .fl .f32 c.f1, .fl .f32 c.f2, .fl .f32 c.f3, .fl .f32 c.f4, .fl .f32 c.f5, .fl .f32 c.f6])]
structure Vmj where
  i : Int
  n : Nat
  a0 : Nat → Nat
  a1 : Nat → Nat
  a2 : Nat → Nat
  a3 : Nat → Nat
  a4 : Nat → Nat
  a5 : Nat → Nat
  a6 : Nat → Nat
noncomputable abbrev mjRoot : Code := bodyOf Try.f92
def mj_st (c : Cmj) (v : Vmj) : FSt := ⟨[(1, .one (.fn 93 [])), (6, .one (.so 1 7 v.n 2)), (13, .one (.su 0 7 0 c.n false)), (14, .one (.num .i64 c.l)), (15, .one (.num .i64 v.i))], c.base ++ [some (.grow v.n [.fl .f32 v.a0, .fl .f32 v.a1, .fl .f32 v.a2, .fl .f32 v.a3, .fl .f32 v.a4, .fl .f32 v.a5, .fl .f32 v.a6] 2 66), none]⟩
def mj_step (c : Cmj) (v : Vmj) : T (Nx Vmj) :=
  .ite (decide (v.1 < c.10)) (.need (decide (0 ≤ v.1) && decide (v.1 < ↑c.1)) (.need (decide (v.1.toNat + 0 < c.2)) (.need (decide (v.2 ≤ v.2)) (.need (true) (.need (decide (v.2 + 1 ≤ 1073741824)) (.leaf (.go { i := IntKind.i64.wrap (v.1 + 1), n := v.n + 1, a0 := fun q => if q = v.n then c.f0 (v.i.toNat + 0) else v.a0 q, a1 := fun q => if q = v.n then c.f1 (v.i.toNat + 0) else v.a1 q, a2 := fun q => if q = v.n then fneg FloatKind.f32 (c.f2 (v.i.toNat + 0)) else v.a2 q, a3 := fun q => if q = v.n then c.f3 (v.i.toNat + 0) else v.a3 q, a4 := fun q => if q = v.n then c.f4 (v.i.toNat + 0) else v.a4 q, a5 := fun q => if q = v.n then fneg FloatKind.f32 (c.f5 (v.i.toNat + 0)) else v.a5 q, a6 := fun q => if q = v.n then c.f6 (v.i.toNat + 0) else v.a6 q }))))))) (.leaf (.out (EX.exit 0) ⟨[(1, AV.one (SV.fn 93 [])), (6, AV.one (SV.so 1 7 v.n 2)), (13, AV.one (SV.su 0 7 0 c.1 false)), (14, AV.one (SV.num IntKind.i64 c.10)), (15, AV.one (SV.num IntKind.i64 v.1))], c.base ++ [some (.grow v.n [.fl .f32 v.a0, .fl .f32 v.a1, .fl .f32 v.a2, .fl .f32 v.a3, .fl .f32 v.a4, .fl .f32 v.a5, .fl .f32 v.a6] 2 66), none]⟩))
theorem mj_round (c : Cmj) (v : Vmj) : roundF Try.prog 30 [k_i_MirrorBodiesD1] mjRoot [] c.base [0, 1, 4, 5, 6, 8, 11, 13, 14, 15, 16, 198] [1, 6, 13, 14, 15] 0 (mj_st c v) = (mj_step c v).map (nxF (mj_st c)) := by kernel_rfl
def mj_g (c : Cmj) (j : Nat) (a : (Nat → Nat) × (Nat → Nat) × (Nat → Nat) × (Nat → Nat) × (Nat → Nat) × (Nat → Nat) × (Nat → Nat)) : (Nat → Nat) × (Nat → Nat) × (Nat → Nat) × (Nat → Nat) × (Nat → Nat) × (Nat → Nat) × (Nat → Nat) := (fun q => if q = j then c.f0 j else a.1 q, fun q => if q = j then c.f1 j else a.2.1 q, fun q => if q = j then fneg .f32 (c.f2 j) else a.2.2.1 q, fun q => if q = j then c.f3 j else a.2.2.2.1 q, fun q => if q = j then c.f4 j else a.2.2.2.2.1 q, fun q => if q = j then fneg .f32 (c.f5 j) else a.2.2.2.2.2.1 q, fun q => if q = j then c.f6 j else a.2.2.2.2.2.2 q)
def mj_ok (c : Cmj) (v : Vmj) : Bool := decide (c.n ≤ c.m ∧ c.n ≤ 1048576 ∧ c.l = (c.n : Int) ∧ v.n = v.i.toNat ∧ 0 ≤ v.i ∧ v.i ≤ ((c.n : Nat) : Int))
def mj_fin (c : Cmj) (a : (Nat → Nat) × (Nat → Nat) × (Nat → Nat) × (Nat → Nat) × (Nat → Nat) × (Nat → Nat) × (Nat → Nat)) : FSt := mj_st c ({ i := (c.n : Int), n := c.n, a0 := a.1, a1 := a.2.1, a2 := a.2.2.1, a3 := a.2.2.2.1, a4 := a.2.2.2.2.1, a5 := a.2.2.2.2.2.1, a6 := a.2.2.2.2.2.2 })
noncomputable def mj_R (x : Cmj × Vmj) : T (EX × FSt) := .need (mj_ok x.1 x.2) (.leaf (.normal, mj_fin x.1 (iter (mj_g x.1) (x.1.n - x.2.i.toNat) x.2.i.toNat (x.2.a0, x.2.a1, x.2.a2, x.2.a3, x.2.a4, x.2.a5, x.2.a6))))
theorem mj_tri (x : Cmj × Vmj) : TriR Try.prog 30 x.1.base (.block 0 (.loop (bodyB mjRoot 0))) (mj_st x.1 x.2) (mj_R x) := by
  obtain ⟨c, v⟩ := x
  refine triR_of mix (root := mjRoot) (by kernel_rfl) (by kernel_rfl) [0, 1, 4, 5, 6, 8, 11, 13, 14, 15, 16, 198] [1, 6, 13, 14, 15] (mj_st c) (mj_step c) (mj_round c) v _ ((c.n - v.i.toNat) + 1) (fun Φ h => ?_)
  have h0 := h.1
  have h1 : Φ (.normal, mj_fin c (iter (mj_g c) (c.n - v.i.toNat) v.i.toNat (v.a0, v.a1, v.a2, v.a3, v.a4, v.a5, v.a6))) := h.2
  simp only [mj_ok, decide_eq_true_eq] at h0
  obtain ⟨hk0, hk1, hk2, hk3, hi0, hin⟩ := h0
  have hv : v = (fun (j : Nat) (a : (Nat → Nat) × (Nat → Nat) × (Nat → Nat) × (Nat → Nat) × (Nat → Nat) × (Nat → Nat) × (Nat → Nat)) => ({ i := (j : Int), n := j, a0 := a.1, a1 := a.2.1, a2 := a.2.2.1, a3 := a.2.2.2.1, a4 := a.2.2.2.2.1, a5 := a.2.2.2.2.2.1, a6 := a.2.2.2.2.2.2 } : Vmj)) v.i.toNat (v.a0, v.a1, v.a2, v.a3, v.a4, v.a5, v.a6) := by
    obtain ⟨i, n, a0, a1, a2, a3, a4, a5, a6⟩ := v
    have hi0 : 0 ≤ i := hi0
    have hk3 : n = i.toNat := hk3
    subst hk3
    simp only [Int.toNat_of_nonneg hi0]
  have key := T_iter (mj_step c) (fun (j : Nat) (a : (Nat → Nat) × (Nat → Nat) × (Nat → Nat) × (Nat → Nat) × (Nat → Nat) × (Nat → Nat) × (Nat → Nat)) => ({ i := (j : Int), n := j, a0 := a.1, a1 := a.2.1, a2 := a.2.2.1, a3 := a.2.2.2.1, a4 := a.2.2.2.2.1, a5 := a.2.2.2.2.2.1, a6 := a.2.2.2.2.2.2 } : Vmj)) c.n (mj_g c) (fun a => (.exit 0, mj_fin c a)) (fun j a hj Ψ hΨ => ?_) (fun a Ψ hΨ => ?_) (fun a => by simp) (c.n - v.i.toNat) v.i.toNat (v.a0, v.a1, v.a2, v.a3, v.a4, v.a5, v.a6) (by omega) (fun r => Φ (blkEx 0 r.1, r.2)) (by simpa [blkEx] using h1)
  · exact (congrArg (fun z => (loopTree (mj_step c) (c.n - v.i.toNat + 1) z).holds fun r => Φ (blkEx 0 r.1, r.2)) hv).mpr key
  · unfold mj_step
    refine (T.h_ite (fun _ => ?_) (fun hc => absurd hc (by simp <;> omega)))
    refine (T.h_need (by simp <;> omega) (T.h_need (by simp <;> omega) (T.h_need (by simp <;> omega) (T.h_need (by simp <;> omega) (T.h_need (by simp <;> omega) ?_)))))
    refine T.h_leaf ?_
    rw [wrap_next (by omega)]
    exact hΨ
  · unfold mj_step
    refine (T.h_ite (fun hc => absurd hc (by simp <;> omega)) (fun _ => T.h_leaf hΨ.2))

def mj_dec (b : Mem) (f : FSt) : Option (Cmj × Vmj) :=
  match getFn 93 (findF 1 f.sl), getSu 0 7 (findF 13 f.sl), getI (findF 14 f.sl), getI (findF 15 f.sl), getSo 1 7 2 (findF 6 f.sl), id b, f.mem with
  | some (), some (0, n_), some l_, some q_i, some q_n, [some (.cols m_ [.fl .f32 f0_, .fl .f32 f1_, .fl .f32 f2_, .fl .f32 f3_, .fl .f32 f4_, .fl .f32 f5_, .fl .f32 f6_])], [_, some (.grow r_n [.fl .f32 q_a0, .fl .f32 q_a1, .fl .f32 q_a2, .fl .f32 q_a3, .fl .f32 q_a4, .fl .f32 q_a5, .fl .f32 q_a6] 2 66), none] => if q_n = r_n then some ({ n := n_, m := m_, f0 := f0_, f1 := f1_, f2 := f2_, f3 := f3_, f4 := f4_, f5 := f5_, f6 := f6_, l := l_ }, { i := q_i, n := q_n, a0 := q_a0, a1 := q_a1, a2 := q_a2, a3 := q_a3, a4 := q_a4, a5 := q_a5, a6 := q_a6 }) else none
  | _, _, _, _, _, _, _ => none
theorem mj_dec_ok (b : Mem) (f : FSt) (x : Cmj × Vmj) (h : mj_dec b f = some x) : b = x.1.base ∧ FLe b f (mj_st x.1 x.2) := by
  unfold mj_dec at h
  split at h
  · rename_i e0 e1 e2 e3 e4 hb hm
    obtain ⟨hbo, h9⟩ := ite_some h
    clear h
    subst hbo
    have h := h9
    cases h
    have hb : b = _ := hb
    subst hb
    refine ⟨rfl, fle_of (fun p hp => ?_) (by rw [hm]; exact memLe_refl _)⟩
    simp only [List.mem_cons, List.not_mem_nil, or_false] at hp
    rcases hp with rfl | rfl | rfl | rfl | rfl
    · exact getFn_rel e0
    · exact getSo_rel e4
    · exact getSu_rel e1
    · exact getI_rel e2
    · exact getI_rel e3
  · cases h
noncomputable def mj_sum : SumF Try.prog 30 mjRoot :=
  sumL (pathB mjRoot 0) mj_dec (fun x => x.1.base) (fun x => mj_st x.1 x.2) mj_R mj_dec_ok (by
    intro code hc x
    have hc2 : code = .block 0 (.loop (bodyB mjRoot 0)) := by
      have h : subR mjRoot (pathB mjRoot 0) = some (.block 0 (.loop (bodyB mjRoot 0))) := by kernel_rfl
      rw [h] at hc; cases hc; rfl
    subst hc2
    exact mj_tri x)

noncomputable def k_iAs0 : Ctr Try.prog := (mkF0 Try.prog mix [k_AreBodies] 90 Try.f90 (bodyOf Try.f90) Try.func90 (by kernel_rfl) (by kernel_rfl) [0, 2, 3, 6, 198] 8 (by kernel_rfl) (by kernel_rfl) []).mg
noncomputable def k_iAs : Ctr Try.prog := k_iAs0.su.own
noncomputable def k_iCh0 : Ctr Try.prog := (mkF0 Try.prog mix [k_i_MirrorBodiesD1, k_AreBodies, k_iAs] 92 Try.f92 (bodyOf Try.f92) Try.func92 (by kernel_rfl) (by kernel_rfl) [0, 1, 4, 5, 6, 8, 11, 13, 14, 15, 16, 198] 30 (by kernel_rfl) (by kernel_rfl) [mj_sum]).mg
theorem okFrom_congr {f0 f1 f2 f3 f4 f5 f6 g0 g1 g2 g3 g4 g5 g6 : Nat → Nat} : ∀ (n s : Nat), (∀ i, s ≤ i → i < s + n → okBody (f0 i) (f1 i) (f2 i) (f3 i) (f4 i) (f5 i) (f6 i) = okBody (g0 i) (g1 i) (g2 i) (g3 i) (g4 i) (g5 i) (g6 i)) → okFrom f0 f1 f2 f3 f4 f5 f6 n s = okFrom g0 g1 g2 g3 g4 g5 g6 n s
  | 0, _, _ => rfl
  | n + 1, s, h => by
    unfold okFrom
    rw [h s (Nat.le_refl s) (by omega), okFrom_congr n (s + 1) fun i h1 h2 => h i (by omega) (by omega)]
theorem areB_congr {n : Nat} {f0 f1 f2 f3 f4 f5 f6 g0 g1 g2 g3 g4 g5 g6 : Nat → Nat} (h : ∀ i, i < n → okBody (f0 i) (f1 i) (f2 i) (f3 i) (f4 i) (f5 i) (f6 i) = okBody (g0 i) (g1 i) (g2 i) (g3 i) (g4 i) (g5 i) (g6 i)) : areB n f0 f1 f2 f3 f4 f5 f6 = areB n g0 g1 g2 g3 g4 g5 g6 := by
  unfold areB
  rw [okFrom_congr n 0 fun i _ h2 => h i (by omega)]
def run_sMi : List AV → Mem → T Res
  | [.one (.su 0 7 0 n false)], [some (.cols m [.fl .f32 f0, .fl .f32 f1, .fl .f32 f2, .fl .f32 f3, .fl .f32 f4, .fl .f32 f5, .fl .f32 f6])] => .need (decide (n ≤ m)) (.ite (areB n f0 f1 f2 f3 f4 f5 f6) (.leaf (.tup [.one (.su 1 7 0 n false), .one (.tt true)], [some (.cols n [.fl .f32 f0, .fl .f32 f1, .fl .f32 fun q => fneg .f32 (f2 q), .fl .f32 f3, .fl .f32 f4, .fl .f32 fun q => fneg .f32 (f5 q), .fl .f32 f6])])) (.leaf (.tup [.one (.val (.slice none 0 0)), .one (.tt false)], [])))
  | _, _ => .fail
def run_iMi : List AV → Mem → T Res
  | [.one (.su 0 7 0 n false)], [some (.cols m [.fl .f32 f0, .fl .f32 f1, .fl .f32 f2, .fl .f32 f3, .fl .f32 f4, .fl .f32 f5, .fl .f32 f6])] => .need (decide (n ≤ m)) (.ite (areB n f0 f1 f2 f3 f4 f5 f6) (.leaf (.tup [.one (.su 1 7 0 n false), .one (.tt true)], [some (.cols n [.fl .f32 f0, .fl .f32 f1, .fl .f32 fun q => fneg .f32 (f2 q), .fl .f32 f3, .fl .f32 f4, .fl .f32 fun q => fneg .f32 (f5 q), .fl .f32 f6]), none])) (.leaf (.tup [.one (.val (.slice none 0 0)), .one (.tt false)], [])))
  | _, _ => .fail
def miEnd (n m : Nat) (f0 f1 f2 f3 f4 f5 f6 : Nat → Nat) : (Nat → Nat) × (Nat → Nat) := iter (mi_g { m := m, f0 := f0, f1 := f1, f2 := f2, f3 := f3, f4 := f4, f5 := f5, f6 := f6, n2 := n, m2 := n, g0 := f0, g1 := f1, g3 := f3, g4 := f4, g6 := f6 }) n 0 (f2, f5)
theorem sMi0_ev (n m : Nat) (f0 f1 f2 f3 f4 f5 f6 : Nat → Nat) : k_sMi0.run [.one (.su 0 7 0 n false)] [some (.cols m [.fl .f32 f0, .fl .f32 f1, .fl .f32 f2, .fl .f32 f3, .fl .f32 f4, .fl .f32 f5, .fl .f32 f6])] =
    .need (decide (n ≤ m)) (.need (bif !areB n f0 f1 f2 f3 f4 f5 f6 then true else decide (n ≤ m)) (.need (bif !areB n f0 f1 f2 f3 f4 f5 f6 then true else decide (n ≤ 1073741824)) (.need (bif !areB n f0 f1 f2 f3 f4 f5 f6 then true else mi_ok { m := m, f0 := f0, f1 := f1, f2 := f2, f3 := f3, f4 := f4, f5 := f5, f6 := f6, n2 := n, m2 := n, g0 := f0, g1 := f1, g3 := f3, g4 := f4, g6 := f6 } { i := 0, a := f2, b := f5 })
      (.ite (!areB n f0 f1 f2 f3 f4 f5 f6) (.leaf (.tup [.one (.val (.slice none 0 0)), .one (.tt false)], [])) (.leaf (.tup [.one (.su 1 7 0 n false), .one (.tt true)], [some (.cols n [.fl .f32 f0, .fl .f32 f1, .fl .f32 (miEnd n m f0 f1 f2 f3 f4 f5 f6).1, .fl .f32 f3, .fl .f32 f4, .fl .f32 (miEnd n m f0 f1 f2 f3 f4 f5 f6).2, .fl .f32 f6])])))))) := by kernel_rfl
theorem miEnd_at (n m : Nat) (f0 f1 f2 f3 f4 f5 f6 : Nat → Nat) (i : Nat) (hi : i < n) : (miEnd n m f0 f1 f2 f3 f4 f5 f6).1 i = fneg .f32 (f2 i) ∧ (miEnd n m f0 f1 f2 f3 f4 f5 f6).2 i = fneg .f32 (f5 i) := by
  have hk : ∀ (j : Nat) (f : Nat → Nat) (q : Nat), q ≠ j → negAt j f q = f q := fun j f q h => if_neg h
  have hg : ∀ (j : Nat) (f : Nat → Nat), negAt j f j = fneg .f32 (f j) := fun j f => if_pos rfl
  exact ⟨turn_at (mi_g { m := m, f0 := f0, f1 := f1, f2 := f2, f3 := f3, f4 := f4, f5 := f5, f6 := f6, n2 := n, m2 := n, g0 := f0, g1 := f1, g3 := f3, g4 := f4, g6 := f6 }) (fun a => a.1) (fneg .f32) (fun j a q h => hk j a.1 q h) (fun j a => hg j a.1) n 0 (f2, f5) i (Nat.zero_le i) (by omega),
    turn_at (mi_g { m := m, f0 := f0, f1 := f1, f2 := f2, f3 := f3, f4 := f4, f5 := f5, f6 := f6, n2 := n, m2 := n, g0 := f0, g1 := f1, g3 := f3, g4 := f4, g6 := f6 }) (fun a => a.2) (fneg .f32) (fun j a q h => hk j a.2 q h) (fun j a => hg j a.2) n 0 (f2, f5) i (Nat.zero_le i) (by omega)⟩
noncomputable def k_sMi : Ctr Try.prog := (k_sMi0.to run_sMi (by
  intro args mem _
  unfold run_sMi
  split
  · rename_i n m f0 f1 f2 f3 f4 f5 f6 _
    rw [sMi0_ev]
    constructor
    intro Φ hΦ h
    have hnm := of_decide_eq_true h.1
    have hle : (!areB n f0 f1 f2 f3 f4 f5 f6) = false → n ≤ 16 := fun hA => areB_le (by simpa using hA)
    refine T.h_need h.1 (T.h_need (needT fun hA => h.1) (T.h_need (needT fun hA => decide_eq_true ?_) (T.h_need (needT fun hA => decide_eq_true ?_) (T.h_ite (fun hA => T.h_leaf (h.2.2 (by simpa using hA))) (fun hA => T.h_leaf (hΦ _ (.tup [.one (.su 1 7 0 n false), .one (.tt true)], [some (.cols n [.fl .f32 f0, .fl .f32 f1, .fl .f32 fun q => fneg .f32 (f2 q), .fl .f32 f3, .fl .f32 f4, .fl .f32 fun q => fneg .f32 (f5 q), .fl .f32 f6])]) ⟨⟨BlLe.cols_eq (fun i hi => ?_) rfl, trivial⟩, fun _ _ hv => hv⟩ (h.2.1 (by simpa using hA))))))))
    · have := hle hA; omega
    · have := hle hA
      exact ⟨by show n ≤ 1099511627776; omega, Nat.le_refl n, Int.le_refl 0, Int.natCast_nonneg n⟩
    · obtain ⟨h1, h2⟩ := miEnd_at n m f0 f1 f2 f3 f4 f5 f6 i hi
      simp only [colsAt, Col.at, h1, h2]
  · exact Weak.fail _)).su.own
def mjEnd (n m : Nat) (f0 f1 f2 f3 f4 f5 f6 : Nat → Nat) : (Nat → Nat) × (Nat → Nat) × (Nat → Nat) × (Nat → Nat) × (Nat → Nat) × (Nat → Nat) × (Nat → Nat) := iter (mj_g { n := n, m := m, f0 := f0, f1 := f1, f2 := f2, f3 := f3, f4 := f4, f5 := f5, f6 := f6, l := (n : Int) }) n 0 ((fun _ => canon .f32 0 : Nat → Nat), (fun _ => canon .f32 0 : Nat → Nat), (fun _ => canon .f32 0 : Nat → Nat), (fun _ => canon .f32 0 : Nat → Nat), (fun _ => canon .f32 0 : Nat → Nat), (fun _ => canon .f32 0 : Nat → Nat), (fun _ => canon .f32 0 : Nat → Nat))
theorem iCh0_ev (n m : Nat) (f0 f1 f2 f3 f4 f5 f6 : Nat → Nat) : k_iCh0.run [.one (.su 0 7 0 n false), .one (.fn 93 [])] [some (.cols m [.fl .f32 f0, .fl .f32 f1, .fl .f32 f2, .fl .f32 f3, .fl .f32 f4, .fl .f32 f5, .fl .f32 f6])] =
    .need (decide (n ≤ m)) (.need (bif !areB n f0 f1 f2 f3 f4 f5 f6 then true else mj_ok { n := n, m := m, f0 := f0, f1 := f1, f2 := f2, f3 := f3, f4 := f4, f5 := f5, f6 := f6, l := (n : Int) } { i := 0, n := 0, a0 := (fun _ => canon .f32 0 : Nat → Nat), a1 := (fun _ => canon .f32 0 : Nat → Nat), a2 := (fun _ => canon .f32 0 : Nat → Nat), a3 := (fun _ => canon .f32 0 : Nat → Nat), a4 := (fun _ => canon .f32 0 : Nat → Nat), a5 := (fun _ => canon .f32 0 : Nat → Nat), a6 := (fun _ => canon .f32 0 : Nat → Nat) }) (.need (bif !areB n f0 f1 f2 f3 f4 f5 f6 then true else decide (n ≤ n))
      (.ite (!areB n f0 f1 f2 f3 f4 f5 f6) (.leaf (.tup [.one (.val (.slice none 0 0)), .one (.tt false)], [])) (.ite (!areB n (mjEnd n m f0 f1 f2 f3 f4 f5 f6).1 (mjEnd n m f0 f1 f2 f3 f4 f5 f6).2.1 (mjEnd n m f0 f1 f2 f3 f4 f5 f6).2.2.1 (mjEnd n m f0 f1 f2 f3 f4 f5 f6).2.2.2.1 (mjEnd n m f0 f1 f2 f3 f4 f5 f6).2.2.2.2.1 (mjEnd n m f0 f1 f2 f3 f4 f5 f6).2.2.2.2.2.1 (mjEnd n m f0 f1 f2 f3 f4 f5 f6).2.2.2.2.2.2) (.leaf (.tup [.one (.val (.slice none 0 0)), .one (.tt false)], [])) (.leaf (.tup [.one (.su 1 7 0 n false), .one (.tt true)], [some (.grow n [.fl .f32 (mjEnd n m f0 f1 f2 f3 f4 f5 f6).1, .fl .f32 (mjEnd n m f0 f1 f2 f3 f4 f5 f6).2.1, .fl .f32 (mjEnd n m f0 f1 f2 f3 f4 f5 f6).2.2.1, .fl .f32 (mjEnd n m f0 f1 f2 f3 f4 f5 f6).2.2.2.1, .fl .f32 (mjEnd n m f0 f1 f2 f3 f4 f5 f6).2.2.2.2.1, .fl .f32 (mjEnd n m f0 f1 f2 f3 f4 f5 f6).2.2.2.2.2.1, .fl .f32 (mjEnd n m f0 f1 f2 f3 f4 f5 f6).2.2.2.2.2.2] 2 66), none])))))) := by kernel_rfl
theorem mjEnd_at (n m : Nat) (f0 f1 f2 f3 f4 f5 f6 : Nat → Nat) (i : Nat) (hi : i < n) : (mjEnd n m f0 f1 f2 f3 f4 f5 f6).1 i = f0 i ∧ (mjEnd n m f0 f1 f2 f3 f4 f5 f6).2.1 i = f1 i ∧ (mjEnd n m f0 f1 f2 f3 f4 f5 f6).2.2.1 i = fneg .f32 (f2 i) ∧ (mjEnd n m f0 f1 f2 f3 f4 f5 f6).2.2.2.1 i = f3 i ∧ (mjEnd n m f0 f1 f2 f3 f4 f5 f6).2.2.2.2.1 i = f4 i ∧ (mjEnd n m f0 f1 f2 f3 f4 f5 f6).2.2.2.2.2.1 i = fneg .f32 (f5 i) ∧ (mjEnd n m f0 f1 f2 f3 f4 f5 f6).2.2.2.2.2.2 i = f6 i :=
  ⟨fill_at (mj_g { n := n, m := m, f0 := f0, f1 := f1, f2 := f2, f3 := f3, f4 := f4, f5 := f5, f6 := f6, l := (n : Int) }) (fun a => a.1) (f0) (fun j a q h => if_neg h) (fun j a => if_pos rfl) n 0 _ i (Nat.zero_le i) (by omega),
   fill_at (mj_g { n := n, m := m, f0 := f0, f1 := f1, f2 := f2, f3 := f3, f4 := f4, f5 := f5, f6 := f6, l := (n : Int) }) (fun a => a.2.1) (f1) (fun j a q h => if_neg h) (fun j a => if_pos rfl) n 0 _ i (Nat.zero_le i) (by omega),
   fill_at (mj_g { n := n, m := m, f0 := f0, f1 := f1, f2 := f2, f3 := f3, f4 := f4, f5 := f5, f6 := f6, l := (n : Int) }) (fun a => a.2.2.1) (fun j => fneg .f32 (f2 j)) (fun j a q h => if_neg h) (fun j a => if_pos rfl) n 0 _ i (Nat.zero_le i) (by omega),
   fill_at (mj_g { n := n, m := m, f0 := f0, f1 := f1, f2 := f2, f3 := f3, f4 := f4, f5 := f5, f6 := f6, l := (n : Int) }) (fun a => a.2.2.2.1) (f3) (fun j a q h => if_neg h) (fun j a => if_pos rfl) n 0 _ i (Nat.zero_le i) (by omega),
   fill_at (mj_g { n := n, m := m, f0 := f0, f1 := f1, f2 := f2, f3 := f3, f4 := f4, f5 := f5, f6 := f6, l := (n : Int) }) (fun a => a.2.2.2.2.1) (f4) (fun j a q h => if_neg h) (fun j a => if_pos rfl) n 0 _ i (Nat.zero_le i) (by omega),
   fill_at (mj_g { n := n, m := m, f0 := f0, f1 := f1, f2 := f2, f3 := f3, f4 := f4, f5 := f5, f6 := f6, l := (n : Int) }) (fun a => a.2.2.2.2.2.1) (fun j => fneg .f32 (f5 j)) (fun j a q h => if_neg h) (fun j a => if_pos rfl) n 0 _ i (Nat.zero_le i) (by omega),
   fill_at (mj_g { n := n, m := m, f0 := f0, f1 := f1, f2 := f2, f3 := f3, f4 := f4, f5 := f5, f6 := f6, l := (n : Int) }) (fun a => a.2.2.2.2.2.2) (f6) (fun j a q h => if_neg h) (fun j a => if_pos rfl) n 0 _ i (Nat.zero_le i) (by omega)⟩
theorem areB_mirr (n m : Nat) (f0 f1 f2 f3 f4 f5 f6 : Nat → Nat) : areB n (mjEnd n m f0 f1 f2 f3 f4 f5 f6).1 (mjEnd n m f0 f1 f2 f3 f4 f5 f6).2.1 (mjEnd n m f0 f1 f2 f3 f4 f5 f6).2.2.1 (mjEnd n m f0 f1 f2 f3 f4 f5 f6).2.2.2.1 (mjEnd n m f0 f1 f2 f3 f4 f5 f6).2.2.2.2.1 (mjEnd n m f0 f1 f2 f3 f4 f5 f6).2.2.2.2.2.1 (mjEnd n m f0 f1 f2 f3 f4 f5 f6).2.2.2.2.2.2 = areB n f0 f1 f2 f3 f4 f5 f6 := by
  refine areB_congr fun i hi => ?_
  obtain ⟨h0, h1, h2, h3, h4, h5, h6⟩ := mjEnd_at n m f0 f1 f2 f3 f4 f5 f6 i hi
  rw [h0, h1, h2, h3, h4, h5, h6]
  unfold okBody fin3
  rw [fin_fneg, fin_fneg]
def run_iCh : List AV → Mem → T Res
  | [.one (.su 0 7 0 n false), .one (.fn g [])], [some (.cols m [.fl .f32 f0, .fl .f32 f1, .fl .f32 f2, .fl .f32 f3, .fl .f32 f4, .fl .f32 f5, .fl .f32 f6])] => match Nat.beq g 93 with
    | true => .need (decide (n ≤ m)) (.ite (areB n f0 f1 f2 f3 f4 f5 f6) (.leaf (.tup [.one (.su 1 7 0 n false), .one (.tt true)], [some (.cols n [.fl .f32 f0, .fl .f32 f1, .fl .f32 fun q => fneg .f32 (f2 q), .fl .f32 f3, .fl .f32 f4, .fl .f32 fun q => fneg .f32 (f5 q), .fl .f32 f6]), none])) (.leaf (.tup [.one (.val (.slice none 0 0)), .one (.tt false)], [])))
    | false => .fail
  | _, _ => .fail
noncomputable def k_iCh : Ctr Try.prog := (k_iCh0.to run_iCh (by
  intro args mem _
  unfold run_iCh
  split
  · rename_i n g m f0 f1 f2 f3 f4 f5 f6 _
    split
    · rename_i hg
      obtain rfl : g = 93 := Nat.eq_of_beq_eq_true hg
      rw [iCh0_ev]
      constructor
      intro Φ hΦ h
      have hnm := of_decide_eq_true h.1
      have hle : (!areB n f0 f1 f2 f3 f4 f5 f6) = false → n ≤ 16 := fun hA => areB_le (by simpa using hA)
      refine T.h_need h.1 (T.h_need (needT fun hA => decide_eq_true ?_) (T.h_need (needT fun hA => decide_eq_true (Nat.le_refl n)) (T.h_ite (fun hA => T.h_leaf (h.2.2 (by simpa using hA))) (fun hA => T.h_ite (fun hB => ?_) (fun hB => T.h_leaf (hΦ _ (.tup [.one (.su 1 7 0 n false), .one (.tt true)], [some (.cols n [.fl .f32 f0, .fl .f32 f1, .fl .f32 fun q => fneg .f32 (f2 q), .fl .f32 f3, .fl .f32 f4, .fl .f32 fun q => fneg .f32 (f5 q), .fl .f32 f6]), none]) ⟨⟨BlLe.grow_cols (fun i hi => ?_) rfl, trivial⟩, fun _ _ hv => hv⟩ (h.2.1 (by simpa using hA))))))))
      · have := hle hA
        exact ⟨by show n ≤ m; omega, by show n ≤ 1048576; omega, rfl, rfl, Int.le_refl 0, Int.natCast_nonneg n⟩
      · rw [areB_mirr] at hB
        rw [hA] at hB; cases hB
      · obtain ⟨h0, h1, h2, h3, h4, h5, h6⟩ := mjEnd_at n m f0 f1 f2 f3 f4 f5 f6 i hi
        simp only [colsAt, Col.at, h0, h1, h2, h3, h4, h5, h6]
    · exact Weak.fail _
  · exact Weak.fail _)).su.own
noncomputable def k_iMi0 : Ctr Try.prog := (mkF0 Try.prog mix [k_iCh] 36 Try.f36 (bodyOf Try.f36) Try.func36 (by kernel_rfl) (by kernel_rfl) [0, 2, 3, 198] 8 (by kernel_rfl) (by kernel_rfl) []).mg
theorem iMi0_ev (n m : Nat) (f0 f1 f2 f3 f4 f5 f6 : Nat → Nat) : k_iMi0.run [.one (.su 0 7 0 n false)] [some (.cols m [.fl .f32 f0, .fl .f32 f1, .fl .f32 f2, .fl .f32 f3, .fl .f32 f4, .fl .f32 f5, .fl .f32 f6])] =
    .need (decide (n ≤ m)) (.ite (areB n f0 f1 f2 f3 f4 f5 f6) (.leaf (.tup [.one (.su 1 7 0 n false), .one (.tt true)], [some (.cols n [.fl .f32 f0, .fl .f32 f1, .fl .f32 fun q => fneg .f32 (f2 q), .fl .f32 f3, .fl .f32 f4, .fl .f32 fun q => fneg .f32 (f5 q), .fl .f32 f6]), none])) (.leaf (.tup [.one (.val (.slice none 0 0)), .one (.tt false)], []))) := by kernel_rfl
noncomputable def k_iMi : Ctr Try.prog := (k_iMi0.to run_iMi (by
  intro args mem _
  unfold run_iMi
  split
  · exact Weak.of_eq (iMi0_ev _ _ _ _ _ _ _ _ _)
  · exact Weak.fail _)).su.own

end Go.Proofs.Ytjcofjelfaoecaa
