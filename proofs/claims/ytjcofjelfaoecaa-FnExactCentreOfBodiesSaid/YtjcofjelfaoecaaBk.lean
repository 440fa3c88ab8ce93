/-
  BackBodies: both functions in the same words. No conditions.
-/
import Derived.Test.YtjcofjelfaoecaaMi
namespace Go.Proofs.Ytjcofjelfaoecaa
set_option linter.unusedVariables false
set_option linter.unusedSimpArgs false
open Go.RowKit

def getV3 : AV → Option (Nat × Nat × Nat)
  | .agg [.fl .f32 a, .fl .f32 b, .fl .f32 c] => some (a, b, c)
  | _ => none
theorem getV3_rel {a : AV} {x y z : Nat} (h : getV3 a = some (x, y, z)) (ρ : Rho) (v : Value) (hv : a.rel ρ v) : (AV.agg [.fl .f32 x, .fl .f32 y, .fl .f32 z]).rel ρ v := by
  unfold getV3 at h
  split at h
  · cases h; exact hv
  · cases h
theorem map_at {A B : Type} (g : Nat → A → A) (p : A → Nat → B) (f : B → B) (hk : ∀ j a q, q ≠ j → p (g j a) q = p a q) (hg : ∀ j a, p (g j a) j = f (p a j)) : ∀ (c s : Nat) (a : A) (q : Nat), (q < s ∨ s + c ≤ q → p (iter g c s a) q = p a q) ∧ (s ≤ q → q < s + c → p (iter g c s a) q = f (p a q))
  | 0, s, a, q => ⟨fun _ => rfl, fun h1 h2 => by omega⟩
  | c + 1, s, a, q => by
    have ih := map_at g p f hk hg c (s + 1) (g s a) q
    have e : iter g (c + 1) s a = iter g c (s + 1) (g s a) := rfl
    rw [e]
    refine ⟨fun h => ?_, fun h1 h2 => ?_⟩
    · rw [ih.1 (by omega), hk s a q (by omega)]
    · by_cases hq : q = s
      · subst hq
        rw [ih.1 (by omega), hg]
      · rw [ih.2 (by omega) (by omega), hk s a q hq]
def getFnC (f : FuncId) (l : List (Nat × Nat × Nat × Nat)) : AV → Option Unit
  | .one (.fn g c) => if g = f ∧ c = l then some () else none
  | _ => none
theorem getFnC_rel {f : FuncId} {l : List (Nat × Nat × Nat × Nat)} {a : AV} (h : getFnC f l a = some ()) (ρ : Rho) (v : Value) (hv : a.rel ρ v) : (AV.one (.fn f l)).rel ρ v := by
  unfold getFnC at h
  split at h
  · split at h
    · rename_i hk; obtain ⟨h1, h2⟩ := hk; subst h1; subst h2; exact hv
    · cases h
  · cases h
noncomputable def k_s_l02Minus : Ctr Try.prog := (mkF Try.prog mix [] 94 Try.f94 (bodyOf Try.f94) Try.func94 (by kernel_rfl) (by kernel_rfl) [0, 1, 2] 13 (by kernel_rfl) (by kernel_rfl)).mg
structure Cbks where
  m : Nat
  f0 : Nat → Nat
  f1 : Nat → Nat
  f2 : Nat → Nat
  f3 : Nat → Nat
  f4 : Nat → Nat
  f5 : Nat → Nat
  f6 : Nat → Nat
  n2 : Nat
  m2 : Nat
  g0 : Nat → Nat
  g1 : Nat → Nat
  g2 : Nat → Nat
  g6 : Nat → Nat
def Cbks.base (c : Cbks) : Mem := [some (.cols c.m [.fl .f32 c.f0, .fl .f32 c.f1, .fl .f32 c.f2, .fl .f32 c.f3, .fl .f32 c.f4, .fl .f32 c.f5, .fl .f32 c.f6])]
structure Vbks where
  i : Int
  a3 : Nat → Nat
  a4 : Nat → Nat
  a5 : Nat → Nat
noncomputable abbrev bksRoot : Code := bodyOf Try.f37
def bks_st (c : Cbks) (v : Vbks) : FSt := ⟨[(4, .one (.su 1 7 0 c.n2 false)), (5, .one (.num .i64 v.i))], c.base ++ [some (.cols c.m2 [.fl .f32 c.g0, .fl .f32 c.g1, .fl .f32 c.g2, .fl .f32 v.a3, .fl .f32 v.a4, .fl .f32 v.a5, .fl .f32 c.g6])]⟩
def bks_step (c : Cbks) (v : Vbks) : T (Nx Vbks) :=
  .ite (decide (v.1 < ↑c.9)) (.need (decide (0 ≤ v.1) && decide (v.1 < ↑c.9)) (.need (decide (v.1.toNat + 0 < c.10)) (.need (decide (0 ≤ v.1) && decide (v.1 < ↑c.9)) (.need (decide (v.1.toNat + 0 < c.10)) (.leaf (.go { i := IntKind.i64.wrap (v.1 + 1), a3 := fun q => if q = v.i.toNat + 0 then fneg FloatKind.f32 (v.a3 (v.i.toNat + 0)) else v.a3 q, a4 := fun q => if q = v.i.toNat + 0 then fneg FloatKind.f32 (v.a4 (v.i.toNat + 0)) else v.a4 q, a5 := fun q => if q = v.i.toNat + 0 then fneg FloatKind.f32 (v.a5 (v.i.toNat + 0)) else v.a5 q })))))) (.leaf (.out (EX.exit 0) ⟨[(4, AV.one (SV.su 1 7 0 c.9 false)), (5, AV.one (SV.num IntKind.i64 v.1))], c.base ++ [some (.cols c.m2 [.fl .f32 c.g0, .fl .f32 c.g1, .fl .f32 c.g2, .fl .f32 v.a3, .fl .f32 v.a4, .fl .f32 v.a5, .fl .f32 c.g6])]⟩))
theorem bks_round (c : Cbks) (v : Vbks) : roundF Try.prog 28 [k_s_l02Minus] bksRoot [] c.base [0, 2, 3, 4, 5, 8, 14, 198] [4, 5] 0 (bks_st c v) = (bks_step c v).map (nxF (bks_st c)) := by kernel_rfl
def bks_g (c : Cbks) (j : Nat) (a : (Nat → Nat) × (Nat → Nat) × (Nat → Nat)) : (Nat → Nat) × (Nat → Nat) × (Nat → Nat) := (fun q => if q = j then fneg .f32 (a.1 j) else a.1 q, fun q => if q = j then fneg .f32 (a.2.1 j) else a.2.1 q, fun q => if q = j then fneg .f32 (a.2.2 j) else a.2.2 q)
def bks_ok (c : Cbks) (v : Vbks) : Bool := decide (c.n2 ≤ 1099511627776 ∧ c.n2 ≤ c.m2 ∧ 0 ≤ v.i ∧ v.i ≤ ((c.n2 : Nat) : Int))
def bks_fin (c : Cbks) (a : (Nat → Nat) × (Nat → Nat) × (Nat → Nat)) : FSt := bks_st c ({ i := (c.n2 : Int), a3 := a.1, a4 := a.2.1, a5 := a.2.2 })
noncomputable def bks_R (x : Cbks × Vbks) : T (EX × FSt) := .need (bks_ok x.1 x.2) (.leaf (.normal, bks_fin x.1 (iter (bks_g x.1) (x.1.n2 - x.2.i.toNat) x.2.i.toNat (x.2.a3, x.2.a4, x.2.a5))))
theorem bks_tri (x : Cbks × Vbks) : TriR Try.prog 28 x.1.base (.block 0 (.loop (bodyB bksRoot 0))) (bks_st x.1 x.2) (bks_R x) := by
  obtain ⟨c, v⟩ := x
  refine triR_of mix (root := bksRoot) (by kernel_rfl) (by kernel_rfl) [0, 2, 3, 4, 5, 8, 14, 198] [4, 5] (bks_st c) (bks_step c) (bks_round c) v _ ((c.n2 - v.i.toNat) + 1) (fun Φ h => ?_)
  have h0 := h.1
  have h1 : Φ (.normal, bks_fin c (iter (bks_g c) (c.n2 - v.i.toNat) v.i.toNat (v.a3, v.a4, v.a5))) := h.2
  simp only [bks_ok, decide_eq_true_eq] at h0
  obtain ⟨hk0, hk1, hi0, hin⟩ := h0
  have hv : v = (fun (j : Nat) (a : (Nat → Nat) × (Nat → Nat) × (Nat → Nat)) => ({ i := (j : Int), a3 := a.1, a4 := a.2.1, a5 := a.2.2 } : Vbks)) v.i.toNat (v.a3, v.a4, v.a5) := by
    obtain ⟨i, a3, a4, a5⟩ := v
    have hi0 : 0 ≤ i := hi0
    simp only [Int.toNat_of_nonneg hi0]
  have key := T_iter (bks_step c) (fun (j : Nat) (a : (Nat → Nat) × (Nat → Nat) × (Nat → Nat)) => ({ i := (j : Int), a3 := a.1, a4 := a.2.1, a5 := a.2.2 } : Vbks)) c.n2 (bks_g c) (fun a => (.exit 0, bks_fin c a)) (fun j a hj Ψ hΨ => ?_) (fun a Ψ hΨ => ?_) (fun a => by simp) (c.n2 - v.i.toNat) v.i.toNat (v.a3, v.a4, v.a5) (by omega) (fun r => Φ (blkEx 0 r.1, r.2)) (by simpa [blkEx] using h1)
  · exact (congrArg (fun z => (loopTree (bks_step c) (c.n2 - v.i.toNat + 1) z).holds fun r => Φ (blkEx 0 r.1, r.2)) hv).mpr key
  · unfold bks_step
    refine (T.h_ite (fun _ => ?_) (fun hc => absurd hc (by simp <;> omega)))
    refine (T.h_need (by simp <;> omega) (T.h_need (by simp <;> omega) (T.h_need (by simp <;> omega) (T.h_need (by simp <;> omega) ?_))))
    refine T.h_leaf ?_
    rw [wrap_next (by omega)]
    exact hΨ
  · unfold bks_step
    refine (T.h_ite (fun hc => absurd hc (by simp <;> omega)) (fun _ => T.h_leaf hΨ.2))

def bks_dec (b : Mem) (f : FSt) : Option (Cbks × Vbks) :=
  match getSu 1 7 (findF 4 f.sl), getI (findF 5 f.sl), id b, f.mem with
  | some (0, n2_), some q_i, [some (.cols m_ [.fl .f32 f0_, .fl .f32 f1_, .fl .f32 f2_, .fl .f32 f3_, .fl .f32 f4_, .fl .f32 f5_, .fl .f32 f6_])], [_, some (.cols m2_ [.fl .f32 g0_, .fl .f32 g1_, .fl .f32 g2_, .fl .f32 q_a3, .fl .f32 q_a4, .fl .f32 q_a5, .fl .f32 g6_])] => some ({ m := m_, f0 := f0_, f1 := f1_, f2 := f2_, f3 := f3_, f4 := f4_, f5 := f5_, f6 := f6_, n2 := n2_, m2 := m2_, g0 := g0_, g1 := g1_, g2 := g2_, g6 := g6_ }, { i := q_i, a3 := q_a3, a4 := q_a4, a5 := q_a5 })
  | _, _, _, _ => none
theorem bks_dec_ok (b : Mem) (f : FSt) (x : Cbks × Vbks) (h : bks_dec b f = some x) : b = x.1.base ∧ FLe b f (bks_st x.1 x.2) := by
  unfold bks_dec at h
  split at h
  · rename_i e0 e1 hb hm
    cases h
    have hb : b = _ := hb
    subst hb
    refine ⟨rfl, fle_of (fun p hp => ?_) (by rw [hm]; exact memLe_refl _)⟩
    simp only [List.mem_cons, List.not_mem_nil, or_false] at hp
    rcases hp with rfl | rfl
    · exact getSu_rel e0
    · exact getI_rel e1
  · cases h
noncomputable def bks_sum : SumF Try.prog 28 bksRoot :=
  sumL (pathB bksRoot 0) bks_dec (fun x => x.1.base) (fun x => bks_st x.1 x.2) bks_R bks_dec_ok (by
    intro code hc x
    have hc2 : code = .block 0 (.loop (bodyB bksRoot 0)) := by
      have h : subR bksRoot (pathB bksRoot 0) = some (.block 0 (.loop (bodyB bksRoot 0))) := by kernel_rfl
      rw [h] at hc; cases hc; rfl
    subst hc2
    exact bks_tri x)

noncomputable def k_sBk0 : Ctr Try.prog := (mkF0 Try.prog mix [k_l02Are, k_sOwn, k_s_l02Minus] 37 Try.f37 (bodyOf Try.f37) Try.func37 (by kernel_rfl) (by kernel_rfl) [0, 2, 3, 4, 5, 8, 14, 198] 28 (by kernel_rfl) (by kernel_rfl) [bks_sum]).mg
noncomputable def k_i_Vector_opposite : Ctr Try.prog := (mkF Try.prog mix [] 96 Try.f96 (bodyOf Try.f96) Try.func96 (by kernel_rfl) (by kernel_rfl) [0, 1, 2] 13 (by kernel_rfl) (by kernel_rfl)).mg
noncomputable def k_i_BackBodiesD1 : Ctr Try.prog := (mkF Try.prog mix [k_i_Vector_opposite] 95 Try.f95 (bodyOf Try.f95) Try.func95 (by kernel_rfl) (by kernel_rfl) [0, 1, 2] 8 (by kernel_rfl) (by kernel_rfl)).mg
structure Cbkj where
  n : Nat
  m : Nat
  f0 : Nat → Nat
  f1 : Nat → Nat
  f2 : Nat → Nat
  f3 : Nat → Nat
  f4 : Nat → Nat
  f5 : Nat → Nat
  f6 : Nat → Nat
  l : Int
def Cbkj.base (c : Cbkj) : Mem := [some (.cols c.m [.fl .f32 c.f0, .fl .f32 c.f1, .fl .f32 c.f2, .fl .f32 c.f3, .fl .f32 c.f4, .fl .f32 c.f5, .fl .f32 c.f6])]
structure Vbkj where
  i : Int
  n : Nat
  a0 : Nat → Nat
  a1 : Nat → Nat
  a2 : Nat → Nat
  a3 : Nat → Nat
  a4 : Nat → Nat
  a5 : Nat → Nat
  a6 : Nat → Nat
noncomputable abbrev bkjRoot : Code := bodyOf Try.f92
def bkj_st (c : Cbkj) (v : Vbkj) : FSt := ⟨[(1, .one (.fn 95 [])), (6, .one (.so 1 7 v.n 2)), (13, .one (.su 0 7 0 c.n false)), (14, .one (.num .i64 c.l)), (15, .one (.num .i64 v.i))], c.base ++ [some (.grow v.n [.fl .f32 v.a0, .fl .f32 v.a1, .fl .f32 v.a2, .fl .f32 v.a3, .fl .f32 v.a4, .fl .f32 v.a5, .fl .f32 v.a6] 2 66), none]⟩
def bkj_step (c : Cbkj) (v : Vbkj) : T (Nx Vbkj) :=
  .ite (decide (v.1 < c.10)) (.need (decide (0 ≤ v.1) && decide (v.1 < ↑c.1)) (.need (decide (v.1.toNat + 0 < c.2)) (.need (decide (v.2 ≤ v.2)) (.need (true) (.need (decide (v.2 + 1 ≤ 1073741824)) (.leaf (.go { i := IntKind.i64.wrap (v.1 + 1), n := v.n + 1, a0 := fun q => if q = v.n then c.f0 (v.i.toNat + 0) else v.a0 q, a1 := fun q => if q = v.n then c.f1 (v.i.toNat + 0) else v.a1 q, a2 := fun q => if q = v.n then c.f2 (v.i.toNat + 0) else v.a2 q, a3 := fun q => if q = v.n then fneg FloatKind.f32 (c.f3 (v.i.toNat + 0)) else v.a3 q, a4 := fun q => if q = v.n then fneg FloatKind.f32 (c.f4 (v.i.toNat + 0)) else v.a4 q, a5 := fun q => if q = v.n then fneg FloatKind.f32 (c.f5 (v.i.toNat + 0)) else v.a5 q, a6 := fun q => if q = v.n then c.f6 (v.i.toNat + 0) else v.a6 q }))))))) (.leaf (.out (EX.exit 0) ⟨[(1, AV.one (SV.fn 95 [])), (6, AV.one (SV.so 1 7 v.n 2)), (13, AV.one (SV.su 0 7 0 c.1 false)), (14, AV.one (SV.num IntKind.i64 c.10)), (15, AV.one (SV.num IntKind.i64 v.1))], c.base ++ [some (.grow v.n [.fl .f32 v.a0, .fl .f32 v.a1, .fl .f32 v.a2, .fl .f32 v.a3, .fl .f32 v.a4, .fl .f32 v.a5, .fl .f32 v.a6] 2 66), none]⟩))
theorem bkj_round (c : Cbkj) (v : Vbkj) : roundF Try.prog 30 [k_i_BackBodiesD1] bkjRoot [] c.base [0, 1, 4, 5, 6, 8, 11, 13, 14, 15, 16, 198] [1, 6, 13, 14, 15] 0 (bkj_st c v) = (bkj_step c v).map (nxF (bkj_st c)) := by kernel_rfl
def bkj_g (c : Cbkj) (j : Nat) (a : (Nat → Nat) × (Nat → Nat) × (Nat → Nat) × (Nat → Nat) × (Nat → Nat) × (Nat → Nat) × (Nat → Nat)) : (Nat → Nat) × (Nat → Nat) × (Nat → Nat) × (Nat → Nat) × (Nat → Nat) × (Nat → Nat) × (Nat → Nat) := (fun q => if q = j then c.f0 j else a.1 q, fun q => if q = j then c.f1 j else a.2.1 q, fun q => if q = j then c.f2 j else a.2.2.1 q, fun q => if q = j then fneg .f32 (c.f3 j) else a.2.2.2.1 q, fun q => if q = j then fneg .f32 (c.f4 j) else a.2.2.2.2.1 q, fun q => if q = j then fneg .f32 (c.f5 j) else a.2.2.2.2.2.1 q, fun q => if q = j then c.f6 j else a.2.2.2.2.2.2 q)
def bkj_ok (c : Cbkj) (v : Vbkj) : Bool := decide (c.n ≤ c.m ∧ c.n ≤ 1048576 ∧ c.l = (c.n : Int) ∧ v.n = v.i.toNat ∧ 0 ≤ v.i ∧ v.i ≤ ((c.n : Nat) : Int))
def bkj_fin (c : Cbkj) (a : (Nat → Nat) × (Nat → Nat) × (Nat → Nat) × (Nat → Nat) × (Nat → Nat) × (Nat → Nat) × (Nat → Nat)) : FSt := bkj_st c ({ i := (c.n : Int), n := c.n, a0 := a.1, a1 := a.2.1, a2 := a.2.2.1, a3 := a.2.2.2.1, a4 := a.2.2.2.2.1, a5 := a.2.2.2.2.2.1, a6 := a.2.2.2.2.2.2 })
noncomputable def bkj_R (x : Cbkj × Vbkj) : T (EX × FSt) := .need (bkj_ok x.1 x.2) (.leaf (.normal, bkj_fin x.1 (iter (bkj_g x.1) (x.1.n - x.2.i.toNat) x.2.i.toNat (x.2.a0, x.2.a1, x.2.a2, x.2.a3, x.2.a4, x.2.a5, x.2.a6))))
theorem bkj_tri (x : Cbkj × Vbkj) : TriR Try.prog 30 x.1.base (.block 0 (.loop (bodyB bkjRoot 0))) (bkj_st x.1 x.2) (bkj_R x) := by
  obtain ⟨c, v⟩ := x
  refine triR_of mix (root := bkjRoot) (by kernel_rfl) (by kernel_rfl) [0, 1, 4, 5, 6, 8, 11, 13, 14, 15, 16, 198] [1, 6, 13, 14, 15] (bkj_st c) (bkj_step c) (bkj_round c) v _ ((c.n - v.i.toNat) + 1) (fun Φ h => ?_)
  have h0 := h.1
  have h1 : Φ (.normal, bkj_fin c (iter (bkj_g c) (c.n - v.i.toNat) v.i.toNat (v.a0, v.a1, v.a2, v.a3, v.a4, v.a5, v.a6))) := h.2
  simp only [bkj_ok, decide_eq_true_eq] at h0
  obtain ⟨hk0, hk1, hk2, hk3, hi0, hin⟩ := h0
  have hv : v = (fun (j : Nat) (a : (Nat → Nat) × (Nat → Nat) × (Nat → Nat) × (Nat → Nat) × (Nat → Nat) × (Nat → Nat) × (Nat → Nat)) => ({ i := (j : Int), n := j, a0 := a.1, a1 := a.2.1, a2 := a.2.2.1, a3 := a.2.2.2.1, a4 := a.2.2.2.2.1, a5 := a.2.2.2.2.2.1, a6 := a.2.2.2.2.2.2 } : Vbkj)) v.i.toNat (v.a0, v.a1, v.a2, v.a3, v.a4, v.a5, v.a6) := by
    obtain ⟨i, n, a0, a1, a2, a3, a4, a5, a6⟩ := v
    have hi0 : 0 ≤ i := hi0
    have hk3 : n = i.toNat := hk3
    subst hk3
    simp only [Int.toNat_of_nonneg hi0]
  have key := T_iter (bkj_step c) (fun (j : Nat) (a : (Nat → Nat) × (Nat → Nat) × (Nat → Nat) × (Nat → Nat) × (Nat → Nat) × (Nat → Nat) × (Nat → Nat)) => ({ i := (j : Int), n := j, a0 := a.1, a1 := a.2.1, a2 := a.2.2.1, a3 := a.2.2.2.1, a4 := a.2.2.2.2.1, a5 := a.2.2.2.2.2.1, a6 := a.2.2.2.2.2.2 } : Vbkj)) c.n (bkj_g c) (fun a => (.exit 0, bkj_fin c a)) (fun j a hj Ψ hΨ => ?_) (fun a Ψ hΨ => ?_) (fun a => by simp) (c.n - v.i.toNat) v.i.toNat (v.a0, v.a1, v.a2, v.a3, v.a4, v.a5, v.a6) (by omega) (fun r => Φ (blkEx 0 r.1, r.2)) (by simpa [blkEx] using h1)
  · exact (congrArg (fun z => (loopTree (bkj_step c) (c.n - v.i.toNat + 1) z).holds fun r => Φ (blkEx 0 r.1, r.2)) hv).mpr key
  · unfold bkj_step
    refine (T.h_ite (fun _ => ?_) (fun hc => absurd hc (by simp <;> omega)))
    refine (T.h_need (by simp <;> omega) (T.h_need (by simp <;> omega) (T.h_need (by simp <;> omega) (T.h_need (by simp <;> omega) (T.h_need (by simp <;> omega) ?_)))))
    refine T.h_leaf ?_
    rw [wrap_next (by omega)]
    exact hΨ
  · unfold bkj_step
    refine (T.h_ite (fun hc => absurd hc (by simp <;> omega)) (fun _ => T.h_leaf hΨ.2))

def bkj_dec (b : Mem) (f : FSt) : Option (Cbkj × Vbkj) :=
  match getFnC 95 [] (findF 1 f.sl), getSu 0 7 (findF 13 f.sl), getI (findF 14 f.sl), getI (findF 15 f.sl), getSo 1 7 2 (findF 6 f.sl), id b, f.mem with
  | some (), some (0, n_), some l_, some q_i, some q_n, [some (.cols m_ [.fl .f32 f0_, .fl .f32 f1_, .fl .f32 f2_, .fl .f32 f3_, .fl .f32 f4_, .fl .f32 f5_, .fl .f32 f6_])], [_, some (.grow r_n [.fl .f32 q_a0, .fl .f32 q_a1, .fl .f32 q_a2, .fl .f32 q_a3, .fl .f32 q_a4, .fl .f32 q_a5, .fl .f32 q_a6] 2 66), none] => if q_n = r_n then some ({ n := n_, m := m_, f0 := f0_, f1 := f1_, f2 := f2_, f3 := f3_, f4 := f4_, f5 := f5_, f6 := f6_, l := l_ }, { i := q_i, n := q_n, a0 := q_a0, a1 := q_a1, a2 := q_a2, a3 := q_a3, a4 := q_a4, a5 := q_a5, a6 := q_a6 }) else none
  | _, _, _, _, _, _, _ => none
theorem bkj_dec_ok (b : Mem) (f : FSt) (x : Cbkj × Vbkj) (h : bkj_dec b f = some x) : b = x.1.base ∧ FLe b f (bkj_st x.1 x.2) := by
  unfold bkj_dec at h
  split at h
  · rename_i e0 e1 e2 e3 e4 hb hm
    obtain ⟨hbo, h9⟩ := ite_some h
    clear h
    subst hbo
    have h := h9
    cases h
    have hb : b = _ := hb
    subst hb
    refine ⟨rfl, fle_of (fun p hp => ?_) (by rw [hm]; exact memLe_refl _)⟩
    simp only [List.mem_cons, List.not_mem_nil, or_false] at hp
    rcases hp with rfl | rfl | rfl | rfl | rfl
    · exact getFnC_rel e0
    · exact getSo_rel e4
    · exact getSu_rel e1
    · exact getI_rel e2
    · exact getI_rel e3
  · cases h
noncomputable def bkj_sum : SumF Try.prog 30 bkjRoot :=
  sumL (pathB bkjRoot 0) bkj_dec (fun x => x.1.base) (fun x => bkj_st x.1 x.2) bkj_R bkj_dec_ok (by
    intro code hc x
    have hc2 : code = .block 0 (.loop (bodyB bkjRoot 0)) := by
      have h : subR bkjRoot (pathB bkjRoot 0) = some (.block 0 (.loop (bodyB bkjRoot 0))) := by kernel_rfl
      rw [h] at hc; cases hc; rfl
    subst hc2
    exact bkj_tri x)

noncomputable def k_iBkCh0 : Ctr Try.prog := (mkF0 Try.prog mix [k_i_BackBodiesD1, k_AreBodies, k_iAs] 92 Try.f92 (bodyOf Try.f92) Try.func92 (by kernel_rfl) (by kernel_rfl) [0, 1, 4, 5, 6, 8, 11, 13, 14, 15, 16, 198] 30 (by kernel_rfl) (by kernel_rfl) [bkj_sum]).mg
def bksEnd (n m : Nat) (f0 f1 f2 f3 f4 f5 f6 : Nat → Nat) : (Nat → Nat) × (Nat → Nat) × (Nat → Nat) := iter (bks_g { m := m, f0 := f0, f1 := f1, f2 := f2, f3 := f3, f4 := f4, f5 := f5, f6 := f6, n2 := n, m2 := n, g0 := f0, g1 := f1, g2 := f2, g6 := f6 }) n 0 (f3, f4, f5)
def bkjEnd (n m : Nat) (f0 f1 f2 f3 f4 f5 f6 : Nat → Nat) : (Nat → Nat) × (Nat → Nat) × (Nat → Nat) × (Nat → Nat) × (Nat → Nat) × (Nat → Nat) × (Nat → Nat) := iter (bkj_g { n := n, m := m, f0 := f0, f1 := f1, f2 := f2, f3 := f3, f4 := f4, f5 := f5, f6 := f6, l := (n : Int) }) n 0 ((fun _ => canon .f32 0 : Nat → Nat), (fun _ => canon .f32 0 : Nat → Nat), (fun _ => canon .f32 0 : Nat → Nat), (fun _ => canon .f32 0 : Nat → Nat), (fun _ => canon .f32 0 : Nat → Nat), (fun _ => canon .f32 0 : Nat → Nat), (fun _ => canon .f32 0 : Nat → Nat))
theorem bksEnd_at (n m : Nat) (f0 f1 f2 f3 f4 f5 f6 : Nat → Nat) (i : Nat) (hi : i < n) : (bksEnd n m f0 f1 f2 f3 f4 f5 f6).1 i = fneg .f32 (f3 i) ∧ (bksEnd n m f0 f1 f2 f3 f4 f5 f6).2.1 i = fneg .f32 (f4 i) ∧ (bksEnd n m f0 f1 f2 f3 f4 f5 f6).2.2 i = fneg .f32 (f5 i) :=
  ⟨turn_at (bks_g { m := m, f0 := f0, f1 := f1, f2 := f2, f3 := f3, f4 := f4, f5 := f5, f6 := f6, n2 := n, m2 := n, g0 := f0, g1 := f1, g2 := f2, g6 := f6 }) (fun a => a.1) (fun y => fneg .f32 (y)) (fun j a q h => if_neg h) (fun j a => if_pos rfl) n 0 _ i (Nat.zero_le i) (by omega),
   turn_at (bks_g { m := m, f0 := f0, f1 := f1, f2 := f2, f3 := f3, f4 := f4, f5 := f5, f6 := f6, n2 := n, m2 := n, g0 := f0, g1 := f1, g2 := f2, g6 := f6 }) (fun a => a.2.1) (fun y => fneg .f32 (y)) (fun j a q h => if_neg h) (fun j a => if_pos rfl) n 0 _ i (Nat.zero_le i) (by omega),
   turn_at (bks_g { m := m, f0 := f0, f1 := f1, f2 := f2, f3 := f3, f4 := f4, f5 := f5, f6 := f6, n2 := n, m2 := n, g0 := f0, g1 := f1, g2 := f2, g6 := f6 }) (fun a => a.2.2) (fun y => fneg .f32 (y)) (fun j a q h => if_neg h) (fun j a => if_pos rfl) n 0 _ i (Nat.zero_le i) (by omega)⟩
theorem bkjEnd_at (n m : Nat) (f0 f1 f2 f3 f4 f5 f6 : Nat → Nat) (i : Nat) (hi : i < n) : (bkjEnd n m f0 f1 f2 f3 f4 f5 f6).1 i = f0 i ∧ (bkjEnd n m f0 f1 f2 f3 f4 f5 f6).2.1 i = f1 i ∧ (bkjEnd n m f0 f1 f2 f3 f4 f5 f6).2.2.1 i = f2 i ∧ (bkjEnd n m f0 f1 f2 f3 f4 f5 f6).2.2.2.1 i = fneg .f32 (f3 i) ∧ (bkjEnd n m f0 f1 f2 f3 f4 f5 f6).2.2.2.2.1 i = fneg .f32 (f4 i) ∧ (bkjEnd n m f0 f1 f2 f3 f4 f5 f6).2.2.2.2.2.1 i = fneg .f32 (f5 i) ∧ (bkjEnd n m f0 f1 f2 f3 f4 f5 f6).2.2.2.2.2.2 i = f6 i :=
  ⟨fill_at (bkj_g { n := n, m := m, f0 := f0, f1 := f1, f2 := f2, f3 := f3, f4 := f4, f5 := f5, f6 := f6, l := (n : Int) }) (fun a => a.1) (f0) (fun j a q h => if_neg h) (fun j a => if_pos rfl) n 0 _ i (Nat.zero_le i) (by omega),
   fill_at (bkj_g { n := n, m := m, f0 := f0, f1 := f1, f2 := f2, f3 := f3, f4 := f4, f5 := f5, f6 := f6, l := (n : Int) }) (fun a => a.2.1) (f1) (fun j a q h => if_neg h) (fun j a => if_pos rfl) n 0 _ i (Nat.zero_le i) (by omega),
   fill_at (bkj_g { n := n, m := m, f0 := f0, f1 := f1, f2 := f2, f3 := f3, f4 := f4, f5 := f5, f6 := f6, l := (n : Int) }) (fun a => a.2.2.1) (f2) (fun j a q h => if_neg h) (fun j a => if_pos rfl) n 0 _ i (Nat.zero_le i) (by omega),
   fill_at (bkj_g { n := n, m := m, f0 := f0, f1 := f1, f2 := f2, f3 := f3, f4 := f4, f5 := f5, f6 := f6, l := (n : Int) }) (fun a => a.2.2.2.1) (fun q => fneg .f32 (f3 q)) (fun j a q h => if_neg h) (fun j a => if_pos rfl) n 0 _ i (Nat.zero_le i) (by omega),
   fill_at (bkj_g { n := n, m := m, f0 := f0, f1 := f1, f2 := f2, f3 := f3, f4 := f4, f5 := f5, f6 := f6, l := (n : Int) }) (fun a => a.2.2.2.2.1) (fun q => fneg .f32 (f4 q)) (fun j a q h => if_neg h) (fun j a => if_pos rfl) n 0 _ i (Nat.zero_le i) (by omega),
   fill_at (bkj_g { n := n, m := m, f0 := f0, f1 := f1, f2 := f2, f3 := f3, f4 := f4, f5 := f5, f6 := f6, l := (n : Int) }) (fun a => a.2.2.2.2.2.1) (fun q => fneg .f32 (f5 q)) (fun j a q h => if_neg h) (fun j a => if_pos rfl) n 0 _ i (Nat.zero_le i) (by omega),
   fill_at (bkj_g { n := n, m := m, f0 := f0, f1 := f1, f2 := f2, f3 := f3, f4 := f4, f5 := f5, f6 := f6, l := (n : Int) }) (fun a => a.2.2.2.2.2.2) (f6) (fun j a q h => if_neg h) (fun j a => if_pos rfl) n 0 _ i (Nat.zero_le i) (by omega)⟩
theorem bk_areJ (n m : Nat) (f0 f1 f2 f3 f4 f5 f6 : Nat → Nat) : areB n (bkjEnd n m f0 f1 f2 f3 f4 f5 f6).1 (bkjEnd n m f0 f1 f2 f3 f4 f5 f6).2.1 (bkjEnd n m f0 f1 f2 f3 f4 f5 f6).2.2.1 (bkjEnd n m f0 f1 f2 f3 f4 f5 f6).2.2.2.1 (bkjEnd n m f0 f1 f2 f3 f4 f5 f6).2.2.2.2.1 (bkjEnd n m f0 f1 f2 f3 f4 f5 f6).2.2.2.2.2.1 (bkjEnd n m f0 f1 f2 f3 f4 f5 f6).2.2.2.2.2.2 = areB n f0 f1 f2 (fun q => fneg .f32 (f3 q)) (fun q => fneg .f32 (f4 q)) (fun q => fneg .f32 (f5 q)) f6 := by
  refine areB_congr fun i hi => ?_
  obtain ⟨h0, h1, h2, h3, h4, h5, h6⟩ := bkjEnd_at n m f0 f1 f2 f3 f4 f5 f6 i hi
  rw [h0, h1, h2, h3, h4, h5, h6]
theorem bk_are (n : Nat) (f0 f1 f2 f3 f4 f5 f6 : Nat → Nat) : areB n f0 f1 f2 (fun q => fneg .f32 (f3 q)) (fun q => fneg .f32 (f4 q)) (fun q => fneg .f32 (f5 q)) f6 = areB n f0 f1 f2 f3 f4 f5 f6 := by
  refine areB_congr fun i hi => ?_
  unfold okBody fin3
  rw [fin_fneg, fin_fneg, fin_fneg]
def run_iBkCh : List AV → Mem → T Res
  | [.one (.su 0 7 0 n false), .one (.fn g [])], [some (.cols m [.fl .f32 f0, .fl .f32 f1, .fl .f32 f2, .fl .f32 f3, .fl .f32 f4, .fl .f32 f5, .fl .f32 f6])] => match Nat.beq g 95 with
    | true => .need (decide (n ≤ m)) (.ite (areB n f0 f1 f2 f3 f4 f5 f6 && areB n f0 f1 f2 (fun q => fneg .f32 (f3 q)) (fun q => fneg .f32 (f4 q)) (fun q => fneg .f32 (f5 q)) f6) (.leaf (.tup [.one (.su 1 7 0 n false), .one (.tt true)], [some (.cols n [.fl .f32 f0, .fl .f32 f1, .fl .f32 f2, .fl .f32 fun q => fneg .f32 (f3 q), .fl .f32 fun q => fneg .f32 (f4 q), .fl .f32 fun q => fneg .f32 (f5 q), .fl .f32 f6]), none])) (.leaf (.tup [.one (.val (.slice none 0 0)), .one (.tt false)], [])))
    | false => .fail
  | _, _ => .fail
theorem iBkCh0_ev (n m : Nat) (f0 f1 f2 f3 f4 f5 f6 : Nat → Nat) : k_iBkCh0.run [.one (.su 0 7 0 n false), .one (.fn 95 [])] [some (.cols m [.fl .f32 f0, .fl .f32 f1, .fl .f32 f2, .fl .f32 f3, .fl .f32 f4, .fl .f32 f5, .fl .f32 f6])] =
    .need (decide (n ≤ m)) (.need (bif !areB n f0 f1 f2 f3 f4 f5 f6 then true else bkj_ok { n := n, m := m, f0 := f0, f1 := f1, f2 := f2, f3 := f3, f4 := f4, f5 := f5, f6 := f6, l := (n : Int) } { i := 0, n := 0, a0 := (fun _ => canon .f32 0 : Nat → Nat), a1 := (fun _ => canon .f32 0 : Nat → Nat), a2 := (fun _ => canon .f32 0 : Nat → Nat), a3 := (fun _ => canon .f32 0 : Nat → Nat), a4 := (fun _ => canon .f32 0 : Nat → Nat), a5 := (fun _ => canon .f32 0 : Nat → Nat), a6 := (fun _ => canon .f32 0 : Nat → Nat) }) (.need (bif !areB n f0 f1 f2 f3 f4 f5 f6 then true else decide (n ≤ n))
      (.ite (!areB n f0 f1 f2 f3 f4 f5 f6) (.leaf (.tup [.one (.val (.slice none 0 0)), .one (.tt false)], [])) (.ite (!areB n (bkjEnd n m f0 f1 f2 f3 f4 f5 f6).1 (bkjEnd n m f0 f1 f2 f3 f4 f5 f6).2.1 (bkjEnd n m f0 f1 f2 f3 f4 f5 f6).2.2.1 (bkjEnd n m f0 f1 f2 f3 f4 f5 f6).2.2.2.1 (bkjEnd n m f0 f1 f2 f3 f4 f5 f6).2.2.2.2.1 (bkjEnd n m f0 f1 f2 f3 f4 f5 f6).2.2.2.2.2.1 (bkjEnd n m f0 f1 f2 f3 f4 f5 f6).2.2.2.2.2.2) (.leaf (.tup [.one (.val (.slice none 0 0)), .one (.tt false)], [])) (.leaf (.tup [.one (.su 1 7 0 n false), .one (.tt true)], [some (.grow n [.fl .f32 (bkjEnd n m f0 f1 f2 f3 f4 f5 f6).1, .fl .f32 (bkjEnd n m f0 f1 f2 f3 f4 f5 f6).2.1, .fl .f32 (bkjEnd n m f0 f1 f2 f3 f4 f5 f6).2.2.1, .fl .f32 (bkjEnd n m f0 f1 f2 f3 f4 f5 f6).2.2.2.1, .fl .f32 (bkjEnd n m f0 f1 f2 f3 f4 f5 f6).2.2.2.2.1, .fl .f32 (bkjEnd n m f0 f1 f2 f3 f4 f5 f6).2.2.2.2.2.1, .fl .f32 (bkjEnd n m f0 f1 f2 f3 f4 f5 f6).2.2.2.2.2.2] 2 66), none])))))) := by kernel_rfl
noncomputable def k_iBkCh : Ctr Try.prog := (k_iBkCh0.to run_iBkCh (by
  intro args mem _
  unfold run_iBkCh
  split
  · rename_i n g m f0 f1 f2 f3 f4 f5 f6  _
    split
    · rename_i hg
      obtain rfl : g = 95 := Nat.eq_of_beq_eq_true hg
      rw [iBkCh0_ev]
      constructor
      intro Φ hΦ h
      have hnm := of_decide_eq_true h.1
      have hle : (!areB n f0 f1 f2 f3 f4 f5 f6) = false → n ≤ 16 := fun hA => areB_le (by simpa using hA)
      refine T.h_need h.1 (T.h_need (needT fun hA => decide_eq_true ?_) (T.h_need (needT fun hA => decide_eq_true (Nat.le_refl n)) (T.h_ite (fun hA => T.h_leaf (h.2.2 ?_)) (fun hA => T.h_ite (fun hB => T.h_leaf (h.2.2 ?_)) (fun hB => T.h_leaf (hΦ _ (.tup [.one (.su 1 7 0 n false), .one (.tt true)], [some (.cols n [.fl .f32 f0, .fl .f32 f1, .fl .f32 f2, .fl .f32 fun q => fneg .f32 (f3 q), .fl .f32 fun q => fneg .f32 (f4 q), .fl .f32 fun q => fneg .f32 (f5 q), .fl .f32 f6]), none]) ⟨⟨BlLe.grow_cols (fun i hi => ?_) rfl, trivial⟩, fun _ _ hv => hv⟩ (h.2.1 ?_)))))))
      · have := hle hA
        exact ⟨by show n ≤ m; omega, by show n ≤ 1048576; omega, rfl, rfl, Int.le_refl 0, Int.natCast_nonneg n⟩
      · have hA' : areB n f0 f1 f2 f3 f4 f5 f6 = false := by simpa using hA
        rw [hA']; rfl
      · rw [bk_areJ] at hB
        have hB' : areB n f0 f1 f2 (fun q => fneg .f32 (f3 q)) (fun q => fneg .f32 (f4 q)) (fun q => fneg .f32 (f5 q)) f6 = false := by simpa using hB
        rw [hB', Bool.and_false]
      · obtain ⟨h0, h1, h2, h3, h4, h5, h6⟩ := bkjEnd_at n m f0 f1 f2 f3 f4 f5 f6 i hi
        simp only [colsAt, Col.at, h0, h1, h2, h3, h4, h5, h6]
      · rw [bk_areJ] at hB
        have hA' : areB n f0 f1 f2 f3 f4 f5 f6 = true := by simpa using hA
        have hB' : areB n f0 f1 f2 (fun q => fneg .f32 (f3 q)) (fun q => fneg .f32 (f4 q)) (fun q => fneg .f32 (f5 q)) f6 = true := by simpa using hB
        rw [hA', hB']; rfl
    · exact Weak.fail _
  · exact Weak.fail _)).su.own
noncomputable def k_iBk0 : Ctr Try.prog := (mkF0 Try.prog mix [k_iBkCh] 38 Try.f38 (bodyOf Try.f38) Try.func38 (by kernel_rfl) (by kernel_rfl) [0, 2, 3, 198] 8 (by kernel_rfl) (by kernel_rfl) []).mg
def run_sBk : List AV → Mem → T Res
  | [.one (.su 0 7 0 n false)], [some (.cols m [.fl .f32 f0, .fl .f32 f1, .fl .f32 f2, .fl .f32 f3, .fl .f32 f4, .fl .f32 f5, .fl .f32 f6])] => .need (decide (n ≤ m)) (.ite (areB n f0 f1 f2 f3 f4 f5 f6) (.leaf (.tup [.one (.su 1 7 0 n false), .one (.tt true)], [some (.cols n [.fl .f32 f0, .fl .f32 f1, .fl .f32 f2, .fl .f32 fun q => fneg .f32 (f3 q), .fl .f32 fun q => fneg .f32 (f4 q), .fl .f32 fun q => fneg .f32 (f5 q), .fl .f32 f6])])) (.leaf (.tup [.one (.val (.slice none 0 0)), .one (.tt false)], [])))
  | _, _ => .fail
def run_iBk : List AV → Mem → T Res
  | [.one (.su 0 7 0 n false)], [some (.cols m [.fl .f32 f0, .fl .f32 f1, .fl .f32 f2, .fl .f32 f3, .fl .f32 f4, .fl .f32 f5, .fl .f32 f6])] => .need (decide (n ≤ m)) (.ite (areB n f0 f1 f2 f3 f4 f5 f6) (.leaf (.tup [.one (.su 1 7 0 n false), .one (.tt true)], [some (.cols n [.fl .f32 f0, .fl .f32 f1, .fl .f32 f2, .fl .f32 fun q => fneg .f32 (f3 q), .fl .f32 fun q => fneg .f32 (f4 q), .fl .f32 fun q => fneg .f32 (f5 q), .fl .f32 f6]), none])) (.leaf (.tup [.one (.val (.slice none 0 0)), .one (.tt false)], [])))
  | _, _ => .fail
theorem sBk0_ev (n m : Nat) (f0 f1 f2 f3 f4 f5 f6 : Nat → Nat) : k_sBk0.run [.one (.su 0 7 0 n false)] [some (.cols m [.fl .f32 f0, .fl .f32 f1, .fl .f32 f2, .fl .f32 f3, .fl .f32 f4, .fl .f32 f5, .fl .f32 f6])] =
    .need (decide (n ≤ m)) (.need (bif !areB n f0 f1 f2 f3 f4 f5 f6 then true else decide (n ≤ m)) (.need (bif !areB n f0 f1 f2 f3 f4 f5 f6 then true else decide (n ≤ 1073741824)) (.need (bif !areB n f0 f1 f2 f3 f4 f5 f6 then true else bks_ok { m := m, f0 := f0, f1 := f1, f2 := f2, f3 := f3, f4 := f4, f5 := f5, f6 := f6, n2 := n, m2 := n, g0 := f0, g1 := f1, g2 := f2, g6 := f6 } { i := 0, a3 := f3, a4 := f4, a5 := f5 })
      (.ite (!areB n f0 f1 f2 f3 f4 f5 f6) (.leaf (.tup [.one (.val (.slice none 0 0)), .one (.tt false)], [])) (.leaf (.tup [.one (.su 1 7 0 n false), .one (.tt true)], [some (.cols n [.fl .f32 f0, .fl .f32 f1, .fl .f32 f2, .fl .f32 (bksEnd n m f0 f1 f2 f3 f4 f5 f6).1, .fl .f32 (bksEnd n m f0 f1 f2 f3 f4 f5 f6).2.1, .fl .f32 (bksEnd n m f0 f1 f2 f3 f4 f5 f6).2.2, .fl .f32 f6])])))))) := by kernel_rfl
noncomputable def k_sBk : Ctr Try.prog := (k_sBk0.to run_sBk (by
  intro args mem _
  unfold run_sBk
  split
  · rename_i n m f0 f1 f2 f3 f4 f5 f6 _
    rw [sBk0_ev]
    constructor
    intro Φ hΦ h
    have hnm := of_decide_eq_true h.1
    have hle : (!areB n f0 f1 f2 f3 f4 f5 f6) = false → n ≤ 16 := fun hA => areB_le (by simpa using hA)
    refine T.h_need h.1 (T.h_need (needT fun hA => h.1) (T.h_need (needT fun hA => decide_eq_true ?_) (T.h_need (needT fun hA => decide_eq_true ?_) (T.h_ite (fun hA => T.h_leaf (h.2.2 (by simpa using hA))) (fun hA => T.h_leaf (hΦ _ (.tup [.one (.su 1 7 0 n false), .one (.tt true)], [some (.cols n [.fl .f32 f0, .fl .f32 f1, .fl .f32 f2, .fl .f32 fun q => fneg .f32 (f3 q), .fl .f32 fun q => fneg .f32 (f4 q), .fl .f32 fun q => fneg .f32 (f5 q), .fl .f32 f6])]) ⟨⟨BlLe.cols_eq (fun i hi => ?_) rfl, trivial⟩, fun _ _ hv => hv⟩ (h.2.1 (by simpa using hA))))))))
    · have := hle hA; omega
    · have := hle hA
      exact ⟨by show n ≤ 1099511627776; omega, Nat.le_refl n, Int.le_refl 0, Int.natCast_nonneg n⟩
    · obtain ⟨h3, h4, h5⟩ := bksEnd_at n m f0 f1 f2 f3 f4 f5 f6 i hi
      simp only [colsAt, Col.at, h3, h4, h5]
  · exact Weak.fail _)).su.own
theorem iBk0_ev (n m : Nat) (f0 f1 f2 f3 f4 f5 f6 : Nat → Nat) : k_iBk0.run [.one (.su 0 7 0 n false)] [some (.cols m [.fl .f32 f0, .fl .f32 f1, .fl .f32 f2, .fl .f32 f3, .fl .f32 f4, .fl .f32 f5, .fl .f32 f6])] =
    .need (decide (n ≤ m)) (.ite (areB n f0 f1 f2 f3 f4 f5 f6 && areB n f0 f1 f2 (fun q => fneg .f32 (f3 q)) (fun q => fneg .f32 (f4 q)) (fun q => fneg .f32 (f5 q)) f6) (.leaf (.tup [.one (.su 1 7 0 n false), .one (.tt true)], [some (.cols n [.fl .f32 f0, .fl .f32 f1, .fl .f32 f2, .fl .f32 fun q => fneg .f32 (f3 q), .fl .f32 fun q => fneg .f32 (f4 q), .fl .f32 fun q => fneg .f32 (f5 q), .fl .f32 f6]), none])) (.leaf (.tup [.one (.val (.slice none 0 0)), .one (.tt false)], []))) := by kernel_rfl
noncomputable def k_iBk : Ctr Try.prog := (k_iBk0.to run_iBk (by
  intro args mem _
  unfold run_iBk
  split
  · rw [iBk0_ev, bk_are, Bool.and_self]
    exact Weak.of_eq rfl
  · exact Weak.fail _)).su.own

end Go.Proofs.Ytjcofjelfaoecaa
