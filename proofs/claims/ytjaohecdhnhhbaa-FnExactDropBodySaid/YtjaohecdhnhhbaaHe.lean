/-
  Marks that are held in rows of bodies. No conditions.
-/
import Derived.Test.YtjaohecdhnhhbaaMk
namespace Go.Proofs.Ytjaohecdhnhhbaa
set_option linter.unusedVariables false
set_option linter.unusedSimpArgs false
open Go.RowKit

structure Che where
  n : Nat
  m : Nat
  f0 : Nat → Nat
  f1 : Nat → Nat
  f2 : Nat → Nat
  f3 : Nat → Nat
  f4 : Nat → Nat
  f5 : Nat → Nat
  f6 : Nat → Nat
def Che.base (c : Che) : Mem := [some (.cols c.m [.fl .f32 c.f0, .fl .f32 c.f1, .fl .f32 c.f2, .fl .f32 c.f3, .fl .f32 c.f4, .fl .f32 c.f5, .fl .f32 c.f6])]
structure Vhe where
  i : Int
  k : Int
noncomputable abbrev heRoot : Code := bodyOf Try.f15
def he_st (c : Che) (v : Vhe) : FSt := ⟨[(0, .one (.su 0 7 0 c.n false)), (1, .one (.num .i64 v.k)), (5, .one (.num .i64 v.i))], c.base ++ []⟩
def he_step (c : Che) (v : Vhe) : T (Nx Vhe) :=
  .ite (decide (v.1 < ↑c.1)) (.need (decide (0 ≤ v.1) && decide (v.1 < ↑c.1)) (.need (decide (v.1.toNat + 0 < c.2)) (.need (bif !feq FloatKind.f32 (c.3 (v.1.toNat + 0)) (fint FloatKind.f32 v.2) then true else decide (0 ≤ v.1) && decide (v.1 < ↑c.1)) (.need (bif !feq FloatKind.f32 (c.3 (v.1.toNat + 0)) (fint FloatKind.f32 v.2) then true else decide (v.1.toNat + 0 < c.2)) (.need (bif !feq FloatKind.f32 (c.3 (v.1.toNat + 0)) (fint FloatKind.f32 v.2) then true else bif !feq FloatKind.f32 (c.4 (v.1.toNat + 0)) (fint FloatKind.f32 (IntKind.i64.wrap (v.2 + 1))) then true else decide (0 ≤ v.1) && decide (v.1 < ↑c.1)) (.need (bif !feq FloatKind.f32 (c.3 (v.1.toNat + 0)) (fint FloatKind.f32 v.2) then true else bif !feq FloatKind.f32 (c.4 (v.1.toNat + 0)) (fint FloatKind.f32 (IntKind.i64.wrap (v.2 + 1))) then true else decide (v.1.toNat + 0 < c.2)) (.need (bif !feq FloatKind.f32 (c.3 (v.1.toNat + 0)) (fint FloatKind.f32 v.2) then true else bif !feq FloatKind.f32 (c.4 (v.1.toNat + 0)) (fint FloatKind.f32 (IntKind.i64.wrap (v.2 + 1))) then true else bif !feq FloatKind.f32 (c.5 (v.1.toNat + 0)) (fint FloatKind.f32 (IntKind.i64.wrap (IntKind.i64.wrap (v.2 + 1) + 1))) then true else decide (0 ≤ v.1) && decide (v.1 < ↑c.1)) (.need (bif !feq FloatKind.f32 (c.3 (v.1.toNat + 0)) (fint FloatKind.f32 v.2) then true else bif !feq FloatKind.f32 (c.4 (v.1.toNat + 0)) (fint FloatKind.f32 (IntKind.i64.wrap (v.2 + 1))) then true else bif !feq FloatKind.f32 (c.5 (v.1.toNat + 0)) (fint FloatKind.f32 (IntKind.i64.wrap (IntKind.i64.wrap (v.2 + 1) + 1))) then true else decide (v.1.toNat + 0 < c.2)) (.need (bif !feq FloatKind.f32 (c.3 (v.1.toNat + 0)) (fint FloatKind.f32 v.2) then true else bif !feq FloatKind.f32 (c.4 (v.1.toNat + 0)) (fint FloatKind.f32 (IntKind.i64.wrap (v.2 + 1))) then true else bif !feq FloatKind.f32 (c.5 (v.1.toNat + 0)) (fint FloatKind.f32 (IntKind.i64.wrap (IntKind.i64.wrap (v.2 + 1) + 1))) then true else bif !feq FloatKind.f32 (c.6 (v.1.toNat + 0)) (fint FloatKind.f32 (IntKind.i64.wrap (IntKind.i64.wrap (IntKind.i64.wrap (v.2 + 1) + 1) + 1))) then true else decide (0 ≤ v.1) && decide (v.1 < ↑c.1)) (.need (bif !feq FloatKind.f32 (c.3 (v.1.toNat + 0)) (fint FloatKind.f32 v.2) then true else bif !feq FloatKind.f32 (c.4 (v.1.toNat + 0)) (fint FloatKind.f32 (IntKind.i64.wrap (v.2 + 1))) then true else bif !feq FloatKind.f32 (c.5 (v.1.toNat + 0)) (fint FloatKind.f32 (IntKind.i64.wrap (IntKind.i64.wrap (v.2 + 1) + 1))) then true else bif !feq FloatKind.f32 (c.6 (v.1.toNat + 0)) (fint FloatKind.f32 (IntKind.i64.wrap (IntKind.i64.wrap (IntKind.i64.wrap (v.2 + 1) + 1) + 1))) then true else decide (v.1.toNat + 0 < c.2)) (.need (bif !feq FloatKind.f32 (c.3 (v.1.toNat + 0)) (fint FloatKind.f32 v.2) then true else bif !feq FloatKind.f32 (c.4 (v.1.toNat + 0)) (fint FloatKind.f32 (IntKind.i64.wrap (v.2 + 1))) then true else bif !feq FloatKind.f32 (c.5 (v.1.toNat + 0)) (fint FloatKind.f32 (IntKind.i64.wrap (IntKind.i64.wrap (v.2 + 1) + 1))) then true else bif !feq FloatKind.f32 (c.6 (v.1.toNat + 0)) (fint FloatKind.f32 (IntKind.i64.wrap (IntKind.i64.wrap (IntKind.i64.wrap (v.2 + 1) + 1) + 1))) then true else bif !feq FloatKind.f32 (c.7 (v.1.toNat + 0)) (fint FloatKind.f32 (IntKind.i64.wrap (IntKind.i64.wrap (IntKind.i64.wrap (IntKind.i64.wrap (v.2 + 1) + 1) + 1) + 1))) then true else decide (0 ≤ v.1) && decide (v.1 < ↑c.1)) (.need (bif !feq FloatKind.f32 (c.3 (v.1.toNat + 0)) (fint FloatKind.f32 v.2) then true else bif !feq FloatKind.f32 (c.4 (v.1.toNat + 0)) (fint FloatKind.f32 (IntKind.i64.wrap (v.2 + 1))) then true else bif !feq FloatKind.f32 (c.5 (v.1.toNat + 0)) (fint FloatKind.f32 (IntKind.i64.wrap (IntKind.i64.wrap (v.2 + 1) + 1))) then true else bif !feq FloatKind.f32 (c.6 (v.1.toNat + 0)) (fint FloatKind.f32 (IntKind.i64.wrap (IntKind.i64.wrap (IntKind.i64.wrap (v.2 + 1) + 1) + 1))) then true else bif !feq FloatKind.f32 (c.7 (v.1.toNat + 0)) (fint FloatKind.f32 (IntKind.i64.wrap (IntKind.i64.wrap (IntKind.i64.wrap (IntKind.i64.wrap (v.2 + 1) + 1) + 1) + 1))) then true else decide (v.1.toNat + 0 < c.2)) (.need (bif !feq FloatKind.f32 (c.3 (v.1.toNat + 0)) (fint FloatKind.f32 v.2) then true else bif !feq FloatKind.f32 (c.4 (v.1.toNat + 0)) (fint FloatKind.f32 (IntKind.i64.wrap (v.2 + 1))) then true else bif !feq FloatKind.f32 (c.5 (v.1.toNat + 0)) (fint FloatKind.f32 (IntKind.i64.wrap (IntKind.i64.wrap (v.2 + 1) + 1))) then true else bif !feq FloatKind.f32 (c.6 (v.1.toNat + 0)) (fint FloatKind.f32 (IntKind.i64.wrap (IntKind.i64.wrap (IntKind.i64.wrap (v.2 + 1) + 1) + 1))) then true else bif !feq FloatKind.f32 (c.7 (v.1.toNat + 0)) (fint FloatKind.f32 (IntKind.i64.wrap (IntKind.i64.wrap (IntKind.i64.wrap (IntKind.i64.wrap (v.2 + 1) + 1) + 1) + 1))) then true else bif !feq FloatKind.f32 (c.8 (v.1.toNat + 0)) (fint FloatKind.f32 (IntKind.i64.wrap (IntKind.i64.wrap (IntKind.i64.wrap (IntKind.i64.wrap (IntKind.i64.wrap (v.2 + 1) + 1) + 1) + 1) + 1))) then true else decide (0 ≤ v.1) && decide (v.1 < ↑c.1)) (.need (bif !feq FloatKind.f32 (c.3 (v.1.toNat + 0)) (fint FloatKind.f32 v.2) then true else bif !feq FloatKind.f32 (c.4 (v.1.toNat + 0)) (fint FloatKind.f32 (IntKind.i64.wrap (v.2 + 1))) then true else bif !feq FloatKind.f32 (c.5 (v.1.toNat + 0)) (fint FloatKind.f32 (IntKind.i64.wrap (IntKind.i64.wrap (v.2 + 1) + 1))) then true else bif !feq FloatKind.f32 (c.6 (v.1.toNat + 0)) (fint FloatKind.f32 (IntKind.i64.wrap (IntKind.i64.wrap (IntKind.i64.wrap (v.2 + 1) + 1) + 1))) then true else bif !feq FloatKind.f32 (c.7 (v.1.toNat + 0)) (fint FloatKind.f32 (IntKind.i64.wrap (IntKind.i64.wrap (IntKind.i64.wrap (IntKind.i64.wrap (v.2 + 1) + 1) + 1) + 1))) then true else bif !feq FloatKind.f32 (c.8 (v.1.toNat + 0)) (fint FloatKind.f32 (IntKind.i64.wrap (IntKind.i64.wrap (IntKind.i64.wrap (IntKind.i64.wrap (IntKind.i64.wrap (v.2 + 1) + 1) + 1) + 1) + 1))) then true else decide (v.1.toNat + 0 < c.2)) (.ite (!feq FloatKind.f32 (c.3 (v.1.toNat + 0)) (fint FloatKind.f32 v.2)) (.leaf (.out (EX.ret) ⟨[(0, AV.one (SV.su 0 7 0 c.1 false)), (1, AV.one (SV.num IntKind.i64 v.2)), (5, AV.one (SV.num IntKind.i64 v.1))], c.base ++ []⟩)) (.ite (!feq FloatKind.f32 (c.4 (v.1.toNat + 0)) (fint FloatKind.f32 (IntKind.i64.wrap (v.2 + 1)))) (.leaf (.out (EX.ret) ⟨[(0, AV.one (SV.su 0 7 0 c.1 false)), (1, AV.one (SV.num IntKind.i64 (IntKind.i64.wrap (v.2 + 1)))), (5, AV.one (SV.num IntKind.i64 v.1))], c.base ++ []⟩)) (.ite (!feq FloatKind.f32 (c.5 (v.1.toNat + 0)) (fint FloatKind.f32 (IntKind.i64.wrap (IntKind.i64.wrap (v.2 + 1) + 1)))) (.leaf (.out (EX.ret) ⟨[(0, AV.one (SV.su 0 7 0 c.1 false)), (1, AV.one (SV.num IntKind.i64 (IntKind.i64.wrap (IntKind.i64.wrap (v.2 + 1) + 1)))), (5, AV.one (SV.num IntKind.i64 v.1))], c.base ++ []⟩)) (.ite (!feq FloatKind.f32 (c.6 (v.1.toNat + 0)) (fint FloatKind.f32 (IntKind.i64.wrap (IntKind.i64.wrap (IntKind.i64.wrap (v.2 + 1) + 1) + 1)))) (.leaf (.out (EX.ret) ⟨[(0, AV.one (SV.su 0 7 0 c.1 false)), (1, AV.one (SV.num IntKind.i64 (IntKind.i64.wrap (IntKind.i64.wrap (IntKind.i64.wrap (v.2 + 1) + 1) + 1)))), (5, AV.one (SV.num IntKind.i64 v.1))], c.base ++ []⟩)) (.ite (!feq FloatKind.f32 (c.7 (v.1.toNat + 0)) (fint FloatKind.f32 (IntKind.i64.wrap (IntKind.i64.wrap (IntKind.i64.wrap (IntKind.i64.wrap (v.2 + 1) + 1) + 1) + 1)))) (.leaf (.out (EX.ret) ⟨[(0, AV.one (SV.su 0 7 0 c.1 false)), (1, AV.one (SV.num IntKind.i64 (IntKind.i64.wrap (IntKind.i64.wrap (IntKind.i64.wrap (IntKind.i64.wrap (v.2 + 1) + 1) + 1) + 1)))), (5, AV.one (SV.num IntKind.i64 v.1))], c.base ++ []⟩)) (.ite (!feq FloatKind.f32 (c.8 (v.1.toNat + 0)) (fint FloatKind.f32 (IntKind.i64.wrap (IntKind.i64.wrap (IntKind.i64.wrap (IntKind.i64.wrap (IntKind.i64.wrap (v.2 + 1) + 1) + 1) + 1) + 1)))) (.leaf (.out (EX.ret) ⟨[(0, AV.one (SV.su 0 7 0 c.1 false)), (1, AV.one (SV.num IntKind.i64 (IntKind.i64.wrap (IntKind.i64.wrap (IntKind.i64.wrap (IntKind.i64.wrap (IntKind.i64.wrap (v.2 + 1) + 1) + 1) + 1) + 1)))), (5, AV.one (SV.num IntKind.i64 v.1))], c.base ++ []⟩)) (.ite (!feq FloatKind.f32 (c.9 (v.1.toNat + 0)) (fint FloatKind.f32 (IntKind.i64.wrap (IntKind.i64.wrap (IntKind.i64.wrap (IntKind.i64.wrap (IntKind.i64.wrap (IntKind.i64.wrap (v.2 + 1) + 1) + 1) + 1) + 1) + 1)))) (.leaf (.out (EX.ret) ⟨[(0, AV.one (SV.su 0 7 0 c.1 false)), (1, AV.one (SV.num IntKind.i64 (IntKind.i64.wrap (IntKind.i64.wrap (IntKind.i64.wrap (IntKind.i64.wrap (IntKind.i64.wrap (IntKind.i64.wrap (v.2 + 1) + 1) + 1) + 1) + 1) + 1)))), (5, AV.one (SV.num IntKind.i64 v.1))], c.base ++ []⟩)) (.leaf (.go { i := IntKind.i64.wrap (v.1 + 1), k := IntKind.i64.wrap (IntKind.i64.wrap (IntKind.i64.wrap (IntKind.i64.wrap (IntKind.i64.wrap (IntKind.i64.wrap (IntKind.i64.wrap (v.2 + 1) + 1) + 1) + 1) + 1) + 1) + 1) }))))))))))))))))))))))) (.leaf (.out (EX.exit 0) ⟨[(0, AV.one (SV.su 0 7 0 c.1 false)), (1, AV.one (SV.num IntKind.i64 v.2)), (5, AV.one (SV.num IntKind.i64 v.1))], c.base ++ []⟩))
theorem he_round (c : Che) (v : Vhe) : roundF Try.prog 89 [] heRoot [] c.base [0, 1, 4, 5, 9, 20, 31, 42, 53, 64, 75, 85, 198] [0, 1, 5] 0 (he_st c v) = (he_step c v).map (nxF (he_st c)) := by kernel_rfl
theorem held_no {x y c j : Nat} (h : x = mk c j) (hy : y = fint .f32 ((7 * j + c + 1 : Nat) : Int)) : ¬ ((!feq .f32 x y) = true) := by
  rw [h, hy]
  unfold mk
  rw [feq_self, nan_fint]
  simp
def he_g (c : Che) (j : Nat) (a : Unit) : Unit := a
def he_ok (c : Che) (v : Vhe) : Bool := decide (c.n ≤ c.m ∧ c.n ≤ 1048576 ∧ v.k = 7 * v.i + 1 ∧ (∀ i, i < c.n → c.f0 i = mk 0 i) ∧ (∀ i, i < c.n → c.f1 i = mk 1 i) ∧ (∀ i, i < c.n → c.f2 i = mk 2 i) ∧ (∀ i, i < c.n → c.f3 i = mk 3 i) ∧ (∀ i, i < c.n → c.f4 i = mk 4 i) ∧ (∀ i, i < c.n → c.f5 i = mk 5 i) ∧ (∀ i, i < c.n → c.f6 i = mk 6 i) ∧ 0 ≤ v.i ∧ v.i ≤ ((c.n : Nat) : Int))
def he_fin (c : Che) (a : Unit) : FSt := he_st c ({ i := (c.n : Int), k := 7 * (c.n : Int) + 1 })
noncomputable def he_R (x : Che × Vhe) : T (EX × FSt) := .need (he_ok x.1 x.2) (.leaf (.normal, he_fin x.1 (iter (he_g x.1) (x.1.n - x.2.i.toNat) x.2.i.toNat ())))
theorem he_tri (x : Che × Vhe) : TriR Try.prog 89 x.1.base (.block 0 (.loop (bodyB heRoot 0))) (he_st x.1 x.2) (he_R x) := by
  obtain ⟨c, v⟩ := x
  refine triR_of mix (root := heRoot) (by kernel_rfl) (by kernel_rfl) [0, 1, 4, 5, 9, 20, 31, 42, 53, 64, 75, 85, 198] [0, 1, 5] (he_st c) (he_step c) (he_round c) v _ ((c.n - v.i.toNat) + 1) (fun Φ h => ?_)
  have h0 := h.1
  have h1 : Φ (.normal, he_fin c (iter (he_g c) (c.n - v.i.toNat) v.i.toNat ())) := h.2
  simp only [he_ok, decide_eq_true_eq] at h0
  obtain ⟨hk0, hk1, hk2, hk3, hk4, hk5, hk6, hk7, hk8, hk9, hi0, hin⟩ := h0
  have hv : v = (fun (j : Nat) (a : Unit) => ({ i := (j : Int), k := 7 * (j : Int) + 1 } : Vhe)) v.i.toNat () := by
    obtain ⟨i, k⟩ := v
    have hi0 : 0 ≤ i := hi0
    have hk2 : k = 7 * i + 1 := hk2
    subst hk2
    simp only [Int.toNat_of_nonneg hi0]
  have key := T_iter (he_step c) (fun (j : Nat) (a : Unit) => ({ i := (j : Int), k := 7 * (j : Int) + 1 } : Vhe)) c.n (he_g c) (fun a => (.exit 0, he_fin c a)) (fun j a hj Ψ hΨ => ?_) (fun a Ψ hΨ => ?_) (fun a => by simp) (c.n - v.i.toNat) v.i.toNat () (by omega) (fun r => Φ (blkEx 0 r.1, r.2)) (by simpa [blkEx] using h1)
  · exact (congrArg (fun z => (loopTree (he_step c) (c.n - v.i.toNat + 1) z).holds fun r => Φ (blkEx 0 r.1, r.2)) hv).mpr key
  · unfold he_step
    have e1 : IntKind.i64.wrap (7 * (j : Int) + 1 + 1) = ((7 * j + 1 + 1 : Nat) : Int) := by rw [IntWalk.i64_in _ (by omega)]; omega
    have e2 : IntKind.i64.wrap (((7 * j + 1 + 1 : Nat) : Int) + 1) = ((7 * j + 2 + 1 : Nat) : Int) := by rw [IntWalk.i64_in _ (by omega)]; omega
    have e3 : IntKind.i64.wrap (((7 * j + 2 + 1 : Nat) : Int) + 1) = ((7 * j + 3 + 1 : Nat) : Int) := by rw [IntWalk.i64_in _ (by omega)]; omega
    have e4 : IntKind.i64.wrap (((7 * j + 3 + 1 : Nat) : Int) + 1) = ((7 * j + 4 + 1 : Nat) : Int) := by rw [IntWalk.i64_in _ (by omega)]; omega
    have e5 : IntKind.i64.wrap (((7 * j + 4 + 1 : Nat) : Int) + 1) = ((7 * j + 5 + 1 : Nat) : Int) := by rw [IntWalk.i64_in _ (by omega)]; omega
    have e6 : IntKind.i64.wrap (((7 * j + 5 + 1 : Nat) : Int) + 1) = ((7 * j + 6 + 1 : Nat) : Int) := by rw [IntWalk.i64_in _ (by omega)]; omega
    have e7 : IntKind.i64.wrap (((7 * j + 6 + 1 : Nat) : Int) + 1) = 7 * ((j + 1 : Nat) : Int) + 1 := by rw [IntWalk.i64_in _ (by omega)]; omega
    have e0 : 7 * (j : Int) + 1 = ((7 * j + 0 + 1 : Nat) : Int) := by omega
    refine (T.h_ite (fun _ => ?_) (fun hc => absurd hc (by simp <;> omega)))
    refine (T.h_need (by simp <;> omega) (T.h_need (by simp <;> omega) (T.h_need (needT fun c0 => (by simp <;> omega)) (T.h_need (needT fun c0 => (by simp <;> omega)) (T.h_need (needT fun c0 => (needT fun c1 => (by simp <;> omega))) (T.h_need (needT fun c0 => (needT fun c1 => (by simp <;> omega))) (T.h_need (needT fun c0 => (needT fun c1 => (needT fun c2 => (by simp <;> omega)))) (T.h_need (needT fun c0 => (needT fun c1 => (needT fun c2 => (by simp <;> omega)))) (T.h_need (needT fun c0 => (needT fun c1 => (needT fun c2 => (needT fun c3 => (by simp <;> omega))))) (T.h_need (needT fun c0 => (needT fun c1 => (needT fun c2 => (needT fun c3 => (by simp <;> omega))))) (T.h_need (needT fun c0 => (needT fun c1 => (needT fun c2 => (needT fun c3 => (needT fun c4 => (by simp <;> omega)))))) (T.h_need (needT fun c0 => (needT fun c1 => (needT fun c2 => (needT fun c3 => (needT fun c4 => (by simp <;> omega)))))) (T.h_need (needT fun c0 => (needT fun c1 => (needT fun c2 => (needT fun c3 => (needT fun c4 => (needT fun c5 => (by simp <;> omega))))))) (T.h_need (needT fun c0 => (needT fun c1 => (needT fun c2 => (needT fun c3 => (needT fun c4 => (needT fun c5 => (by simp <;> omega))))))) (T.h_ite (fun hc => absurd hc (held_no (c := 0) (hk3 j (by omega)) (by rw [e0]))) (fun _ => (T.h_ite (fun hc => absurd hc (held_no (c := 1) (hk4 j (by omega)) (by rw [e1]))) (fun _ => (T.h_ite (fun hc => absurd hc (held_no (c := 2) (hk5 j (by omega)) (by rw [e1, e2]))) (fun _ => (T.h_ite (fun hc => absurd hc (held_no (c := 3) (hk6 j (by omega)) (by rw [e1, e2, e3]))) (fun _ => (T.h_ite (fun hc => absurd hc (held_no (c := 4) (hk7 j (by omega)) (by rw [e1, e2, e3, e4]))) (fun _ => (T.h_ite (fun hc => absurd hc (held_no (c := 5) (hk8 j (by omega)) (by rw [e1, e2, e3, e4, e5]))) (fun _ => (T.h_ite (fun hc => absurd hc (held_no (c := 6) (hk9 j (by omega)) (by rw [e1, e2, e3, e4, e5, e6]))) (fun _ => ?_))))))))))))))))))))))))))))
    refine T.h_leaf ?_
    rw [wrap_next (by omega)]
    rw [e1, e2, e3, e4, e5, e6, e7]
    exact hΨ
  · unfold he_step
    refine (T.h_ite (fun hc => absurd hc (by simp <;> omega)) (fun _ => T.h_leaf hΨ.2))

def he_dec (b : Mem) (f : FSt) : Option (Che × Vhe) :=
  match getSu 0 7 (findF 0 f.sl), getI (findF 5 f.sl), getI (findF 1 f.sl), id b, f.mem with
  | some (0, n_), some q_i, some q_k, [some (.cols m_ [.fl .f32 f0_, .fl .f32 f1_, .fl .f32 f2_, .fl .f32 f3_, .fl .f32 f4_, .fl .f32 f5_, .fl .f32 f6_])], [_] => some ({ n := n_, m := m_, f0 := f0_, f1 := f1_, f2 := f2_, f3 := f3_, f4 := f4_, f5 := f5_, f6 := f6_ }, { i := q_i, k := q_k })
  | _, _, _, _, _ => none
theorem he_dec_ok (b : Mem) (f : FSt) (x : Che × Vhe) (h : he_dec b f = some x) : b = x.1.base ∧ FLe b f (he_st x.1 x.2) := by
  unfold he_dec at h
  split at h
  · rename_i e0 e1 e2 hb hm
    cases h
    have hb : b = _ := hb
    subst hb
    refine ⟨rfl, fle_of (fun p hp => ?_) (by rw [hm]; exact trivial)⟩
    simp only [List.mem_cons, List.not_mem_nil, or_false] at hp
    rcases hp with rfl | rfl | rfl
    · exact getSu_rel e0
    · exact getI_rel e2
    · exact getI_rel e1
  · cases h
noncomputable def he_sum : SumF Try.prog 89 heRoot :=
  sumL (pathB heRoot 0) he_dec (fun x => x.1.base) (fun x => he_st x.1 x.2) he_R he_dec_ok (by
    intro code hc x
    have hc2 : code = .block 0 (.loop (bodyB heRoot 0)) := by
      have h : subR heRoot (pathB heRoot 0) = some (.block 0 (.loop (bodyB heRoot 0))) := by kernel_rfl
      rw [h] at hc; cases hc; rfl
    subst hc2
    exact he_tri x)

noncomputable def k_held0 : Ctr Try.prog := (mkF0 Try.prog mix [] 15 Try.f15 (bodyOf Try.f15) Try.func15 (by kernel_rfl) (by kernel_rfl) [0, 1, 4, 5, 9, 20, 31, 42, 53, 64, 75, 85, 198] 89 (by kernel_rfl) (by kernel_rfl) [he_sum]).mg
noncomputable def k_heldN : Ctr Try.prog := mkF Try.prog mix [] 15 Try.f15 (bodyOf Try.f15) Try.func15 (by kernel_rfl) (by kernel_rfl) [0, 1, 4, 5, 9, 20, 31, 42, 53, 64, 75, 85] 89 (by kernel_rfl) (by kernel_rfl)
def cmk (n : Nat) (f : Nat → Nat) (c : Nat) : Bool := decide (∀ i, i < n → f i = mk c i)
theorem cmk_mk (n c : Nat) : cmk n (mk c) c = true := decide_eq_true fun _ _ => rfl
theorem cmk_out {n c : Nat} {f : Nat → Nat} (h : cmk n f c = true) : ∀ i, i < n → f i = mk c i := of_decide_eq_true h
def run_held : List AV → Mem → T Res
  | [.one (.su 0 7 0 n false), .one (.int .i64 k)], [some (.cols m [.fl .f32 f0, .fl .f32 f1, .fl .f32 f2, .fl .f32 f3, .fl .f32 f4, .fl .f32 f5, .fl .f32 f6])] => .need (decide (k = 1)) (.need (decide (n ≤ m)) (.need (decide (n ≤ 1048576)) (.need (cmk n f0 0 && cmk n f1 1 && cmk n f2 2 && cmk n f3 3 && cmk n f4 4 && cmk n f5 5 && cmk n f6 6) (.leaf (.one (.num .i64 (7 * (n : Int) + 1)), [])))))
  | _, _ => .fail
theorem held0_ev (n m : Nat) (f0 f1 f2 f3 f4 f5 f6 : Nat → Nat) : k_held0.run [.one (.su 0 7 0 n false), .one (.num .i64 1)] [some (.cols m [.fl .f32 f0, .fl .f32 f1, .fl .f32 f2, .fl .f32 f3, .fl .f32 f4, .fl .f32 f5, .fl .f32 f6])] =
    .need (he_ok { n := n, m := m, f0 := f0, f1 := f1, f2 := f2, f3 := f3, f4 := f4, f5 := f5, f6 := f6 } { i := 0, k := 1 }) (.leaf (.one (.num .i64 (7 * (n : Int) + 1)), [])) := by kernel_rfl
noncomputable def k_heldS : Ctr Try.prog := ((k_held0.re run_held (by
  intro args mem hfine Φ hΦ h
  unfold run_held at h
  split at h
  · rename_i n k m f0 f1 f2 f3 f4 f5 f6
    have hk : k = 1 := of_decide_eq_true h.1
    have hm : n ≤ m := of_decide_eq_true h.2.1
    have hn : n ≤ 1048576 := of_decide_eq_true h.2.2.1
    have hc := h.2.2.2.1
    have hl := h.2.2.2.2
    subst hk
    simp only [Bool.and_eq_true] at hc
    refine Exists.intro [.one (.su 0 7 0 n false), .one (.num .i64 1)] (Exists.intro _ (And.intro ?_ (And.intro (MemLe.refl _) ?_)))
    · intro ρ vals hv
      exact suargs hv
    · rw [held0_ev]
      refine T.h_need (decide_eq_true ⟨hm, hn, ?_, cmk_out hc.1.1.1.1.1.1, cmk_out hc.1.1.1.1.1.2, cmk_out hc.1.1.1.1.2, cmk_out hc.1.1.1.2, cmk_out hc.1.1.2, cmk_out hc.1.2, cmk_out hc.2, Int.le_refl 0, Int.natCast_nonneg n⟩) (T.h_leaf hl)
      show (1 : Int) = 7 * 0 + 1
      omega
  · exact h.elim)).su.own).pick k_heldN (by kernel_rfl) nilArg
structure Ceq where
  n : Nat
  m : Nat
  n2 : Nat
  m2 : Nat
  f0 : Nat → Nat
  f1 : Nat → Nat
  f2 : Nat → Nat
  f3 : Nat → Nat
  f4 : Nat → Nat
  f5 : Nat → Nat
  f6 : Nat → Nat
  g0 : Nat → Nat
  g1 : Nat → Nat
  g2 : Nat → Nat
  g3 : Nat → Nat
  g4 : Nat → Nat
  g5 : Nat → Nat
  g6 : Nat → Nat
def Ceq.base (c : Ceq) : Mem := [some (.cols c.m [.fl .f32 c.f0, .fl .f32 c.f1, .fl .f32 c.f2, .fl .f32 c.f3, .fl .f32 c.f4, .fl .f32 c.f5, .fl .f32 c.f6]), some (.cols c.m2 [.fl .f32 c.g0, .fl .f32 c.g1, .fl .f32 c.g2, .fl .f32 c.g3, .fl .f32 c.g4, .fl .f32 c.g5, .fl .f32 c.g6])]
structure Veq where
  i : Int
noncomputable abbrev eqRoot : Code := bodyOf Try.f13
def eq_st (c : Ceq) (v : Veq) : FSt := ⟨[(0, .one (.su 0 7 0 c.n false)), (1, .one (.su 1 7 0 c.n2 false)), (5, .one (.num .i64 v.i))], c.base ++ []⟩
def eq_step (c : Ceq) (v : Veq) : T (Nx Veq) :=
  .ite (decide (v.1 < ↑c.1)) (.need (decide (0 ≤ v.1) && decide (v.1 < ↑c.1)) (.need (decide (v.1.toNat + 0 < c.2)) (.need (decide (0 ≤ v.1) && decide (v.1 < ↑c.3)) (.need (decide (v.1.toNat + 0 < c.4)) (.need (decide (c.5 (v.1.toNat + 0) = c.12 (v.1.toNat + 0) ∧ c.6 (v.1.toNat + 0) = c.13 (v.1.toNat + 0) ∧ c.7 (v.1.toNat + 0) = c.14 (v.1.toNat + 0) ∧ c.8 (v.1.toNat + 0) = c.15 (v.1.toNat + 0) ∧ c.9 (v.1.toNat + 0) = c.16 (v.1.toNat + 0) ∧ c.10 (v.1.toNat + 0) = c.17 (v.1.toNat + 0) ∧ c.11 (v.1.toNat + 0) = c.18 (v.1.toNat + 0))) (.leaf (.go { i := IntKind.i64.wrap (v.1 + 1) }))))))) (.leaf (.out (EX.exit 0) ⟨[(0, AV.one (SV.su 0 7 0 c.1 false)), (1, AV.one (SV.su 1 7 0 c.3 false)), (5, AV.one (SV.num IntKind.i64 v.1))], c.base ++ []⟩))
theorem eq_round (c : Ceq) (v : Veq) : roundF Try.prog 27 [k_eqBody] eqRoot [] c.base [0, 1, 4, 5, 10, 14, 26, 198] [0, 1, 5] 0 (eq_st c v) = (eq_step c v).map (nxF (eq_st c)) := by kernel_rfl
def eq_g (c : Ceq) (j : Nat) (a : Unit) : Unit := a
def eq_ok (c : Ceq) (v : Veq) : Bool := decide (c.n ≤ c.m ∧ c.n2 = c.n ∧ c.n ≤ c.m2 ∧ c.n ≤ 1048576 ∧ (∀ i, i < c.n → c.f0 i = c.g0 i) ∧ (∀ i, i < c.n → c.f1 i = c.g1 i) ∧ (∀ i, i < c.n → c.f2 i = c.g2 i) ∧ (∀ i, i < c.n → c.f3 i = c.g3 i) ∧ (∀ i, i < c.n → c.f4 i = c.g4 i) ∧ (∀ i, i < c.n → c.f5 i = c.g5 i) ∧ (∀ i, i < c.n → c.f6 i = c.g6 i) ∧ 0 ≤ v.i ∧ v.i ≤ ((c.n : Nat) : Int))
def eq_fin (c : Ceq) (a : Unit) : FSt := eq_st c ({ i := (c.n : Int) })
noncomputable def eq_R (x : Ceq × Veq) : T (EX × FSt) := .need (eq_ok x.1 x.2) (.leaf (.normal, eq_fin x.1 (iter (eq_g x.1) (x.1.n - x.2.i.toNat) x.2.i.toNat ())))
theorem eq_tri (x : Ceq × Veq) : TriR Try.prog 27 x.1.base (.block 0 (.loop (bodyB eqRoot 0))) (eq_st x.1 x.2) (eq_R x) := by
  obtain ⟨c, v⟩ := x
  refine triR_of mix (root := eqRoot) (by kernel_rfl) (by kernel_rfl) [0, 1, 4, 5, 10, 14, 26, 198] [0, 1, 5] (eq_st c) (eq_step c) (eq_round c) v _ ((c.n - v.i.toNat) + 1) (fun Φ h => ?_)
  have h0 := h.1
  have h1 : Φ (.normal, eq_fin c (iter (eq_g c) (c.n - v.i.toNat) v.i.toNat ())) := h.2
  simp only [eq_ok, decide_eq_true_eq] at h0
  obtain ⟨hk0, hk1, hk2, hk3, hk4, hk5, hk6, hk7, hk8, hk9, hk10, hi0, hin⟩ := h0
  have hv : v = (fun (j : Nat) (a : Unit) => ({ i := (j : Int) } : Veq)) v.i.toNat () := by
    obtain ⟨i⟩ := v
    have hi0 : 0 ≤ i := hi0
    simp only [Int.toNat_of_nonneg hi0]
  have key := T_iter (eq_step c) (fun (j : Nat) (a : Unit) => ({ i := (j : Int) } : Veq)) c.n (eq_g c) (fun a => (.exit 0, eq_fin c a)) (fun j a hj Ψ hΨ => ?_) (fun a Ψ hΨ => ?_) (fun a => by simp) (c.n - v.i.toNat) v.i.toNat () (by omega) (fun r => Φ (blkEx 0 r.1, r.2)) (by simpa [blkEx] using h1)
  · exact (congrArg (fun z => (loopTree (eq_step c) (c.n - v.i.toNat + 1) z).holds fun r => Φ (blkEx 0 r.1, r.2)) hv).mpr key
  · unfold eq_step
    refine (T.h_ite (fun _ => ?_) (fun hc => absurd hc (by simp <;> omega)))
    refine (T.h_need (by simp <;> omega) (T.h_need (by simp <;> omega) (T.h_need (by simp <;> omega) (T.h_need (by simp <;> omega) (T.h_need (decide_eq_true ⟨hk4 j (by omega), hk5 j (by omega), hk6 j (by omega), hk7 j (by omega), hk8 j (by omega), hk9 j (by omega), hk10 j (by omega)⟩) ?_)))))
    refine T.h_leaf ?_
    rw [wrap_next (by omega)]
    exact hΨ
  · unfold eq_step
    refine (T.h_ite (fun hc => absurd hc (by simp <;> omega)) (fun _ => T.h_leaf hΨ.2))

def eq_dec (b : Mem) (f : FSt) : Option (Ceq × Veq) :=
  match getSu 0 7 (findF 0 f.sl), getSu 1 7 (findF 1 f.sl), getI (findF 5 f.sl), id b, f.mem with
  | some (0, n_), some (0, n2_), some q_i, [some (.cols m_ [.fl .f32 f0_, .fl .f32 f1_, .fl .f32 f2_, .fl .f32 f3_, .fl .f32 f4_, .fl .f32 f5_, .fl .f32 f6_]), some (.cols m2_ [.fl .f32 g0_, .fl .f32 g1_, .fl .f32 g2_, .fl .f32 g3_, .fl .f32 g4_, .fl .f32 g5_, .fl .f32 g6_])], [_, _] => some ({ n := n_, m := m_, n2 := n2_, m2 := m2_, f0 := f0_, f1 := f1_, f2 := f2_, f3 := f3_, f4 := f4_, f5 := f5_, f6 := f6_, g0 := g0_, g1 := g1_, g2 := g2_, g3 := g3_, g4 := g4_, g5 := g5_, g6 := g6_ }, { i := q_i })
  | _, _, _, _, _ => none
theorem eq_dec_ok (b : Mem) (f : FSt) (x : Ceq × Veq) (h : eq_dec b f = some x) : b = x.1.base ∧ FLe b f (eq_st x.1 x.2) := by
  unfold eq_dec at h
  split at h
  · rename_i e0 e1 e2 hb hm
    cases h
    have hb : b = _ := hb
    subst hb
    refine ⟨rfl, fle_of (fun p hp => ?_) (by rw [hm]; exact trivial)⟩
    simp only [List.mem_cons, List.not_mem_nil, or_false] at hp
    rcases hp with rfl | rfl | rfl
    · exact getSu_rel e0
    · exact getSu_rel e1
    · exact getI_rel e2
  · cases h
noncomputable def eq_sum : SumF Try.prog 27 eqRoot :=
  sumL (pathB eqRoot 0) eq_dec (fun x => x.1.base) (fun x => eq_st x.1 x.2) eq_R eq_dec_ok (by
    intro code hc x
    have hc2 : code = .block 0 (.loop (bodyB eqRoot 0)) := by
      have h : subR eqRoot (pathB eqRoot 0) = some (.block 0 (.loop (bodyB eqRoot 0))) := by kernel_rfl
      rw [h] at hc; cases hc; rfl
    subst hc2
    exact eq_tri x)

noncomputable def k_eq0 : Ctr Try.prog := (mkF0 Try.prog mix [k_eqBody] 13 Try.f13 (bodyOf Try.f13) Try.func13 (by kernel_rfl) (by kernel_rfl) [0, 1, 4, 5, 10, 14, 26, 198] 27 (by kernel_rfl) (by kernel_rfl) [eq_sum]).mg
noncomputable def k_eqN : Ctr Try.prog := mkF Try.prog mix [] 13 Try.f13 (bodyOf Try.f13) Try.func13 (by kernel_rfl) (by kernel_rfl) [0, 1, 4, 5, 10, 14, 26] 27 (by kernel_rfl) (by kernel_rfl)
def sameC (n : Nat) (f g : Nat → Nat) : Bool := decide (∀ i, i < n → f i = g i)
theorem sameC_mk (n : Nat) (f : Nat → Nat) : sameC n f f = true := decide_eq_true fun _ _ => rfl
theorem sameC_out {n : Nat} {f g : Nat → Nat} (h : sameC n f g = true) : ∀ i, i < n → f i = g i := of_decide_eq_true h
def run_eq2 : List AV → Mem → T Res
  | [.one (.su 0 7 0 n false), .one (.su 1 7 0 n2 false)], [some (.cols m [.fl .f32 f0, .fl .f32 f1, .fl .f32 f2, .fl .f32 f3, .fl .f32 f4, .fl .f32 f5, .fl .f32 f6]), some (.cols m2 [.fl .f32 g0, .fl .f32 g1, .fl .f32 g2, .fl .f32 g3, .fl .f32 g4, .fl .f32 g5, .fl .f32 g6])] => .need (decide (n2 = n)) (.need (decide (n ≤ m)) (.need (decide (n ≤ m2)) (.need (decide (n ≤ 1048576)) (.need (sameC n f0 g0 && sameC n f1 g1 && sameC n f2 g2 && sameC n f3 g3 && sameC n f4 g4 && sameC n f5 g5 && sameC n f6 g6) (.leaf (.one (.tt true), []))))))
  | _, _ => .fail
theorem eq0_ev (n m n2 m2 : Nat) (f0 f1 f2 f3 f4 f5 f6 g0 g1 g2 g3 g4 g5 g6 : Nat → Nat) : k_eq0.run [.one (.su 0 7 0 n false), .one (.su 1 7 0 n2 false)] [some (.cols m [.fl .f32 f0, .fl .f32 f1, .fl .f32 f2, .fl .f32 f3, .fl .f32 f4, .fl .f32 f5, .fl .f32 f6]), some (.cols m2 [.fl .f32 g0, .fl .f32 g1, .fl .f32 g2, .fl .f32 g3, .fl .f32 g4, .fl .f32 g5, .fl .f32 g6])] =
    T.need (bif !decide ((n : Int) = (n2 : Int)) then true else eq_ok { n := n, m := m, n2 := n2, m2 := m2, f0 := f0, f1 := f1, f2 := f2, f3 := f3, f4 := f4, f5 := f5, f6 := f6, g0 := g0, g1 := g1, g2 := g2, g3 := g3, g4 := g4, g5 := g5, g6 := g6 } { i := 0 }) (T.leaf (AV.one (SV.bo !!decide ((n : Int) = (n2 : Int))), [])) := by kernel_rfl
noncomputable def k_eqS : Ctr Try.prog := ((k_eq0.to run_eq2 (by
  intro args mem _
  unfold run_eq2
  split
  · rename_i n n2 m f0 f1 f2 f3 f4 f5 f6 m2 g0 g1 g2 g3 g4 g5 g6 _
    rw [eq0_ev]
    constructor
    intro Φ hΦ h
    have hn2 : n2 = n := of_decide_eq_true h.1
    have hm : n ≤ m := of_decide_eq_true h.2.1
    have hm2 : n ≤ m2 := of_decide_eq_true h.2.2.1
    have hn : n ≤ 1048576 := of_decide_eq_true h.2.2.2.1
    have hc := h.2.2.2.2.1
    have hl : Φ (.one (.tt true), []) := h.2.2.2.2.2
    subst hn2
    simp only [Bool.and_eq_true] at hc
    refine T.h_need (needT fun _ => decide_eq_true ⟨hm, rfl, hm2, hn, sameC_out hc.1.1.1.1.1.1, sameC_out hc.1.1.1.1.1.2, sameC_out hc.1.1.1.1.2, sameC_out hc.1.1.1.2, sameC_out hc.1.1.2, sameC_out hc.1.2, sameC_out hc.2, Int.le_refl 0, Int.natCast_nonneg _⟩) (T.h_leaf (hΦ _ _ (le2_tb ?_) hl))
    simp
  · exact Weak.fail _)).su.own).pick k_eqN (by kernel_rfl) nilArg

end Go.Proofs.Ytjaohecdhnhhbaa
