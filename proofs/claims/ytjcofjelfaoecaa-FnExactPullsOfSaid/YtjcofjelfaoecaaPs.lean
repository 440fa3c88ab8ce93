/-
  PullsOf: both functions in the same words. No conditions.
-/
import Derived.Test.YtjcofjelfaoecaaPu
import Derived.Test.YtjcofjelfaoecaaLx
namespace Go.Proofs.Ytjcofjelfaoecaa
set_option linter.unusedVariables false
set_option linter.unusedSimpArgs false
open Go.RowKit

structure Cpls where
  n : Nat
  m : Nat
  f0 : Nat → Nat
  f1 : Nat → Nat
  f2 : Nat → Nat
  f3 : Nat → Nat
  f4 : Nat → Nat
  f5 : Nat → Nat
  f6 : Nat → Nat
  core : Nat
def Cpls.base (c : Cpls) : Mem := [some (.cols c.m [.fl .f32 c.f0, .fl .f32 c.f1, .fl .f32 c.f2, .fl .f32 c.f3, .fl .f32 c.f4, .fl .f32 c.f5, .fl .f32 c.f6])]
structure Vpls where
  i : Int
  n : Nat
  o0 : Nat → Nat
  o1 : Nat → Nat
  o2 : Nat → Nat
noncomputable abbrev plsRoot : Code := bodyOf Try.f101
def pls_st (c : Cpls) (v : Vpls) : FSt := ⟨[(0, .one (.su 0 7 0 c.n false)), (1, .one (.fl .f32 c.core)), (4, .one (.val (.slice none 0 0))), (5, .one (.tt false)), (6, .one (.so 1 3 v.n 2)), (7, .one (.num .i64 v.i))], c.base ++ [some (.grow v.n [.fl .f32 v.o0, .fl .f32 v.o1, .fl .f32 v.o2] 2 41), none]⟩
def pls_step (c : Cpls) (v : Vpls) : T (Nx Vpls) :=
  .ite (decide (v.1 < ↑c.1)) (.need (decide (0 ≤ v.1) && decide (v.1 < ↑c.1)) (.need (decide (v.1.toNat + 0 < c.2)) (.need (decide (c.1 ≤ c.2)) (.need (decide (c.1 ≤ 1048576)) (.need (bif !bif fin FloatKind.f32 (puV c.1 c.3 c.4 c.5 c.6 c.7 c.8 c.9 (c.3 (v.1.toNat + 0)) (c.4 (v.1.toNat + 0)) (c.5 (v.1.toNat + 0)) c.10 v.1).1 then bif fin FloatKind.f32 (puV c.1 c.3 c.4 c.5 c.6 c.7 c.8 c.9 (c.3 (v.1.toNat + 0)) (c.4 (v.1.toNat + 0)) (c.5 (v.1.toNat + 0)) c.10 v.1).2.1 then fin FloatKind.f32 (puV c.1 c.3 c.4 c.5 c.6 c.7 c.8 c.9 (c.3 (v.1.toNat + 0)) (c.4 (v.1.toNat + 0)) (c.5 (v.1.toNat + 0)) c.10 v.1).2.2 else false else false then true else decide (v.2 ≤ v.2)) (.need (bif !bif fin FloatKind.f32 (puV c.1 c.3 c.4 c.5 c.6 c.7 c.8 c.9 (c.3 (v.1.toNat + 0)) (c.4 (v.1.toNat + 0)) (c.5 (v.1.toNat + 0)) c.10 v.1).1 then bif fin FloatKind.f32 (puV c.1 c.3 c.4 c.5 c.6 c.7 c.8 c.9 (c.3 (v.1.toNat + 0)) (c.4 (v.1.toNat + 0)) (c.5 (v.1.toNat + 0)) c.10 v.1).2.1 then fin FloatKind.f32 (puV c.1 c.3 c.4 c.5 c.6 c.7 c.8 c.9 (c.3 (v.1.toNat + 0)) (c.4 (v.1.toNat + 0)) (c.5 (v.1.toNat + 0)) c.10 v.1).2.2 else false else false then true else decide (0 < 1)) (.need (bif !bif fin FloatKind.f32 (puV c.1 c.3 c.4 c.5 c.6 c.7 c.8 c.9 (c.3 (v.1.toNat + 0)) (c.4 (v.1.toNat + 0)) (c.5 (v.1.toNat + 0)) c.10 v.1).1 then bif fin FloatKind.f32 (puV c.1 c.3 c.4 c.5 c.6 c.7 c.8 c.9 (c.3 (v.1.toNat + 0)) (c.4 (v.1.toNat + 0)) (c.5 (v.1.toNat + 0)) c.10 v.1).2.1 then fin FloatKind.f32 (puV c.1 c.3 c.4 c.5 c.6 c.7 c.8 c.9 (c.3 (v.1.toNat + 0)) (c.4 (v.1.toNat + 0)) (c.5 (v.1.toNat + 0)) c.10 v.1).2.2 else false else false then true else decide (v.2 + 1 ≤ 1073741824)) (.ite (!bif fin FloatKind.f32 (puV c.1 c.3 c.4 c.5 c.6 c.7 c.8 c.9 (c.3 (v.1.toNat + 0)) (c.4 (v.1.toNat + 0)) (c.5 (v.1.toNat + 0)) c.10 v.1).1 then bif fin FloatKind.f32 (puV c.1 c.3 c.4 c.5 c.6 c.7 c.8 c.9 (c.3 (v.1.toNat + 0)) (c.4 (v.1.toNat + 0)) (c.5 (v.1.toNat + 0)) c.10 v.1).2.1 then fin FloatKind.f32 (puV c.1 c.3 c.4 c.5 c.6 c.7 c.8 c.9 (c.3 (v.1.toNat + 0)) (c.4 (v.1.toNat + 0)) (c.5 (v.1.toNat + 0)) c.10 v.1).2.2 else false else false) (.leaf (.out (EX.ret) ⟨[(0, AV.one (SV.su 0 7 0 c.1 false)), (1, AV.one (SV.fl FloatKind.f32 c.10)), (4, AV.one (SV.val (Value.slice none 0 0))), (5, AV.one (SV.tt false)), (6, AV.one (SV.so 1 3 v.n 2)), (7, AV.one (SV.num IntKind.i64 v.1))], c.base ++ [some (.grow v.n [.fl .f32 v.o0, .fl .f32 v.o1, .fl .f32 v.o2] 2 41), none]⟩)) (.leaf (.go { i := IntKind.i64.wrap (v.1 + 1), n := v.n + 1, o0 := fun q => if q = v.n then (puV c.n c.f0 c.f1 c.f2 c.f3 c.f4 c.f5 c.f6 (c.f0 (v.i.toNat + 0)) (c.f1 (v.i.toNat + 0)) (c.f2 (v.i.toNat + 0)) c.core v.i).fst else v.o0 q, o1 := fun q => if q = v.n then (puV c.n c.f0 c.f1 c.f2 c.f3 c.f4 c.f5 c.f6 (c.f0 (v.i.toNat + 0)) (c.f1 (v.i.toNat + 0)) (c.f2 (v.i.toNat + 0)) c.core v.i).snd.fst else v.o1 q, o2 := fun q => if q = v.n then (puV c.n c.f0 c.f1 c.f2 c.f3 c.f4 c.f5 c.f6 (c.f0 (v.i.toNat + 0)) (c.f1 (v.i.toNat + 0)) (c.f2 (v.i.toNat + 0)) c.core v.i).snd.snd else v.o2 q })))))))))) (.leaf (.out (EX.exit 0) ⟨[(0, AV.one (SV.su 0 7 0 c.1 false)), (1, AV.one (SV.fl FloatKind.f32 c.10)), (4, AV.one (SV.val (Value.slice none 0 0))), (5, AV.one (SV.tt false)), (6, AV.one (SV.so 1 3 v.n 2)), (7, AV.one (SV.num IntKind.i64 v.1))], c.base ++ [some (.grow v.n [.fl .f32 v.o0, .fl .f32 v.o1, .fl .f32 v.o2] 2 41), none]⟩))
theorem pls_round (c : Cpls) (v : Vpls) : roundF Try.prog 33 [k_sPu, k_l01VFinite] plsRoot [] c.base [0, 1, 4, 5, 6, 7, 8, 13, 27, 198] [0, 1, 4, 5, 6, 7] 0 (pls_st c v) = (pls_step c v).map (nxF (pls_st c)) := by kernel_rfl
def pls_g (c : Cpls) (j : Nat) (a : (Nat → Nat) × (Nat → Nat) × (Nat → Nat)) : (Nat → Nat) × (Nat → Nat) × (Nat → Nat) := (fun q => if q = j then (puV c.n c.f0 c.f1 c.f2 c.f3 c.f4 c.f5 c.f6 (c.f0 j) (c.f1 j) (c.f2 j) c.core (j : Int)).1 else a.1 q, fun q => if q = j then (puV c.n c.f0 c.f1 c.f2 c.f3 c.f4 c.f5 c.f6 (c.f0 j) (c.f1 j) (c.f2 j) c.core (j : Int)).2.1 else a.2.1 q, fun q => if q = j then (puV c.n c.f0 c.f1 c.f2 c.f3 c.f4 c.f5 c.f6 (c.f0 j) (c.f1 j) (c.f2 j) c.core (j : Int)).2.2 else a.2.2 q)
def pls_ok (c : Cpls) (v : Vpls) : Bool := decide (c.n ≤ c.m ∧ c.n ≤ 1048576 ∧ v.n = v.i.toNat ∧ 0 ≤ v.i ∧ v.i ≤ ((c.n : Nat) : Int))
def pls_fin (c : Cpls) (a : (Nat → Nat) × (Nat → Nat) × (Nat → Nat)) : FSt := pls_st c ({ i := (c.n : Int), n := c.n, o0 := a.1, o1 := a.2.1, o2 := a.2.2 })
def pls_osv (c : Cpls) (v : Vpls) : FSt := ⟨[(0, AV.one (SV.su 0 7 0 c.1 false)), (1, AV.one (SV.fl FloatKind.f32 c.10)), (4, AV.one (SV.val (Value.slice none 0 0))), (5, AV.one (SV.tt false)), (6, AV.one (SV.so 1 3 v.n 2)), (7, AV.one (SV.num IntKind.i64 v.1))], c.base ++ [some (.grow v.n [.fl .f32 v.o0, .fl .f32 v.o1, .fl .f32 v.o2] 2 41), none]⟩
def pls_ost (c : Cpls) (o : (Nat × ((Nat → Nat) × (Nat → Nat) × (Nat → Nat)))) : FSt := pls_osv c ((fun (j : Nat) (a : (Nat → Nat) × (Nat → Nat) × (Nat → Nat)) => ({ i := (j : Int), n := j, o0 := a.1, o1 := a.2.1, o2 := a.2.2 } : Vpls)) o.1 o.2)
def pls_it (c : Cpls) (k s : Nat) (a : (Nat → Nat) × (Nat → Nat) × (Nat → Nat)) : ((Nat → Nat) × (Nat → Nat) × (Nat → Nat)) ⊕ (Nat × ((Nat → Nat) × (Nat → Nat) × (Nat → Nat))) := iterX (exitAt (fun j => !fin3 (puV c.n c.f0 c.f1 c.f2 c.f3 c.f4 c.f5 c.f6 (c.f0 j) (c.f1 j) (c.f2 j) c.core (j : Int)).1 (puV c.n c.f0 c.f1 c.f2 c.f3 c.f4 c.f5 c.f6 (c.f0 j) (c.f1 j) (c.f2 j) c.core (j : Int)).2.1 (puV c.n c.f0 c.f1 c.f2 c.f3 c.f4 c.f5 c.f6 (c.f0 j) (c.f1 j) (c.f2 j) c.core (j : Int)).2.2) (pls_g c)) k s a
noncomputable def pls_R (x : Cpls × Vpls) : T (EX × FSt) := .need (pls_ok x.1 x.2) (.ite (isL (pls_it x.1 (x.1.n - x.2.i.toNat) x.2.i.toNat (x.2.o0, x.2.o1, x.2.o2))) (.leaf (.normal, pls_fin x.1 (valL (fun _ => canon .f32 0, fun _ => canon .f32 0, fun _ => canon .f32 0) (pls_it x.1 (x.1.n - x.2.i.toNat) x.2.i.toNat (x.2.o0, x.2.o1, x.2.o2))))) (.leaf (.ret, pls_ost x.1 (valR (0, (fun _ => canon .f32 0, fun _ => canon .f32 0, fun _ => canon .f32 0)) (pls_it x.1 (x.1.n - x.2.i.toNat) x.2.i.toNat (x.2.o0, x.2.o1, x.2.o2))))))
theorem pls_tri (x : Cpls × Vpls) : TriR Try.prog 33 x.1.base (.block 0 (.loop (bodyB plsRoot 0))) (pls_st x.1 x.2) (pls_R x) := by
  obtain ⟨c, v⟩ := x
  refine triR_of mix (root := plsRoot) (by kernel_rfl) (by kernel_rfl) [0, 1, 4, 5, 6, 7, 8, 13, 27, 198] [0, 1, 4, 5, 6, 7] (pls_st c) (pls_step c) (pls_round c) v _ ((c.n - v.i.toNat) + 1) (fun Φ h => ?_)
  have h0 := h.1
  have h3 : (isL (pls_it c (c.n - v.i.toNat) v.i.toNat (v.o0, v.o1, v.o2)) = true → Φ (.normal, pls_fin c (valL (fun _ => canon .f32 0, fun _ => canon .f32 0, fun _ => canon .f32 0) (pls_it c (c.n - v.i.toNat) v.i.toNat (v.o0, v.o1, v.o2))))) ∧ (isL (pls_it c (c.n - v.i.toNat) v.i.toNat (v.o0, v.o1, v.o2)) = false → Φ (.ret, pls_ost c (valR (0, (fun _ => canon .f32 0, fun _ => canon .f32 0, fun _ => canon .f32 0)) (pls_it c (c.n - v.i.toNat) v.i.toNat (v.o0, v.o1, v.o2))))) := h.2
  simp only [pls_ok, decide_eq_true_eq] at h0
  obtain ⟨hk0, hk1, hk2, hi0, hin⟩ := h0
  have hv : v = (fun (j : Nat) (a : (Nat → Nat) × (Nat → Nat) × (Nat → Nat)) => ({ i := (j : Int), n := j, o0 := a.1, o1 := a.2.1, o2 := a.2.2 } : Vpls)) v.i.toNat (v.o0, v.o1, v.o2) := by
    obtain ⟨i, n, o0, o1, o2⟩ := v
    have hi0 : 0 ≤ i := hi0
    have hk9 : n = i.toNat := hk2
    subst hk9
    simp only [Int.toNat_of_nonneg hi0]
  have key := T_iterX (pls_step c) (fun (j : Nat) (a : (Nat → Nat) × (Nat → Nat) × (Nat → Nat)) => ({ i := (j : Int), n := j, o0 := a.1, o1 := a.2.1, o2 := a.2.2 } : Vpls)) c.n (exitAt (fun j => !fin3 (puV c.n c.f0 c.f1 c.f2 c.f3 c.f4 c.f5 c.f6 (c.f0 j) (c.f1 j) (c.f2 j) c.core (j : Int)).1 (puV c.n c.f0 c.f1 c.f2 c.f3 c.f4 c.f5 c.f6 (c.f0 j) (c.f1 j) (c.f2 j) c.core (j : Int)).2.1 (puV c.n c.f0 c.f1 c.f2 c.f3 c.f4 c.f5 c.f6 (c.f0 j) (c.f1 j) (c.f2 j) c.core (j : Int)).2.2) (pls_g c)) (fun a => (.exit 0, pls_fin c a)) (fun o => (.ret, pls_ost c o)) (fun j a hj Ψ h1 h2 => ?_) (fun a Ψ hΨ => ?_) (fun a => by simp) (fun o => by simp) (c.n - v.i.toNat) v.i.toNat (v.o0, v.o1, v.o2) (by omega) (fun r => Φ (blkEx 0 r.1, r.2)) (fun b hb => ?_) (fun o ho => ?_)
  · exact (congrArg (fun z => (loopTree (pls_step c) (c.n - v.i.toNat + 1) z).holds fun r => Φ (blkEx 0 r.1, r.2)) hv).mpr key
  · unfold pls_step
    refine (T.h_ite (fun _ => ?_) (fun hc => absurd hc (by simp <;> omega)))
    refine (T.h_need (by simp <;> omega) (T.h_need (by simp <;> omega) (T.h_need (by simp <;> omega) (T.h_need (by simp <;> omega) (T.h_need (needT fun c0 => (by simp <;> omega)) (T.h_need (needT fun c0 => (by simp <;> omega)) (T.h_need (needT fun c0 => (by simp <;> omega)) (T.h_ite (fun hc => (T.h_leaf (h2 (j, a) (by unfold exitAt; rw [show (fun j => !fin3 (puV c.n c.f0 c.f1 c.f2 c.f3 c.f4 c.f5 c.f6 (c.f0 j) (c.f1 j) (c.f2 j) c.core (j : Int)).1 (puV c.n c.f0 c.f1 c.f2 c.f3 c.f4 c.f5 c.f6 (c.f0 j) (c.f1 j) (c.f2 j) c.core (j : Int)).2.1 (puV c.n c.f0 c.f1 c.f2 c.f3 c.f4 c.f5 c.f6 (c.f0 j) (c.f1 j) (c.f2 j) c.core (j : Int)).2.2) j = true from hc])))) (fun hc => ?_)))))))))
    refine T.h_leaf ?_
    rw [wrap_next (by omega)]
    exact h1 (pls_g c j a) (by unfold exitAt; rw [show (fun j => !fin3 (puV c.n c.f0 c.f1 c.f2 c.f3 c.f4 c.f5 c.f6 (c.f0 j) (c.f1 j) (c.f2 j) c.core (j : Int)).1 (puV c.n c.f0 c.f1 c.f2 c.f3 c.f4 c.f5 c.f6 (c.f0 j) (c.f1 j) (c.f2 j) c.core (j : Int)).2.1 (puV c.n c.f0 c.f1 c.f2 c.f3 c.f4 c.f5 c.f6 (c.f0 j) (c.f1 j) (c.f2 j) c.core (j : Int)).2.2) j = false from hc])
  · unfold pls_step
    refine (T.h_ite (fun hc => absurd hc (by simp <;> omega)) (fun _ => T.h_leaf hΨ))
  · have hb : pls_it c (c.n - v.i.toNat) v.i.toNat (v.o0, v.o1, v.o2) = .inl b := hb
    have h4 := h3.1 (by rw [hb]; rfl)
    rw [hb] at h4
    simpa [blkEx, valL] using h4
  · have ho : pls_it c (c.n - v.i.toNat) v.i.toNat (v.o0, v.o1, v.o2) = .inr o := ho
    have h4 := h3.2 (by rw [ho]; rfl)
    rw [ho] at h4
    simpa [blkEx, valR] using h4

def pls_dec (b : Mem) (f : FSt) : Option (Cpls × Vpls) :=
  match getSu 0 7 (findF 0 f.sl), getF .f32 (findF 1 f.sl), getNil (findF 4 f.sl), getFf (findF 5 f.sl), getI (findF 7 f.sl), getSo 1 3 2 (findF 6 f.sl), id b, f.mem with
  | some (0, n_), some core_, some (), some (), some q_i, some q_n, [some (.cols m_ [.fl .f32 f0_, .fl .f32 f1_, .fl .f32 f2_, .fl .f32 f3_, .fl .f32 f4_, .fl .f32 f5_, .fl .f32 f6_])], [_, some (.grow r_n [.fl .f32 q_o0, .fl .f32 q_o1, .fl .f32 q_o2] 2 41), none] => if q_n = r_n then some ({ n := n_, m := m_, f0 := f0_, f1 := f1_, f2 := f2_, f3 := f3_, f4 := f4_, f5 := f5_, f6 := f6_, core := core_ }, { i := q_i, n := q_n, o0 := q_o0, o1 := q_o1, o2 := q_o2 }) else none
  | _, _, _, _, _, _, _, _ => none
theorem pls_dec_ok (b : Mem) (f : FSt) (x : Cpls × Vpls) (h : pls_dec b f = some x) : b = x.1.base ∧ FLe b f (pls_st x.1 x.2) := by
  unfold pls_dec at h
  split at h
  · rename_i e0 e1 e2 e3 e4 e5 hb hm
    obtain ⟨hbo, h9⟩ := ite_some h
    clear h
    subst hbo
    have h := h9
    cases h
    have hb : b = _ := hb
    subst hb
    refine ⟨rfl, fle_of (fun p hp => ?_) (by rw [hm]; exact memLe_refl _)⟩
    simp only [List.mem_cons, List.not_mem_nil, or_false] at hp
    rcases hp with rfl | rfl | rfl | rfl | rfl | rfl
    · exact getSu_rel e0
    · exact getF_rel e1
    · exact getNil_rel e2
    · exact getFf_rel e3
    · exact getSo_rel e5
    · exact getI_rel e4
  · cases h
noncomputable def pls_sum : SumF Try.prog 33 plsRoot :=
  sumL (pathB plsRoot 0) pls_dec (fun x => x.1.base) (fun x => pls_st x.1 x.2) pls_R pls_dec_ok (by
    intro code hc x
    have hc2 : code = .block 0 (.loop (bodyB plsRoot 0)) := by
      have h : subR plsRoot (pathB plsRoot 0) = some (.block 0 (.loop (bodyB plsRoot 0))) := by kernel_rfl
      rw [h] at hc; cases hc; rfl
    subst hc2
    exact pls_tri x)

structure Cpli where
  m : Nat
  f0 : Nat → Nat
  f1 : Nat → Nat
  f2 : Nat → Nat
  f3 : Nat → Nat
  f4 : Nat → Nat
  f5 : Nat → Nat
  f6 : Nat → Nat
  n2 : Nat
  core : Nat
  n : Nat
  l : Int
def Cpli.base (c : Cpli) : Mem := [some (.cols c.m [.fl .f32 c.f0, .fl .f32 c.f1, .fl .f32 c.f2, .fl .f32 c.f3, .fl .f32 c.f4, .fl .f32 c.f5, .fl .f32 c.f6])]
structure Vpli where
  i : Int
  n : Nat
  o0 : Nat → Nat
  o1 : Nat → Nat
  o2 : Nat → Nat
noncomputable abbrev pliRoot : Code := bodyOf Try.f102
def pli_st (c : Cpli) (v : Vpli) : FSt := ⟨[(0, .one (.su 0 7 0 c.n2 false)), (1, .one (.fl .f32 c.core)), (4, .one (.val (.slice none 0 0))), (5, .one (.tt false)), (6, .one (.so 1 3 v.n 2)), (11, .one (.su 0 7 0 c.n false)), (12, .one (.num .i64 c.l)), (13, .one (.num .i64 v.i))], c.base ++ [some (.grow v.n [.fl .f32 v.o0, .fl .f32 v.o1, .fl .f32 v.o2] 2 41), none]⟩
def pli_step (c : Cpli) (v : Vpli) : T (Nx Vpli) :=
  .ite (decide (v.1 < c.12)) (.need (decide (0 ≤ v.1) && decide (v.1 < ↑c.11)) (.need (decide (v.1.toNat + 0 < c.1)) (.need (decide (c.9 ≤ c.1)) (.need (decide (c.9 ≤ 1048576)) (.need (bif !fin3 (puV c.9 c.2 c.3 c.4 c.5 c.6 c.7 c.8 (c.2 (v.1.toNat + 0)) (c.3 (v.1.toNat + 0)) (c.4 (v.1.toNat + 0)) c.10 v.1).1 (puV c.9 c.2 c.3 c.4 c.5 c.6 c.7 c.8 (c.2 (v.1.toNat + 0)) (c.3 (v.1.toNat + 0)) (c.4 (v.1.toNat + 0)) c.10 v.1).2.1 (puV c.9 c.2 c.3 c.4 c.5 c.6 c.7 c.8 (c.2 (v.1.toNat + 0)) (c.3 (v.1.toNat + 0)) (c.4 (v.1.toNat + 0)) c.10 v.1).2.2 then true else decide (v.2 ≤ v.2)) (.need (bif !fin3 (puV c.9 c.2 c.3 c.4 c.5 c.6 c.7 c.8 (c.2 (v.1.toNat + 0)) (c.3 (v.1.toNat + 0)) (c.4 (v.1.toNat + 0)) c.10 v.1).1 (puV c.9 c.2 c.3 c.4 c.5 c.6 c.7 c.8 (c.2 (v.1.toNat + 0)) (c.3 (v.1.toNat + 0)) (c.4 (v.1.toNat + 0)) c.10 v.1).2.1 (puV c.9 c.2 c.3 c.4 c.5 c.6 c.7 c.8 (c.2 (v.1.toNat + 0)) (c.3 (v.1.toNat + 0)) (c.4 (v.1.toNat + 0)) c.10 v.1).2.2 then true else decide (0 < 1)) (.need (bif !fin3 (puV c.9 c.2 c.3 c.4 c.5 c.6 c.7 c.8 (c.2 (v.1.toNat + 0)) (c.3 (v.1.toNat + 0)) (c.4 (v.1.toNat + 0)) c.10 v.1).1 (puV c.9 c.2 c.3 c.4 c.5 c.6 c.7 c.8 (c.2 (v.1.toNat + 0)) (c.3 (v.1.toNat + 0)) (c.4 (v.1.toNat + 0)) c.10 v.1).2.1 (puV c.9 c.2 c.3 c.4 c.5 c.6 c.7 c.8 (c.2 (v.1.toNat + 0)) (c.3 (v.1.toNat + 0)) (c.4 (v.1.toNat + 0)) c.10 v.1).2.2 then true else decide (v.2 + 1 ≤ 1073741824)) (.ite (!fin3 (puV c.9 c.2 c.3 c.4 c.5 c.6 c.7 c.8 (c.2 (v.1.toNat + 0)) (c.3 (v.1.toNat + 0)) (c.4 (v.1.toNat + 0)) c.10 v.1).1 (puV c.9 c.2 c.3 c.4 c.5 c.6 c.7 c.8 (c.2 (v.1.toNat + 0)) (c.3 (v.1.toNat + 0)) (c.4 (v.1.toNat + 0)) c.10 v.1).2.1 (puV c.9 c.2 c.3 c.4 c.5 c.6 c.7 c.8 (c.2 (v.1.toNat + 0)) (c.3 (v.1.toNat + 0)) (c.4 (v.1.toNat + 0)) c.10 v.1).2.2) (.leaf (.out (EX.ret) ⟨[(0, AV.one (SV.su 0 7 0 c.9 false)), (1, AV.one (SV.fl FloatKind.f32 c.10)), (4, AV.one (SV.val (Value.slice none 0 0))), (5, AV.one (SV.tt false)), (6, AV.one (SV.so 1 3 v.n 2)), (11, AV.one (SV.su 0 7 0 c.11 false)), (12, AV.one (SV.num IntKind.i64 c.12)), (13, AV.one (SV.num IntKind.i64 v.1))], c.base ++ [some (.grow v.n [.fl .f32 v.o0, .fl .f32 v.o1, .fl .f32 v.o2] 2 41), none]⟩)) (.leaf (.go { i := IntKind.i64.wrap (v.1 + 1), n := v.n + 1, o0 := fun q => if q = v.n then (puV c.n2 c.f0 c.f1 c.f2 c.f3 c.f4 c.f5 c.f6 (c.f0 (v.i.toNat + 0)) (c.f1 (v.i.toNat + 0)) (c.f2 (v.i.toNat + 0)) c.core v.i).fst else v.o0 q, o1 := fun q => if q = v.n then (puV c.n2 c.f0 c.f1 c.f2 c.f3 c.f4 c.f5 c.f6 (c.f0 (v.i.toNat + 0)) (c.f1 (v.i.toNat + 0)) (c.f2 (v.i.toNat + 0)) c.core v.i).snd.fst else v.o1 q, o2 := fun q => if q = v.n then (puV c.n2 c.f0 c.f1 c.f2 c.f3 c.f4 c.f5 c.f6 (c.f0 (v.i.toNat + 0)) (c.f1 (v.i.toNat + 0)) (c.f2 (v.i.toNat + 0)) c.core v.i).snd.snd else v.o2 q })))))))))) (.leaf (.out (EX.exit 0) ⟨[(0, AV.one (SV.su 0 7 0 c.9 false)), (1, AV.one (SV.fl FloatKind.f32 c.10)), (4, AV.one (SV.val (Value.slice none 0 0))), (5, AV.one (SV.tt false)), (6, AV.one (SV.so 1 3 v.n 2)), (11, AV.one (SV.su 0 7 0 c.11 false)), (12, AV.one (SV.num IntKind.i64 c.12)), (13, AV.one (SV.num IntKind.i64 v.1))], c.base ++ [some (.grow v.n [.fl .f32 v.o0, .fl .f32 v.o1, .fl .f32 v.o2] 2 41), none]⟩))
theorem pli_round (c : Cpli) (v : Vpli) : roundF Try.prog 33 [k_iPu, k_isFiniteVector] pliRoot [] c.base [0, 1, 4, 5, 6, 7, 8, 9, 11, 12, 13, 14, 26, 198] [0, 1, 4, 5, 6, 11, 12, 13] 0 (pli_st c v) = (pli_step c v).map (nxF (pli_st c)) := by kernel_rfl
def pli_g (c : Cpli) (j : Nat) (a : (Nat → Nat) × (Nat → Nat) × (Nat → Nat)) : (Nat → Nat) × (Nat → Nat) × (Nat → Nat) := (fun q => if q = j then (puV c.n2 c.f0 c.f1 c.f2 c.f3 c.f4 c.f5 c.f6 (c.f0 j) (c.f1 j) (c.f2 j) c.core (j : Int)).1 else a.1 q, fun q => if q = j then (puV c.n2 c.f0 c.f1 c.f2 c.f3 c.f4 c.f5 c.f6 (c.f0 j) (c.f1 j) (c.f2 j) c.core (j : Int)).2.1 else a.2.1 q, fun q => if q = j then (puV c.n2 c.f0 c.f1 c.f2 c.f3 c.f4 c.f5 c.f6 (c.f0 j) (c.f1 j) (c.f2 j) c.core (j : Int)).2.2 else a.2.2 q)
def pli_ok (c : Cpli) (v : Vpli) : Bool := decide (c.n ≤ c.m ∧ c.n ≤ 1048576 ∧ c.l = (c.n : Int) ∧ c.n2 = c.n ∧ v.n = v.i.toNat ∧ 0 ≤ v.i ∧ v.i ≤ ((c.n : Nat) : Int))
def pli_fin (c : Cpli) (a : (Nat → Nat) × (Nat → Nat) × (Nat → Nat)) : FSt := pli_st c ({ i := (c.n : Int), n := c.n, o0 := a.1, o1 := a.2.1, o2 := a.2.2 })
def pli_osv (c : Cpli) (v : Vpli) : FSt := ⟨[(0, AV.one (SV.su 0 7 0 c.9 false)), (1, AV.one (SV.fl FloatKind.f32 c.10)), (4, AV.one (SV.val (Value.slice none 0 0))), (5, AV.one (SV.tt false)), (6, AV.one (SV.so 1 3 v.n 2)), (11, AV.one (SV.su 0 7 0 c.11 false)), (12, AV.one (SV.num IntKind.i64 c.12)), (13, AV.one (SV.num IntKind.i64 v.1))], c.base ++ [some (.grow v.n [.fl .f32 v.o0, .fl .f32 v.o1, .fl .f32 v.o2] 2 41), none]⟩
def pli_ost (c : Cpli) (o : (Nat × ((Nat → Nat) × (Nat → Nat) × (Nat → Nat)))) : FSt := pli_osv c ((fun (j : Nat) (a : (Nat → Nat) × (Nat → Nat) × (Nat → Nat)) => ({ i := (j : Int), n := j, o0 := a.1, o1 := a.2.1, o2 := a.2.2 } : Vpli)) o.1 o.2)
def pli_it (c : Cpli) (k s : Nat) (a : (Nat → Nat) × (Nat → Nat) × (Nat → Nat)) : ((Nat → Nat) × (Nat → Nat) × (Nat → Nat)) ⊕ (Nat × ((Nat → Nat) × (Nat → Nat) × (Nat → Nat))) := iterX (exitAt (fun j => !fin3 (puV c.n2 c.f0 c.f1 c.f2 c.f3 c.f4 c.f5 c.f6 (c.f0 j) (c.f1 j) (c.f2 j) c.core (j : Int)).1 (puV c.n2 c.f0 c.f1 c.f2 c.f3 c.f4 c.f5 c.f6 (c.f0 j) (c.f1 j) (c.f2 j) c.core (j : Int)).2.1 (puV c.n2 c.f0 c.f1 c.f2 c.f3 c.f4 c.f5 c.f6 (c.f0 j) (c.f1 j) (c.f2 j) c.core (j : Int)).2.2) (pli_g c)) k s a
noncomputable def pli_R (x : Cpli × Vpli) : T (EX × FSt) := .need (pli_ok x.1 x.2) (.ite (isL (pli_it x.1 (x.1.n - x.2.i.toNat) x.2.i.toNat (x.2.o0, x.2.o1, x.2.o2))) (.leaf (.normal, pli_fin x.1 (valL (fun _ => canon .f32 0, fun _ => canon .f32 0, fun _ => canon .f32 0) (pli_it x.1 (x.1.n - x.2.i.toNat) x.2.i.toNat (x.2.o0, x.2.o1, x.2.o2))))) (.leaf (.ret, pli_ost x.1 (valR (0, (fun _ => canon .f32 0, fun _ => canon .f32 0, fun _ => canon .f32 0)) (pli_it x.1 (x.1.n - x.2.i.toNat) x.2.i.toNat (x.2.o0, x.2.o1, x.2.o2))))))
theorem pli_tri (x : Cpli × Vpli) : TriR Try.prog 33 x.1.base (.block 0 (.loop (bodyB pliRoot 0))) (pli_st x.1 x.2) (pli_R x) := by
  obtain ⟨c, v⟩ := x
  refine triR_of mix (root := pliRoot) (by kernel_rfl) (by kernel_rfl) [0, 1, 4, 5, 6, 7, 8, 9, 11, 12, 13, 14, 26, 198] [0, 1, 4, 5, 6, 11, 12, 13] (pli_st c) (pli_step c) (pli_round c) v _ ((c.n - v.i.toNat) + 1) (fun Φ h => ?_)
  have h0 := h.1
  have h3 : (isL (pli_it c (c.n - v.i.toNat) v.i.toNat (v.o0, v.o1, v.o2)) = true → Φ (.normal, pli_fin c (valL (fun _ => canon .f32 0, fun _ => canon .f32 0, fun _ => canon .f32 0) (pli_it c (c.n - v.i.toNat) v.i.toNat (v.o0, v.o1, v.o2))))) ∧ (isL (pli_it c (c.n - v.i.toNat) v.i.toNat (v.o0, v.o1, v.o2)) = false → Φ (.ret, pli_ost c (valR (0, (fun _ => canon .f32 0, fun _ => canon .f32 0, fun _ => canon .f32 0)) (pli_it c (c.n - v.i.toNat) v.i.toNat (v.o0, v.o1, v.o2))))) := h.2
  simp only [pli_ok, decide_eq_true_eq] at h0
  obtain ⟨hk0, hk1, hk2, hk3, hk4, hi0, hin⟩ := h0
  have hv : v = (fun (j : Nat) (a : (Nat → Nat) × (Nat → Nat) × (Nat → Nat)) => ({ i := (j : Int), n := j, o0 := a.1, o1 := a.2.1, o2 := a.2.2 } : Vpli)) v.i.toNat (v.o0, v.o1, v.o2) := by
    obtain ⟨i, n, o0, o1, o2⟩ := v
    have hi0 : 0 ≤ i := hi0
    have hk9 : n = i.toNat := hk4
    subst hk9
    simp only [Int.toNat_of_nonneg hi0]
  have key := T_iterX (pli_step c) (fun (j : Nat) (a : (Nat → Nat) × (Nat → Nat) × (Nat → Nat)) => ({ i := (j : Int), n := j, o0 := a.1, o1 := a.2.1, o2 := a.2.2 } : Vpli)) c.n (exitAt (fun j => !fin3 (puV c.n2 c.f0 c.f1 c.f2 c.f3 c.f4 c.f5 c.f6 (c.f0 j) (c.f1 j) (c.f2 j) c.core (j : Int)).1 (puV c.n2 c.f0 c.f1 c.f2 c.f3 c.f4 c.f5 c.f6 (c.f0 j) (c.f1 j) (c.f2 j) c.core (j : Int)).2.1 (puV c.n2 c.f0 c.f1 c.f2 c.f3 c.f4 c.f5 c.f6 (c.f0 j) (c.f1 j) (c.f2 j) c.core (j : Int)).2.2) (pli_g c)) (fun a => (.exit 0, pli_fin c a)) (fun o => (.ret, pli_ost c o)) (fun j a hj Ψ h1 h2 => ?_) (fun a Ψ hΨ => ?_) (fun a => by simp) (fun o => by simp) (c.n - v.i.toNat) v.i.toNat (v.o0, v.o1, v.o2) (by omega) (fun r => Φ (blkEx 0 r.1, r.2)) (fun b hb => ?_) (fun o ho => ?_)
  · exact (congrArg (fun z => (loopTree (pli_step c) (c.n - v.i.toNat + 1) z).holds fun r => Φ (blkEx 0 r.1, r.2)) hv).mpr key
  · unfold pli_step
    refine (T.h_ite (fun _ => ?_) (fun hc => absurd hc (by simp <;> omega)))
    refine (T.h_need (by simp <;> omega) (T.h_need (by simp <;> omega) (T.h_need (by simp <;> omega) (T.h_need (by simp <;> omega) (T.h_need (needT fun c0 => (by simp <;> omega)) (T.h_need (needT fun c0 => (by simp <;> omega)) (T.h_need (needT fun c0 => (by simp <;> omega)) (T.h_ite (fun hc => (T.h_leaf (h2 (j, a) (by unfold exitAt; rw [show (fun j => !fin3 (puV c.n2 c.f0 c.f1 c.f2 c.f3 c.f4 c.f5 c.f6 (c.f0 j) (c.f1 j) (c.f2 j) c.core (j : Int)).1 (puV c.n2 c.f0 c.f1 c.f2 c.f3 c.f4 c.f5 c.f6 (c.f0 j) (c.f1 j) (c.f2 j) c.core (j : Int)).2.1 (puV c.n2 c.f0 c.f1 c.f2 c.f3 c.f4 c.f5 c.f6 (c.f0 j) (c.f1 j) (c.f2 j) c.core (j : Int)).2.2) j = true from hc])))) (fun hc => ?_)))))))))
    refine T.h_leaf ?_
    rw [wrap_next (by omega)]
    exact h1 (pli_g c j a) (by unfold exitAt; rw [show (fun j => !fin3 (puV c.n2 c.f0 c.f1 c.f2 c.f3 c.f4 c.f5 c.f6 (c.f0 j) (c.f1 j) (c.f2 j) c.core (j : Int)).1 (puV c.n2 c.f0 c.f1 c.f2 c.f3 c.f4 c.f5 c.f6 (c.f0 j) (c.f1 j) (c.f2 j) c.core (j : Int)).2.1 (puV c.n2 c.f0 c.f1 c.f2 c.f3 c.f4 c.f5 c.f6 (c.f0 j) (c.f1 j) (c.f2 j) c.core (j : Int)).2.2) j = false from hc])
  · unfold pli_step
    refine (T.h_ite (fun hc => absurd hc (by simp <;> omega)) (fun _ => T.h_leaf hΨ))
  · have hb : pli_it c (c.n - v.i.toNat) v.i.toNat (v.o0, v.o1, v.o2) = .inl b := hb
    have h4 := h3.1 (by rw [hb]; rfl)
    rw [hb] at h4
    simpa [blkEx, valL] using h4
  · have ho : pli_it c (c.n - v.i.toNat) v.i.toNat (v.o0, v.o1, v.o2) = .inr o := ho
    have h4 := h3.2 (by rw [ho]; rfl)
    rw [ho] at h4
    simpa [blkEx, valR] using h4

def pli_dec (b : Mem) (f : FSt) : Option (Cpli × Vpli) :=
  match getSu 0 7 (findF 0 f.sl), getF .f32 (findF 1 f.sl), getNil (findF 4 f.sl), getFf (findF 5 f.sl), getSu 0 7 (findF 11 f.sl), getI (findF 12 f.sl), getI (findF 13 f.sl), getSo 1 3 2 (findF 6 f.sl), id b, f.mem with
  | some (0, n2_), some core_, some (), some (), some (0, n_), some l_, some q_i, some q_n, [some (.cols m_ [.fl .f32 f0_, .fl .f32 f1_, .fl .f32 f2_, .fl .f32 f3_, .fl .f32 f4_, .fl .f32 f5_, .fl .f32 f6_])], [_, some (.grow r_n [.fl .f32 q_o0, .fl .f32 q_o1, .fl .f32 q_o2] 2 41), none] => if q_n = r_n then some ({ m := m_, f0 := f0_, f1 := f1_, f2 := f2_, f3 := f3_, f4 := f4_, f5 := f5_, f6 := f6_, n2 := n2_, core := core_, n := n_, l := l_ }, { i := q_i, n := q_n, o0 := q_o0, o1 := q_o1, o2 := q_o2 }) else none
  | _, _, _, _, _, _, _, _, _, _ => none
theorem pli_dec_ok (b : Mem) (f : FSt) (x : Cpli × Vpli) (h : pli_dec b f = some x) : b = x.1.base ∧ FLe b f (pli_st x.1 x.2) := by
  unfold pli_dec at h
  split at h
  · rename_i e0 e1 e2 e3 e4 e5 e6 e7 hb hm
    obtain ⟨hbo, h9⟩ := ite_some h
    clear h
    subst hbo
    have h := h9
    cases h
    have hb : b = _ := hb
    subst hb
    refine ⟨rfl, fle_of (fun p hp => ?_) (by rw [hm]; exact memLe_refl _)⟩
    simp only [List.mem_cons, List.not_mem_nil, or_false] at hp
    rcases hp with rfl | rfl | rfl | rfl | rfl | rfl | rfl | rfl
    · exact getSu_rel e0
    · exact getF_rel e1
    · exact getNil_rel e2
    · exact getFf_rel e3
    · exact getSo_rel e7
    · exact getSu_rel e4
    · exact getI_rel e5
    · exact getI_rel e6
  · cases h
noncomputable def pli_sum : SumF Try.prog 33 pliRoot :=
  sumL (pathB pliRoot 0) pli_dec (fun x => x.1.base) (fun x => pli_st x.1 x.2) pli_R pli_dec_ok (by
    intro code hc x
    have hc2 : code = .block 0 (.loop (bodyB pliRoot 0)) := by
      have h : subR pliRoot (pathB pliRoot 0) = some (.block 0 (.loop (bodyB pliRoot 0))) := by kernel_rfl
      rw [h] at hc; cases hc; rfl
    subst hc2
    exact pli_tri x)

noncomputable def k_sPs0 : Ctr Try.prog := (mkF0 Try.prog mix [k_sPu, k_l01VFinite] 101 Try.f101 (bodyOf Try.f101) Try.func101 (by kernel_rfl) (by kernel_rfl) [0, 1, 4, 5, 6, 7, 8, 13, 27, 198] 33 (by kernel_rfl) (by kernel_rfl) [pls_sum]).mg
noncomputable def k_iPs0 : Ctr Try.prog := (mkF0 Try.prog mix [k_iPu, k_isFiniteVector] 102 Try.f102 (bodyOf Try.f102) Try.func102 (by kernel_rfl) (by kernel_rfl) [0, 1, 4, 5, 6, 7, 8, 9, 11, 12, 13, 14, 26, 198] 33 (by kernel_rfl) (by kernel_rfl) [pli_sum]).mg
def psB (n : Nat) (f0 f1 f2 f3 f4 f5 f6 : Nat → Nat) (core : Nat) (j : Nat) : Bool := !fin3 (puV n f0 f1 f2 f3 f4 f5 f6 (f0 j) (f1 j) (f2 j) core (j : Int)).1 (puV n f0 f1 f2 f3 f4 f5 f6 (f0 j) (f1 j) (f2 j) core (j : Int)).2.1 (puV n f0 f1 f2 f3 f4 f5 f6 (f0 j) (f1 j) (f2 j) core (j : Int)).2.2
def psAll (n : Nat) (f0 f1 f2 f3 f4 f5 f6 : Nat → Nat) (core : Nat) : Bool := noneIn (psB n f0 f1 f2 f3 f4 f5 f6 core) n 0
def run_ps : List AV → Mem → T Res
  | [.one (.su 0 7 0 n false), .one (.fl .f32 core)], [some (.cols m [.fl .f32 f0, .fl .f32 f1, .fl .f32 f2, .fl .f32 f3, .fl .f32 f4, .fl .f32 f5, .fl .f32 f6])] => .need (decide (n ≤ m)) (.need (decide (n ≤ 1048576)) (.ite (psAll n f0 f1 f2 f3 f4 f5 f6 core) (.leaf (.tup [.one (.su 1 3 0 n false), .one (.tt true)], [some (.cols n [.fl .f32 fun q => (puV n f0 f1 f2 f3 f4 f5 f6 (f0 q) (f1 q) (f2 q) core (q : Int)).1, .fl .f32 fun q => (puV n f0 f1 f2 f3 f4 f5 f6 (f0 q) (f1 q) (f2 q) core (q : Int)).2.1, .fl .f32 fun q => (puV n f0 f1 f2 f3 f4 f5 f6 (f0 q) (f1 q) (f2 q) core (q : Int)).2.2]), none])) (.leaf (.tup [.one (.val (.slice none 0 0)), .one (.tt false)], []))))
  | _, _ => .fail
def plsEnd (n m : Nat) (f0 f1 f2 f3 f4 f5 f6 : Nat → Nat) (core : Nat) : (Nat → Nat) × (Nat → Nat) × (Nat → Nat) := valL (fun _ => canon .f32 0, fun _ => canon .f32 0, fun _ => canon .f32 0) (pls_it { n := n, m := m, f0 := f0, f1 := f1, f2 := f2, f3 := f3, f4 := f4, f5 := f5, f6 := f6, core := core } n 0 (fun _ => canon .f32 0, fun _ => canon .f32 0, fun _ => canon .f32 0))
def plsAll (n m : Nat) (f0 f1 f2 f3 f4 f5 f6 : Nat → Nat) (core : Nat) : Bool := isL (pls_it { n := n, m := m, f0 := f0, f1 := f1, f2 := f2, f3 := f3, f4 := f4, f5 := f5, f6 := f6, core := core } n 0 (fun _ => canon .f32 0, fun _ => canon .f32 0, fun _ => canon .f32 0))
theorem plsAll_eq (n m : Nat) (f0 f1 f2 f3 f4 f5 f6 : Nat → Nat) (core : Nat) : plsAll n m f0 f1 f2 f3 f4 f5 f6 core = psAll n f0 f1 f2 f3 f4 f5 f6 core := (exitAt_iter _ (pls_g { n := n, m := m, f0 := f0, f1 := f1, f2 := f2, f3 := f3, f4 := f4, f5 := f5, f6 := f6, core := core }) (fun _ => canon .f32 0, fun _ => canon .f32 0, fun _ => canon .f32 0) n 0 (fun _ => canon .f32 0, fun _ => canon .f32 0, fun _ => canon .f32 0)).1
theorem plsEnd_at (n m : Nat) (f0 f1 f2 f3 f4 f5 f6 : Nat → Nat) (core : Nat) (h : psAll n f0 f1 f2 f3 f4 f5 f6 core = true) (i : Nat) (hi : i < n) : (plsEnd n m f0 f1 f2 f3 f4 f5 f6 core).1 i = (puV n f0 f1 f2 f3 f4 f5 f6 (f0 i) (f1 i) (f2 i) core (i : Int)).1 ∧ (plsEnd n m f0 f1 f2 f3 f4 f5 f6 core).2.1 i = (puV n f0 f1 f2 f3 f4 f5 f6 (f0 i) (f1 i) (f2 i) core (i : Int)).2.1 ∧ (plsEnd n m f0 f1 f2 f3 f4 f5 f6 core).2.2 i = (puV n f0 f1 f2 f3 f4 f5 f6 (f0 i) (f1 i) (f2 i) core (i : Int)).2.2 := by
  have e : plsEnd n m f0 f1 f2 f3 f4 f5 f6 core = iter (pls_g { n := n, m := m, f0 := f0, f1 := f1, f2 := f2, f3 := f3, f4 := f4, f5 := f5, f6 := f6, core := core }) n 0 (fun _ => canon .f32 0, fun _ => canon .f32 0, fun _ => canon .f32 0) := (exitAt_iter _ (pls_g { n := n, m := m, f0 := f0, f1 := f1, f2 := f2, f3 := f3, f4 := f4, f5 := f5, f6 := f6, core := core }) (fun _ => canon .f32 0, fun _ => canon .f32 0, fun _ => canon .f32 0) n 0 (fun _ => canon .f32 0, fun _ => canon .f32 0, fun _ => canon .f32 0)).2 h
  rw [e]
  exact ⟨fill_at (pls_g { n := n, m := m, f0 := f0, f1 := f1, f2 := f2, f3 := f3, f4 := f4, f5 := f5, f6 := f6, core := core }) (fun a => a.1) (fun q => (puV n f0 f1 f2 f3 f4 f5 f6 (f0 q) (f1 q) (f2 q) core (q : Int)).1) (fun j a q h => if_neg h) (fun j a => if_pos rfl) n 0 _ i (Nat.zero_le i) (by omega),
   fill_at (pls_g { n := n, m := m, f0 := f0, f1 := f1, f2 := f2, f3 := f3, f4 := f4, f5 := f5, f6 := f6, core := core }) (fun a => a.2.1) (fun q => (puV n f0 f1 f2 f3 f4 f5 f6 (f0 q) (f1 q) (f2 q) core (q : Int)).2.1) (fun j a q h => if_neg h) (fun j a => if_pos rfl) n 0 _ i (Nat.zero_le i) (by omega),
   fill_at (pls_g { n := n, m := m, f0 := f0, f1 := f1, f2 := f2, f3 := f3, f4 := f4, f5 := f5, f6 := f6, core := core }) (fun a => a.2.2) (fun q => (puV n f0 f1 f2 f3 f4 f5 f6 (f0 q) (f1 q) (f2 q) core (q : Int)).2.2) (fun j a q h => if_neg h) (fun j a => if_pos rfl) n 0 _ i (Nat.zero_le i) (by omega)⟩
theorem sPs0_ev (n m : Nat) (f0 f1 f2 f3 f4 f5 f6 : Nat → Nat) (core : Nat) : k_sPs0.run [.one (.su 0 7 0 n false), .one (.fl .f32 core)] [some (.cols m [.fl .f32 f0, .fl .f32 f1, .fl .f32 f2, .fl .f32 f3, .fl .f32 f4, .fl .f32 f5, .fl .f32 f6])] =
    .need (pls_ok { n := n, m := m, f0 := f0, f1 := f1, f2 := f2, f3 := f3, f4 := f4, f5 := f5, f6 := f6, core := core } { i := 0, n := 0, o0 := fun _ => canon .f32 0, o1 := fun _ => canon .f32 0, o2 := fun _ => canon .f32 0 }) (.ite (plsAll n m f0 f1 f2 f3 f4 f5 f6 core) (.leaf (.tup [.one (.so 1 3 n 2), .one (.tt true)], [some (.grow n [.fl .f32 (plsEnd n m f0 f1 f2 f3 f4 f5 f6 core).1, .fl .f32 (plsEnd n m f0 f1 f2 f3 f4 f5 f6 core).2.1, .fl .f32 (plsEnd n m f0 f1 f2 f3 f4 f5 f6 core).2.2] 2 41), none])) (.leaf (.tup [.one (.val (.slice none 0 0)), .one (.tt false)], []))) := by kernel_rfl
noncomputable def k_sPs : Ctr Try.prog := (k_sPs0.to run_ps (by
  intro args mem _
  unfold run_ps
  split
  · rename_i n core m f0 f1 f2 f3 f4 f5 f6 _
    rw [sPs0_ev, plsAll_eq]
    constructor
    intro Φ hΦ h
    have hm := of_decide_eq_true h.1
    have hn := of_decide_eq_true h.2.1
    refine T.h_need (decide_eq_true ⟨hm, by show n ≤ 1048576; omega, rfl, Int.le_refl 0, Int.natCast_nonneg n⟩) (T.h_ite (fun hA => T.h_leaf (hΦ _ (.tup [.one (.su 1 3 0 n false), .one (.tt true)], [some (.cols n [.fl .f32 fun q => (puV n f0 f1 f2 f3 f4 f5 f6 (f0 q) (f1 q) (f2 q) core (q : Int)).1, .fl .f32 fun q => (puV n f0 f1 f2 f3 f4 f5 f6 (f0 q) (f1 q) (f2 q) core (q : Int)).2.1, .fl .f32 fun q => (puV n f0 f1 f2 f3 f4 f5 f6 (f0 q) (f1 q) (f2 q) core (q : Int)).2.2]), none]) ⟨⟨BlLe.grow_cols (fun i hi => ?_) rfl, trivial⟩, ?_⟩ (h.2.2.1 hA))) (fun hA => T.h_leaf (h.2.2.2 hA)))
    · obtain ⟨h0, h1, h2⟩ := plsEnd_at n m f0 f1 f2 f3 f4 f5 f6 core hA i hi
      simp only [colsAt, Col.at, h0, h1, h2]
    · intro ρ v hv
      obtain ⟨vs, hvs, hl⟩ := hv
      refine ⟨vs, hvs, ?_⟩
      match vs.toList, hl with
      | [a, b], hl => exact ⟨AvLe.grown ρ a hl.1, hl.2.1, trivial⟩
  · exact Weak.fail _)).su.own
def pliEnd (n m : Nat) (f0 f1 f2 f3 f4 f5 f6 : Nat → Nat) (core : Nat) : (Nat → Nat) × (Nat → Nat) × (Nat → Nat) := valL (fun _ => canon .f32 0, fun _ => canon .f32 0, fun _ => canon .f32 0) (pli_it { m := m, f0 := f0, f1 := f1, f2 := f2, f3 := f3, f4 := f4, f5 := f5, f6 := f6, n2 := n, core := core, n := n, l := (n : Int) } n 0 (fun _ => canon .f32 0, fun _ => canon .f32 0, fun _ => canon .f32 0))
def pliAll (n m : Nat) (f0 f1 f2 f3 f4 f5 f6 : Nat → Nat) (core : Nat) : Bool := isL (pli_it { m := m, f0 := f0, f1 := f1, f2 := f2, f3 := f3, f4 := f4, f5 := f5, f6 := f6, n2 := n, core := core, n := n, l := (n : Int) } n 0 (fun _ => canon .f32 0, fun _ => canon .f32 0, fun _ => canon .f32 0))
theorem pliAll_eq (n m : Nat) (f0 f1 f2 f3 f4 f5 f6 : Nat → Nat) (core : Nat) : pliAll n m f0 f1 f2 f3 f4 f5 f6 core = psAll n f0 f1 f2 f3 f4 f5 f6 core := (exitAt_iter _ (pli_g { m := m, f0 := f0, f1 := f1, f2 := f2, f3 := f3, f4 := f4, f5 := f5, f6 := f6, n2 := n, core := core, n := n, l := (n : Int) }) (fun _ => canon .f32 0, fun _ => canon .f32 0, fun _ => canon .f32 0) n 0 (fun _ => canon .f32 0, fun _ => canon .f32 0, fun _ => canon .f32 0)).1
theorem pliEnd_at (n m : Nat) (f0 f1 f2 f3 f4 f5 f6 : Nat → Nat) (core : Nat) (h : psAll n f0 f1 f2 f3 f4 f5 f6 core = true) (i : Nat) (hi : i < n) : (pliEnd n m f0 f1 f2 f3 f4 f5 f6 core).1 i = (puV n f0 f1 f2 f3 f4 f5 f6 (f0 i) (f1 i) (f2 i) core (i : Int)).1 ∧ (pliEnd n m f0 f1 f2 f3 f4 f5 f6 core).2.1 i = (puV n f0 f1 f2 f3 f4 f5 f6 (f0 i) (f1 i) (f2 i) core (i : Int)).2.1 ∧ (pliEnd n m f0 f1 f2 f3 f4 f5 f6 core).2.2 i = (puV n f0 f1 f2 f3 f4 f5 f6 (f0 i) (f1 i) (f2 i) core (i : Int)).2.2 := by
  have e : pliEnd n m f0 f1 f2 f3 f4 f5 f6 core = iter (pli_g { m := m, f0 := f0, f1 := f1, f2 := f2, f3 := f3, f4 := f4, f5 := f5, f6 := f6, n2 := n, core := core, n := n, l := (n : Int) }) n 0 (fun _ => canon .f32 0, fun _ => canon .f32 0, fun _ => canon .f32 0) := (exitAt_iter _ (pli_g { m := m, f0 := f0, f1 := f1, f2 := f2, f3 := f3, f4 := f4, f5 := f5, f6 := f6, n2 := n, core := core, n := n, l := (n : Int) }) (fun _ => canon .f32 0, fun _ => canon .f32 0, fun _ => canon .f32 0) n 0 (fun _ => canon .f32 0, fun _ => canon .f32 0, fun _ => canon .f32 0)).2 h
  rw [e]
  exact ⟨fill_at (pli_g { m := m, f0 := f0, f1 := f1, f2 := f2, f3 := f3, f4 := f4, f5 := f5, f6 := f6, n2 := n, core := core, n := n, l := (n : Int) }) (fun a => a.1) (fun q => (puV n f0 f1 f2 f3 f4 f5 f6 (f0 q) (f1 q) (f2 q) core (q : Int)).1) (fun j a q h => if_neg h) (fun j a => if_pos rfl) n 0 _ i (Nat.zero_le i) (by omega),
   fill_at (pli_g { m := m, f0 := f0, f1 := f1, f2 := f2, f3 := f3, f4 := f4, f5 := f5, f6 := f6, n2 := n, core := core, n := n, l := (n : Int) }) (fun a => a.2.1) (fun q => (puV n f0 f1 f2 f3 f4 f5 f6 (f0 q) (f1 q) (f2 q) core (q : Int)).2.1) (fun j a q h => if_neg h) (fun j a => if_pos rfl) n 0 _ i (Nat.zero_le i) (by omega),
   fill_at (pli_g { m := m, f0 := f0, f1 := f1, f2 := f2, f3 := f3, f4 := f4, f5 := f5, f6 := f6, n2 := n, core := core, n := n, l := (n : Int) }) (fun a => a.2.2) (fun q => (puV n f0 f1 f2 f3 f4 f5 f6 (f0 q) (f1 q) (f2 q) core (q : Int)).2.2) (fun j a q h => if_neg h) (fun j a => if_pos rfl) n 0 _ i (Nat.zero_le i) (by omega)⟩
theorem iPs0_ev (n m : Nat) (f0 f1 f2 f3 f4 f5 f6 : Nat → Nat) (core : Nat) : k_iPs0.run [.one (.su 0 7 0 n false), .one (.fl .f32 core)] [some (.cols m [.fl .f32 f0, .fl .f32 f1, .fl .f32 f2, .fl .f32 f3, .fl .f32 f4, .fl .f32 f5, .fl .f32 f6])] =
    .need (pli_ok { m := m, f0 := f0, f1 := f1, f2 := f2, f3 := f3, f4 := f4, f5 := f5, f6 := f6, n2 := n, core := core, n := n, l := (n : Int) } { i := 0, n := 0, o0 := fun _ => canon .f32 0, o1 := fun _ => canon .f32 0, o2 := fun _ => canon .f32 0 }) (.ite (pliAll n m f0 f1 f2 f3 f4 f5 f6 core) (.leaf (.tup [.one (.so 1 3 n 2), .one (.tt true)], [some (.grow n [.fl .f32 (pliEnd n m f0 f1 f2 f3 f4 f5 f6 core).1, .fl .f32 (pliEnd n m f0 f1 f2 f3 f4 f5 f6 core).2.1, .fl .f32 (pliEnd n m f0 f1 f2 f3 f4 f5 f6 core).2.2] 2 41), none])) (.leaf (.tup [.one (.val (.slice none 0 0)), .one (.tt false)], []))) := by kernel_rfl
noncomputable def k_iPs : Ctr Try.prog := (k_iPs0.to run_ps (by
  intro args mem _
  unfold run_ps
  split
  · rename_i n core m f0 f1 f2 f3 f4 f5 f6 _
    rw [iPs0_ev, pliAll_eq]
    constructor
    intro Φ hΦ h
    have hm := of_decide_eq_true h.1
    have hn := of_decide_eq_true h.2.1
    refine T.h_need (decide_eq_true ⟨hm, by show n ≤ 1048576; omega, rfl, rfl, rfl, Int.le_refl 0, Int.natCast_nonneg n⟩) (T.h_ite (fun hA => T.h_leaf (hΦ _ (.tup [.one (.su 1 3 0 n false), .one (.tt true)], [some (.cols n [.fl .f32 fun q => (puV n f0 f1 f2 f3 f4 f5 f6 (f0 q) (f1 q) (f2 q) core (q : Int)).1, .fl .f32 fun q => (puV n f0 f1 f2 f3 f4 f5 f6 (f0 q) (f1 q) (f2 q) core (q : Int)).2.1, .fl .f32 fun q => (puV n f0 f1 f2 f3 f4 f5 f6 (f0 q) (f1 q) (f2 q) core (q : Int)).2.2]), none]) ⟨⟨BlLe.grow_cols (fun i hi => ?_) rfl, trivial⟩, ?_⟩ (h.2.2.1 hA))) (fun hA => T.h_leaf (h.2.2.2 hA)))
    · obtain ⟨h0, h1, h2⟩ := pliEnd_at n m f0 f1 f2 f3 f4 f5 f6 core hA i hi
      simp only [colsAt, Col.at, h0, h1, h2]
    · intro ρ v hv
      obtain ⟨vs, hvs, hl⟩ := hv
      refine ⟨vs, hvs, ?_⟩
      match vs.toList, hl with
      | [a, b], hl => exact ⟨AvLe.grown ρ a hl.1, hl.2.1, trivial⟩
  · exact Weak.fail _)).su.own
noncomputable def k_sPo0 : Ctr Try.prog := (mkF0 Try.prog mix [k_l02Are, k_l02Least, k_sPs] 43 Try.f43 (bodyOf Try.f43) Try.func43 (by kernel_rfl) (by kernel_rfl) [0, 1, 4, 5, 13, 198] 19 (by kernel_rfl) (by kernel_rfl) []).mg
noncomputable def k_iPo0 : Ctr Try.prog := (mkF0 Try.prog mix [k_AreBodies, k_pu_i_isCore, k_iPs] 44 Try.f44 (bodyOf Try.f44) Try.func44 (by kernel_rfl) (by kernel_rfl) [0, 1, 4, 5, 13, 198] 19 (by kernel_rfl) (by kernel_rfl) []).mg
def po_ok (n : Nat) (f0 f1 f2 f3 f4 f5 f6 : Nat → Nat) (core : Nat) : Bool := areB n f0 f1 f2 f3 f4 f5 f6 && (coreB core && psAll n f0 f1 f2 f3 f4 f5 f6 core)
def run_po : List AV → Mem → T Res
  | [.one (.su 0 7 0 n false), .one (.fl .f32 core)], [some (.cols m [.fl .f32 f0, .fl .f32 f1, .fl .f32 f2, .fl .f32 f3, .fl .f32 f4, .fl .f32 f5, .fl .f32 f6])] => .need (decide (n ≤ m)) (.ite (po_ok n f0 f1 f2 f3 f4 f5 f6 core) (.leaf (.tup [.one (.su 1 3 0 n false), .one (.tt true)], [some (.cols n [.fl .f32 fun q => (puV n f0 f1 f2 f3 f4 f5 f6 (f0 q) (f1 q) (f2 q) core (q : Int)).1, .fl .f32 fun q => (puV n f0 f1 f2 f3 f4 f5 f6 (f0 q) (f1 q) (f2 q) core (q : Int)).2.1, .fl .f32 fun q => (puV n f0 f1 f2 f3 f4 f5 f6 (f0 q) (f1 q) (f2 q) core (q : Int)).2.2]), none])) (.leaf (.tup [.one (.val (.slice none 0 0)), .one (.tt false)], [])))
  | _, _ => .fail
theorem po_sh {Φ : Res → Prop} {nil row : Res} {m1 m2 m3 : Bool} : ∀ (A B E : Bool), m1 = true → (A = true → m2 = true) → (A = true → m3 = true) → ((A && (B && E)) = true → Φ row) ∧ ((A && (B && E)) = false → Φ nil) →
    (T.need m1 (T.need (bif (bif !A then true else !B) then true else m2) (T.need (bif (bif !A then true else !B) then true else m3) (T.ite (bif !A then true else !B) (.leaf nil) (.ite E (.leaf row) (.leaf nil)))))).holds Φ := by
  intro A B E h1 h2 h3 h
  cases A <;> cases B <;> cases E <;> simp_all [T.holds]
theorem sPo0_ev (n m : Nat) (f0 f1 f2 f3 f4 f5 f6 : Nat → Nat) (core : Nat) : k_sPo0.run [.one (.su 0 7 0 n false), .one (.fl .f32 core)] [some (.cols m [.fl .f32 f0, .fl .f32 f1, .fl .f32 f2, .fl .f32 f3, .fl .f32 f4, .fl .f32 f5, .fl .f32 f6])] =
    .need (decide (n ≤ m)) (.need (bif (bif !areB n f0 f1 f2 f3 f4 f5 f6 then true else !coreB core) then true else decide (n ≤ m)) (.need (bif (bif !areB n f0 f1 f2 f3 f4 f5 f6 then true else !coreB core) then true else decide (n ≤ 1048576)) (.ite (bif !areB n f0 f1 f2 f3 f4 f5 f6 then true else !coreB core) (.leaf (.tup [.one (.val (.slice none 0 0)), .one (.tt false)], [])) (.ite (psAll n f0 f1 f2 f3 f4 f5 f6 core) (.leaf (.tup [.one (.su 1 3 0 n false), .one (.tt true)], [some (.cols n [.fl .f32 fun q => (puV n f0 f1 f2 f3 f4 f5 f6 (f0 q) (f1 q) (f2 q) core (q : Int)).1, .fl .f32 fun q => (puV n f0 f1 f2 f3 f4 f5 f6 (f0 q) (f1 q) (f2 q) core (q : Int)).2.1, .fl .f32 fun q => (puV n f0 f1 f2 f3 f4 f5 f6 (f0 q) (f1 q) (f2 q) core (q : Int)).2.2]), none])) (.leaf (.tup [.one (.val (.slice none 0 0)), .one (.tt false)], [])))))) := by kernel_rfl
noncomputable def k_sPo : Ctr Try.prog := (k_sPo0.to run_po (by
  intro args mem _
  unfold run_po
  split
  · rename_i n core m f0 f1 f2 f3 f4 f5 f6 _
    rw [sPo0_ev]
    constructor
    intro Φ hΦ h
    exact po_sh _ _ _ h.1 (fun _ => h.1) (fun hA => decide_eq_true (by have : n ≤ 16 := areB_le hA; omega)) ⟨fun hk => h.2.1 hk, fun hk => h.2.2 hk⟩
  · exact Weak.fail _)).su.own
theorem iPo0_ev (n m : Nat) (f0 f1 f2 f3 f4 f5 f6 : Nat → Nat) (core : Nat) : k_iPo0.run [.one (.su 0 7 0 n false), .one (.fl .f32 core)] [some (.cols m [.fl .f32 f0, .fl .f32 f1, .fl .f32 f2, .fl .f32 f3, .fl .f32 f4, .fl .f32 f5, .fl .f32 f6])] =
    .need (decide (n ≤ m)) (.need (bif (bif !areB n f0 f1 f2 f3 f4 f5 f6 then true else !coreB core) then true else decide (n ≤ m)) (.need (bif (bif !areB n f0 f1 f2 f3 f4 f5 f6 then true else !coreB core) then true else decide (n ≤ 1048576)) (.ite (bif !areB n f0 f1 f2 f3 f4 f5 f6 then true else !coreB core) (.leaf (.tup [.one (.val (.slice none 0 0)), .one (.tt false)], [])) (.ite (psAll n f0 f1 f2 f3 f4 f5 f6 core) (.leaf (.tup [.one (.su 1 3 0 n false), .one (.tt true)], [some (.cols n [.fl .f32 fun q => (puV n f0 f1 f2 f3 f4 f5 f6 (f0 q) (f1 q) (f2 q) core (q : Int)).1, .fl .f32 fun q => (puV n f0 f1 f2 f3 f4 f5 f6 (f0 q) (f1 q) (f2 q) core (q : Int)).2.1, .fl .f32 fun q => (puV n f0 f1 f2 f3 f4 f5 f6 (f0 q) (f1 q) (f2 q) core (q : Int)).2.2]), none])) (.leaf (.tup [.one (.val (.slice none 0 0)), .one (.tt false)], [])))))) := by kernel_rfl
noncomputable def k_iPo : Ctr Try.prog := (k_iPo0.to run_po (by
  intro args mem _
  unfold run_po
  split
  · rename_i n core m f0 f1 f2 f3 f4 f5 f6 _
    rw [iPo0_ev]
    constructor
    intro Φ hΦ h
    exact po_sh _ _ _ h.1 (fun _ => h.1) (fun hA => decide_eq_true (by have : n ≤ 16 := areB_le hA; omega)) ⟨fun hk => h.2.1 hk, fun hk => h.2.2 hk⟩
  · exact Weak.fail _)).su.own

end Go.Proofs.Ytjcofjelfaoecaa
