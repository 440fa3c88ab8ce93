/-
  Marks in rows of bodies. No conditions.
-/
import Derived.Test.YtjaohecdhnhhbaaBd
import Derived.Test.YtjaohecdhnhhbaaRw
namespace Go.Proofs.Ytjaohecdhnhhbaa
set_option linter.unusedVariables false
set_option linter.unusedSimpArgs false
open Go.RowKit

def mk (c : Nat) (i : Nat) : Nat := fint .f32 ((7 * i + c + 1 : Nat) : Int)
structure Cmk where
  n : Nat
  m : Nat
def Cmk.base (c : Cmk) : Mem := [none]
structure Vmk where
  i : Int
  k : Int
  a0 : Nat → Nat
  a1 : Nat → Nat
  a2 : Nat → Nat
  a3 : Nat → Nat
  a4 : Nat → Nat
  a5 : Nat → Nat
  a6 : Nat → Nat
noncomputable abbrev mkRoot : Code := bodyOf Try.f14
def mk_st (c : Cmk) (v : Vmk) : FSt := ⟨[(0, .one (.su 1 7 0 c.n false)), (1, .one (.num .i64 v.k)), (5, .one (.num .i64 v.i)), (999, .tie 0 1)], c.base ++ [some (.cols c.m [.fl .f32 v.a0, .fl .f32 v.a1, .fl .f32 v.a2, .fl .f32 v.a3, .fl .f32 v.a4, .fl .f32 v.a5, .fl .f32 v.a6])]⟩
def mk_step (c : Cmk) (v : Vmk) : T (Nx Vmk) :=
  .ite (decide (v.1 < ↑c.1)) (.need (decide (0 ≤ v.1) && decide (v.1 < ↑c.1)) (.need (decide (v.1.toNat + 0 < c.2)) (.need (decide (0 ≤ v.1) && decide (v.1 < ↑c.1)) (.need (decide (v.1.toNat + 0 < c.2)) (.need (decide (0 ≤ v.1) && decide (v.1 < ↑c.1)) (.need (decide (v.1.toNat + 0 < c.2)) (.need (decide (0 ≤ v.1) && decide (v.1 < ↑c.1)) (.need (decide (v.1.toNat + 0 < c.2)) (.need (decide (0 ≤ v.1) && decide (v.1 < ↑c.1)) (.need (decide (v.1.toNat + 0 < c.2)) (.need (decide (0 ≤ v.1) && decide (v.1 < ↑c.1)) (.need (decide (v.1.toNat + 0 < c.2)) (.need (decide (0 ≤ v.1) && decide (v.1 < ↑c.1)) (.need (decide (v.1.toNat + 0 < c.2)) (.leaf (.go { i := IntKind.i64.wrap (v.1 + 1), k := IntKind.i64.wrap (IntKind.i64.wrap (IntKind.i64.wrap (IntKind.i64.wrap (IntKind.i64.wrap (IntKind.i64.wrap (IntKind.i64.wrap (v.2 + 1) + 1) + 1) + 1) + 1) + 1) + 1), a0 := fun q => if q = v.i.toNat + 0 then fint FloatKind.f32 v.k else v.a0 q, a1 := fun q => if q = v.i.toNat + 0 then fint FloatKind.f32 (IntKind.i64.wrap (v.k + 1)) else v.a1 q, a2 := fun q => if q = v.i.toNat + 0 then fint FloatKind.f32 (IntKind.i64.wrap (IntKind.i64.wrap (v.k + 1) + 1)) else v.a2 q, a3 := fun q => if q = v.i.toNat + 0 then fint FloatKind.f32 (IntKind.i64.wrap (IntKind.i64.wrap (IntKind.i64.wrap (v.k + 1) + 1) + 1)) else v.a3 q, a4 := fun q => if q = v.i.toNat + 0 then fint FloatKind.f32 (IntKind.i64.wrap (IntKind.i64.wrap (IntKind.i64.wrap (IntKind.i64.wrap (v.k + 1) + 1) + 1) + 1)) else v.a4 q, a5 := fun q => if q = v.i.toNat + 0 then fint FloatKind.f32 (IntKind.i64.wrap (IntKind.i64.wrap (IntKind.i64.wrap (IntKind.i64.wrap (IntKind.i64.wrap (v.k + 1) + 1) + 1) + 1) + 1)) else v.a5 q, a6 := fun q => if q = v.i.toNat + 0 then fint FloatKind.f32 (IntKind.i64.wrap (IntKind.i64.wrap (IntKind.i64.wrap (IntKind.i64.wrap (IntKind.i64.wrap (IntKind.i64.wrap (v.k + 1) + 1) + 1) + 1) + 1) + 1)) else v.a6 q })))))))))))))))) (.leaf (.out (EX.exit 0) ⟨[(0, AV.one (SV.su 1 7 0 c.1 false)), (1, AV.one (SV.num IntKind.i64 v.2)), (5, AV.one (SV.num IntKind.i64 v.1)), (999, AV.tie 0 1)], c.base ++ [some (.cols c.m [.fl .f32 v.a0, .fl .f32 v.a1, .fl .f32 v.a2, .fl .f32 v.a3, .fl .f32 v.a4, .fl .f32 v.a5, .fl .f32 v.a6])]⟩))
theorem mk_round (c : Cmk) (v : Vmk) : roundF Try.prog 75 [] mkRoot [] c.base [0, 1, 4, 5, 9, 198, 999] [0, 1, 5, 999] 0 (mk_st c v) = (mk_step c v).map (nxF (mk_st c)) := by kernel_rfl
def mk_g (c : Cmk) (j : Nat) (a : (Nat → Nat) × (Nat → Nat) × (Nat → Nat) × (Nat → Nat) × (Nat → Nat) × (Nat → Nat) × (Nat → Nat)) : (Nat → Nat) × (Nat → Nat) × (Nat → Nat) × (Nat → Nat) × (Nat → Nat) × (Nat → Nat) × (Nat → Nat) := (fun q => if q = j then mk 0 j else a.1 q, fun q => if q = j then mk 1 j else a.2.1 q, fun q => if q = j then mk 2 j else a.2.2.1 q, fun q => if q = j then mk 3 j else a.2.2.2.1 q, fun q => if q = j then mk 4 j else a.2.2.2.2.1 q, fun q => if q = j then mk 5 j else a.2.2.2.2.2.1 q, fun q => if q = j then mk 6 j else a.2.2.2.2.2.2 q)
def mk_ok (c : Cmk) (v : Vmk) : Bool := decide (c.n ≤ c.m ∧ c.n ≤ 1048576 ∧ v.k = 7 * v.i + 1 ∧ 0 ≤ v.i ∧ v.i ≤ ((c.n : Nat) : Int))
def mk_fin (c : Cmk) (a : (Nat → Nat) × (Nat → Nat) × (Nat → Nat) × (Nat → Nat) × (Nat → Nat) × (Nat → Nat) × (Nat → Nat)) : FSt := mk_st c ({ i := (c.n : Int), k := 7 * (c.n : Int) + 1, a0 := a.1, a1 := a.2.1, a2 := a.2.2.1, a3 := a.2.2.2.1, a4 := a.2.2.2.2.1, a5 := a.2.2.2.2.2.1, a6 := a.2.2.2.2.2.2 })
noncomputable def mk_R (x : Cmk × Vmk) : T (EX × FSt) := .need (mk_ok x.1 x.2) (.leaf (.normal, mk_fin x.1 (iter (mk_g x.1) (x.1.n - x.2.i.toNat) x.2.i.toNat (x.2.a0, x.2.a1, x.2.a2, x.2.a3, x.2.a4, x.2.a5, x.2.a6))))
theorem mk_tri (x : Cmk × Vmk) : TriR Try.prog 75 x.1.base (.block 0 (.loop (bodyB mkRoot 0))) (mk_st x.1 x.2) (mk_R x) := by
  obtain ⟨c, v⟩ := x
  refine triR_of mix (root := mkRoot) (by kernel_rfl) (by kernel_rfl) [0, 1, 4, 5, 9, 198, 999] [0, 1, 5, 999] (mk_st c) (mk_step c) (mk_round c) v _ ((c.n - v.i.toNat) + 1) (fun Φ h => ?_)
  have h0 := h.1
  have h1 : Φ (.normal, mk_fin c (iter (mk_g c) (c.n - v.i.toNat) v.i.toNat (v.a0, v.a1, v.a2, v.a3, v.a4, v.a5, v.a6))) := h.2
  simp only [mk_ok, decide_eq_true_eq] at h0
  obtain ⟨hk0, hk1, hk2, hi0, hin⟩ := h0
  have hv : v = (fun (j : Nat) (a : (Nat → Nat) × (Nat → Nat) × (Nat → Nat) × (Nat → Nat) × (Nat → Nat) × (Nat → Nat) × (Nat → Nat)) => ({ i := (j : Int), k := 7 * (j : Int) + 1, a0 := a.1, a1 := a.2.1, a2 := a.2.2.1, a3 := a.2.2.2.1, a4 := a.2.2.2.2.1, a5 := a.2.2.2.2.2.1, a6 := a.2.2.2.2.2.2 } : Vmk)) v.i.toNat (v.a0, v.a1, v.a2, v.a3, v.a4, v.a5, v.a6) := by
    obtain ⟨i, k, a0, a1, a2, a3, a4, a5, a6⟩ := v
    have hi0 : 0 ≤ i := hi0
    have hk2 : k = 7 * i + 1 := hk2
    subst hk2
    simp only [Int.toNat_of_nonneg hi0]
  have key := T_iter (mk_step c) (fun (j : Nat) (a : (Nat → Nat) × (Nat → Nat) × (Nat → Nat) × (Nat → Nat) × (Nat → Nat) × (Nat → Nat) × (Nat → Nat)) => ({ i := (j : Int), k := 7 * (j : Int) + 1, a0 := a.1, a1 := a.2.1, a2 := a.2.2.1, a3 := a.2.2.2.1, a4 := a.2.2.2.2.1, a5 := a.2.2.2.2.2.1, a6 := a.2.2.2.2.2.2 } : Vmk)) c.n (mk_g c) (fun a => (.exit 0, mk_fin c a)) (fun j a hj Ψ hΨ => ?_) (fun a Ψ hΨ => ?_) (fun a => by simp) (c.n - v.i.toNat) v.i.toNat (v.a0, v.a1, v.a2, v.a3, v.a4, v.a5, v.a6) (by omega) (fun r => Φ (blkEx 0 r.1, r.2)) (by simpa [blkEx] using h1)
  · exact (congrArg (fun z => (loopTree (mk_step c) (c.n - v.i.toNat + 1) z).holds fun r => Φ (blkEx 0 r.1, r.2)) hv).mpr key
  · unfold mk_step
    refine (T.h_ite (fun _ => ?_) (fun hc => absurd hc (by simp <;> omega)))
    refine (T.h_need (by simp <;> omega) (T.h_need (by simp <;> omega) (T.h_need (by simp <;> omega) (T.h_need (by simp <;> omega) (T.h_need (by simp <;> omega) (T.h_need (by simp <;> omega) (T.h_need (by simp <;> omega) (T.h_need (by simp <;> omega) (T.h_need (by simp <;> omega) (T.h_need (by simp <;> omega) (T.h_need (by simp <;> omega) (T.h_need (by simp <;> omega) (T.h_need (by simp <;> omega) (T.h_need (by simp <;> omega) ?_))))))))))))))
    refine T.h_leaf ?_
    rw [wrap_next (by omega)]
    have e1 : IntKind.i64.wrap (7 * (j : Int) + 1 + 1) = ((7 * j + 1 + 1 : Nat) : Int) := by rw [IntWalk.i64_in _ (by omega)]; omega
    have e2 : IntKind.i64.wrap (((7 * j + 1 + 1 : Nat) : Int) + 1) = ((7 * j + 2 + 1 : Nat) : Int) := by rw [IntWalk.i64_in _ (by omega)]; omega
    have e3 : IntKind.i64.wrap (((7 * j + 2 + 1 : Nat) : Int) + 1) = ((7 * j + 3 + 1 : Nat) : Int) := by rw [IntWalk.i64_in _ (by omega)]; omega
    have e4 : IntKind.i64.wrap (((7 * j + 3 + 1 : Nat) : Int) + 1) = ((7 * j + 4 + 1 : Nat) : Int) := by rw [IntWalk.i64_in _ (by omega)]; omega
    have e5 : IntKind.i64.wrap (((7 * j + 4 + 1 : Nat) : Int) + 1) = ((7 * j + 5 + 1 : Nat) : Int) := by rw [IntWalk.i64_in _ (by omega)]; omega
    have e6 : IntKind.i64.wrap (((7 * j + 5 + 1 : Nat) : Int) + 1) = ((7 * j + 6 + 1 : Nat) : Int) := by rw [IntWalk.i64_in _ (by omega)]; omega
    have e7 : IntKind.i64.wrap (((7 * j + 6 + 1 : Nat) : Int) + 1) = 7 * ((j + 1 : Nat) : Int) + 1 := by rw [IntWalk.i64_in _ (by omega)]; omega
    have e0 : 7 * (j : Int) + 1 = ((7 * j + 0 + 1 : Nat) : Int) := by omega
    rw [e1, e2, e3, e4, e5, e6, e7, e0]
    exact hΨ
  · unfold mk_step
    refine (T.h_ite (fun hc => absurd hc (by simp <;> omega)) (fun _ => T.h_leaf hΨ.2))

def mk_dec (b : Mem) (f : FSt) : Option (Cmk × Vmk) :=
  match getSu 1 7 (findF 0 f.sl), getTie (findF 999 f.sl), getI (findF 5 f.sl), getI (findF 1 f.sl), id b, f.mem with
  | some (0, n_), some (), some q_i, some q_k, [none], [_, some (.cols m_ [.fl .f32 q_a0, .fl .f32 q_a1, .fl .f32 q_a2, .fl .f32 q_a3, .fl .f32 q_a4, .fl .f32 q_a5, .fl .f32 q_a6])] => some ({ n := n_, m := m_ }, { i := q_i, k := q_k, a0 := q_a0, a1 := q_a1, a2 := q_a2, a3 := q_a3, a4 := q_a4, a5 := q_a5, a6 := q_a6 })
  | _, _, _, _, _, _ => none
theorem mk_dec_ok (b : Mem) (f : FSt) (x : Cmk × Vmk) (h : mk_dec b f = some x) : b = x.1.base ∧ FLe b f (mk_st x.1 x.2) := by
  unfold mk_dec at h
  split at h
  · rename_i e0 e1 e2 e3 hb hm
    cases h
    have hb : b = _ := hb
    subst hb
    refine ⟨rfl, fle_of (fun p hp => ?_) (by rw [hm]; exact memLe_refl _)⟩
    simp only [List.mem_cons, List.not_mem_nil, or_false] at hp
    rcases hp with rfl | rfl | rfl | rfl
    · exact getSu_rel e0
    · exact getI_rel e3
    · exact getI_rel e2
    · exact getTie_rel e1
  · cases h
noncomputable def mk_sum : SumF Try.prog 75 mkRoot :=
  sumL (pathB mkRoot 0) mk_dec (fun x => x.1.base) (fun x => mk_st x.1 x.2) mk_R mk_dec_ok (by
    intro code hc x
    have hc2 : code = .block 0 (.loop (bodyB mkRoot 0)) := by
      have h : subR mkRoot (pathB mkRoot 0) = some (.block 0 (.loop (bodyB mkRoot 0))) := by kernel_rfl
      rw [h] at hc; cases hc; rfl
    subst hc2
    exact mk_tri x)

noncomputable def w_mark0 : Wr Try.prog 14 := mkW Try.prog mix [] 14 Try.f14 (bodyOf Try.f14) Try.func14 (by kernel_rfl) (by kernel_rfl) [0, 1, 4, 5, 9, 198, 999] 75 (by kernel_rfl) (by kernel_rfl) [mk_sum]
theorem mk_fill (n m : Nat) (a : (Nat → Nat) × (Nat → Nat) × (Nat → Nat) × (Nat → Nat) × (Nat → Nat) × (Nat → Nat) × (Nat → Nat)) (i : Nat) (hi : i < n) : (iter (mk_g { n := n, m := m }) n 0 a).1 i = mk 0 i ∧ (iter (mk_g { n := n, m := m }) n 0 a).2.1 i = mk 1 i ∧ (iter (mk_g { n := n, m := m }) n 0 a).2.2.1 i = mk 2 i ∧ (iter (mk_g { n := n, m := m }) n 0 a).2.2.2.1 i = mk 3 i ∧ (iter (mk_g { n := n, m := m }) n 0 a).2.2.2.2.1 i = mk 4 i ∧ (iter (mk_g { n := n, m := m }) n 0 a).2.2.2.2.2.1 i = mk 5 i ∧ (iter (mk_g { n := n, m := m }) n 0 a).2.2.2.2.2.2 i = mk 6 i :=
  ⟨fill_at (mk_g { n := n, m := m }) (fun a => a.1) (mk 0) (fun j a q h => if_neg h) (fun j a => if_pos rfl) n 0 a i (Nat.zero_le i) (by omega),
   fill_at (mk_g { n := n, m := m }) (fun a => a.2.1) (mk 1) (fun j a q h => if_neg h) (fun j a => if_pos rfl) n 0 a i (Nat.zero_le i) (by omega),
   fill_at (mk_g { n := n, m := m }) (fun a => a.2.2.1) (mk 2) (fun j a q h => if_neg h) (fun j a => if_pos rfl) n 0 a i (Nat.zero_le i) (by omega),
   fill_at (mk_g { n := n, m := m }) (fun a => a.2.2.2.1) (mk 3) (fun j a q h => if_neg h) (fun j a => if_pos rfl) n 0 a i (Nat.zero_le i) (by omega),
   fill_at (mk_g { n := n, m := m }) (fun a => a.2.2.2.2.1) (mk 4) (fun j a q h => if_neg h) (fun j a => if_pos rfl) n 0 a i (Nat.zero_le i) (by omega),
   fill_at (mk_g { n := n, m := m }) (fun a => a.2.2.2.2.2.1) (mk 5) (fun j a q h => if_neg h) (fun j a => if_pos rfl) n 0 a i (Nat.zero_le i) (by omega),
   fill_at (mk_g { n := n, m := m }) (fun a => a.2.2.2.2.2.2) (mk 6) (fun j a q h => if_neg h) (fun j a => if_pos rfl) n 0 a i (Nat.zero_le i) (by omega)⟩
def run_mark : List AV → Blk → T (AV × Blk)
  | [.one (.sl 1 7 0 n cap kn), .one (.int .i64 k)], .cols m [.fl .f32 f0, .fl .f32 f1, .fl .f32 f2, .fl .f32 f3, .fl .f32 f4, .fl .f32 f5, .fl .f32 f6] => .need (decide (n ≤ cap)) (.need (decide (n ≤ m)) (.need (decide (n ≤ 1048576)) (.need (decide (k = 1)) (.leaf (.one (.num .i64 (7 * (n : Int) + 1)), .cols n [.fl .f32 (mk 0), .fl .f32 (mk 1), .fl .f32 (mk 2), .fl .f32 (mk 3), .fl .f32 (mk 4), .fl .f32 (mk 5), .fl .f32 (mk 6)])))))
  | [.one (.su 1 7 0 n kn), .one (.int .i64 k)], .cols m [.fl .f32 f0, .fl .f32 f1, .fl .f32 f2, .fl .f32 f3, .fl .f32 f4, .fl .f32 f5, .fl .f32 f6] => .need (decide (n ≤ m)) (.need (decide (n ≤ 1048576)) (.need (decide (k = 1)) (.leaf (.one (.num .i64 (7 * (n : Int) + 1)), .cols n [.fl .f32 (mk 0), .fl .f32 (mk 1), .fl .f32 (mk 2), .fl .f32 (mk 3), .fl .f32 (mk 4), .fl .f32 (mk 5), .fl .f32 (mk 6)]))))
  | _, _ => .fail
theorem w_mark0_ev (n m : Nat) (f0 f1 f2 f3 f4 f5 f6 : Nat → Nat) : w_mark0.run [.one (.su 1 7 0 n false), .one (.num .i64 1)] (.cols m [.fl .f32 f0, .fl .f32 f1, .fl .f32 f2, .fl .f32 f3, .fl .f32 f4, .fl .f32 f5, .fl .f32 f6]) =
    .need (mk_ok { n := n, m := m } { i := 0, k := 1, a0 := f0, a1 := f1, a2 := f2, a3 := f3, a4 := f4, a5 := f5, a6 := f6 }) (.leaf (.one (.num .i64 (7 * (n : Int) + 1)), .cols m [.fl .f32 (iter (mk_g { n := n, m := m }) n 0 (f0, f1, f2, f3, f4, f5, f6)).1, .fl .f32 (iter (mk_g { n := n, m := m }) n 0 (f0, f1, f2, f3, f4, f5, f6)).2.1, .fl .f32 (iter (mk_g { n := n, m := m }) n 0 (f0, f1, f2, f3, f4, f5, f6)).2.2.1, .fl .f32 (iter (mk_g { n := n, m := m }) n 0 (f0, f1, f2, f3, f4, f5, f6)).2.2.2.1, .fl .f32 (iter (mk_g { n := n, m := m }) n 0 (f0, f1, f2, f3, f4, f5, f6)).2.2.2.2.1, .fl .f32 (iter (mk_g { n := n, m := m }) n 0 (f0, f1, f2, f3, f4, f5, f6)).2.2.2.2.2.1, .fl .f32 (iter (mk_g { n := n, m := m }) n 0 (f0, f1, f2, f3, f4, f5, f6)).2.2.2.2.2.2])) := by kernel_rfl
theorem w_mark_in (n m : Nat) (f0 f1 f2 f3 f4 f5 f6 : Nat → Nat) (hm : n ≤ m) (hn : n ≤ 1048576) (Φ : AV × Blk → Prop) (hΦ : ∀ r s : AV × Blk, (∀ ρ v, r.1.rel ρ v → s.1.rel ρ v) → BlLe r.2 s.2 → Φ s → Φ r) (h : Φ (.one (.num .i64 (7 * (n : Int) + 1)), .cols n [.fl .f32 (mk 0), .fl .f32 (mk 1), .fl .f32 (mk 2), .fl .f32 (mk 3), .fl .f32 (mk 4), .fl .f32 (mk 5), .fl .f32 (mk 6)])) :
    (w_mark0.run [.one (.su 1 7 0 n false), .one (.num .i64 1)] (.cols m [.fl .f32 f0, .fl .f32 f1, .fl .f32 f2, .fl .f32 f3, .fl .f32 f4, .fl .f32 f5, .fl .f32 f6])).holds Φ := by
  rw [w_mark0_ev]
  have hbl : BlLe (.cols n [.fl .f32 (iter (mk_g { n := n, m := m }) n 0 (f0, f1, f2, f3, f4, f5, f6)).1, .fl .f32 (iter (mk_g { n := n, m := m }) n 0 (f0, f1, f2, f3, f4, f5, f6)).2.1, .fl .f32 (iter (mk_g { n := n, m := m }) n 0 (f0, f1, f2, f3, f4, f5, f6)).2.2.1, .fl .f32 (iter (mk_g { n := n, m := m }) n 0 (f0, f1, f2, f3, f4, f5, f6)).2.2.2.1, .fl .f32 (iter (mk_g { n := n, m := m }) n 0 (f0, f1, f2, f3, f4, f5, f6)).2.2.2.2.1, .fl .f32 (iter (mk_g { n := n, m := m }) n 0 (f0, f1, f2, f3, f4, f5, f6)).2.2.2.2.2.1, .fl .f32 (iter (mk_g { n := n, m := m }) n 0 (f0, f1, f2, f3, f4, f5, f6)).2.2.2.2.2.2]) (.cols n [.fl .f32 (mk 0), .fl .f32 (mk 1), .fl .f32 (mk 2), .fl .f32 (mk 3), .fl .f32 (mk 4), .fl .f32 (mk 5), .fl .f32 (mk 6)]) := by
    refine BlLe.cols_eq (fun i hi => ?_) (by simp only [List.length_cons, List.length_nil])
    obtain ⟨h0, h1, h2, h3, h4, h5, h6⟩ := mk_fill n m (f0, f1, f2, f3, f4, f5, f6) i hi
    simp only [colsAt, Col.at, h0, h1, h2, h3, h4, h5, h6]
  have hbl2 : BlLe (.cols m [.fl .f32 (iter (mk_g { n := n, m := m }) n 0 (f0, f1, f2, f3, f4, f5, f6)).1, .fl .f32 (iter (mk_g { n := n, m := m }) n 0 (f0, f1, f2, f3, f4, f5, f6)).2.1, .fl .f32 (iter (mk_g { n := n, m := m }) n 0 (f0, f1, f2, f3, f4, f5, f6)).2.2.1, .fl .f32 (iter (mk_g { n := n, m := m }) n 0 (f0, f1, f2, f3, f4, f5, f6)).2.2.2.1, .fl .f32 (iter (mk_g { n := n, m := m }) n 0 (f0, f1, f2, f3, f4, f5, f6)).2.2.2.2.1, .fl .f32 (iter (mk_g { n := n, m := m }) n 0 (f0, f1, f2, f3, f4, f5, f6)).2.2.2.2.2.1, .fl .f32 (iter (mk_g { n := n, m := m }) n 0 (f0, f1, f2, f3, f4, f5, f6)).2.2.2.2.2.2]) (.cols n [.fl .f32 (iter (mk_g { n := n, m := m }) n 0 (f0, f1, f2, f3, f4, f5, f6)).1, .fl .f32 (iter (mk_g { n := n, m := m }) n 0 (f0, f1, f2, f3, f4, f5, f6)).2.1, .fl .f32 (iter (mk_g { n := n, m := m }) n 0 (f0, f1, f2, f3, f4, f5, f6)).2.2.1, .fl .f32 (iter (mk_g { n := n, m := m }) n 0 (f0, f1, f2, f3, f4, f5, f6)).2.2.2.1, .fl .f32 (iter (mk_g { n := n, m := m }) n 0 (f0, f1, f2, f3, f4, f5, f6)).2.2.2.2.1, .fl .f32 (iter (mk_g { n := n, m := m }) n 0 (f0, f1, f2, f3, f4, f5, f6)).2.2.2.2.2.1, .fl .f32 (iter (mk_g { n := n, m := m }) n 0 (f0, f1, f2, f3, f4, f5, f6)).2.2.2.2.2.2]) := BlLe.cols_le hm
  have hok : mk_ok { n := n, m := m } { i := 0, k := 1, a0 := f0, a1 := f1, a2 := f2, a3 := f3, a4 := f4, a5 := f5, a6 := f6 } = true := by
    unfold mk_ok
    refine decide_eq_true ⟨hm, hn, ?_, Int.le_refl 0, Int.natCast_nonneg n⟩
    show (1 : Int) = 7 * 0 + 1
    omega
  exact T.h_need hok (T.h_leaf (hΦ _ (.one (.num .i64 (7 * (n : Int) + 1)), .cols n [.fl .f32 (mk 0), .fl .f32 (mk 1), .fl .f32 (mk 2), .fl .f32 (mk 3), .fl .f32 (mk 4), .fl .f32 (mk 5), .fl .f32 (mk 6)]) (fun _ _ hv => hv) (fun ρ w b o hb => hbl ρ w b o (hbl2 ρ w b o hb)) h))
set_option maxHeartbeats 4000000 in
noncomputable def w_mark : Wr Try.prog 14 := w_mark0.re run_mark (by
  intro args C Φ hΦ h
  unfold run_mark at h
  split at h
  · rename_i n cap kn k m f0 f1 f2 f3 f4 f5 f6
    have hk : k = 1 := of_decide_eq_true h.2.2.2.1
    have h0 : n ≤ cap := of_decide_eq_true h.1
    subst hk
    have hm : n ≤ m := of_decide_eq_true h.2.1
    have hn : n ≤ 1048576 := of_decide_eq_true h.2.2.1
    have hl : Φ (.one (.num .i64 (7 * (n : Int) + 1)), .cols n [.fl .f32 (mk 0), .fl .f32 (mk 1), .fl .f32 (mk 2), .fl .f32 (mk 3), .fl .f32 (mk 4), .fl .f32 (mk 5), .fl .f32 (mk 6)]) := h.2.2.2.2
    have key := w_mark_in n m f0 f1 f2 f3 f4 f5 f6 hm hn Φ hΦ hl
    refine Exists.intro [.one (.su 1 7 0 n false), .one (.num .i64 1)] (And.intro ?_ ?_)
    · intro ρ vals hv
      exact slargs h0 hv
    · exact key
  · rename_i n kn k m f0 f1 f2 f3 f4 f5 f6
    have hk : k = 1 := of_decide_eq_true h.2.2.1
    subst hk
    have hm : n ≤ m := of_decide_eq_true h.1
    have hn : n ≤ 1048576 := of_decide_eq_true h.2.1
    have hl : Φ (.one (.num .i64 (7 * (n : Int) + 1)), .cols n [.fl .f32 (mk 0), .fl .f32 (mk 1), .fl .f32 (mk 2), .fl .f32 (mk 3), .fl .f32 (mk 4), .fl .f32 (mk 5), .fl .f32 (mk 6)]) := h.2.2.2
    have key := w_mark_in n m f0 f1 f2 f3 f4 f5 f6 hm hn Φ hΦ hl
    refine Exists.intro [.one (.su 1 7 0 n false), .one (.num .i64 1)] (And.intro ?_ ?_)
    · intro ρ vals hv
      exact suargs hv
    · exact key
  · exact h.elim)
noncomputable def k_markN : Ctr Try.prog := mkF Try.prog mix [] 14 Try.f14 (bodyOf Try.f14) Try.func14 (by kernel_rfl) (by kernel_rfl) [0, 1, 4, 5, 9] 75 (by kernel_rfl) (by kernel_rfl)
noncomputable def k_mark : Ctr Try.prog := k_markN.withW w_mark

end Go.Proofs.Ytjaohecdhnhhbaa
