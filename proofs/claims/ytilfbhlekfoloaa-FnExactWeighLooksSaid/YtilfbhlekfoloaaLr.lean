/-
  Marks in rows, rows compared: Look. No conditions.
-/
import Derived.Test.YtilfbhlekfoloaaRw
import Derived.Test.YtilfbhlekfoloaaLk
namespace Go.Proofs.Ytilfbhlekfoloaa
set_option linter.unusedVariables false
set_option linter.unusedSimpArgs false
open Go.RowKit

def mkLf (c : Nat) (i : Nat) :  Nat := fint .f32 ((5 * i + c + 1 : Nat) : Int)
structure CmkL where
  n : Nat
  m : Nat
def CmkL.base (c : CmkL) : Mem := [none]
structure VmkL where
  i : Int
  k : Int
  a0 : Nat → Nat
  a1 : Nat → Nat
  a2 : Nat → Nat
  a3 : Nat → Nat
  a4 : Nat → Nat
noncomputable abbrev mkLRoot : Code := bodyOf Try.f57
def mkL_st (c : CmkL) (v : VmkL) : FSt := ⟨[(0, .one (.su 1 5 0 c.n false)), (1, .one (.num .i64 v.k)), (5, .one (.num .i64 v.i)), (999, .tie 0 1)], c.base ++ [some (.cols c.m [.fl .f32 v.a0, .fl .f32 v.a1, .fl .f32 v.a2, .fl .f32 v.a3, .fl .f32 v.a4])]⟩
def mkL_step (c : CmkL) (v : VmkL) : T (Nx VmkL) :=
  .ite (decide (v.1 < ↑c.1)) (.need (decide (0 ≤ v.1) && decide (v.1 < ↑c.1)) (.need (decide (v.1.toNat + 0 < c.2)) (.need (decide (0 ≤ v.1) && decide (v.1 < ↑c.1)) (.need (decide (v.1.toNat + 0 < c.2)) (.need (decide (0 ≤ v.1) && decide (v.1 < ↑c.1)) (.need (decide (v.1.toNat + 0 < c.2)) (.need (decide (0 ≤ v.1) && decide (v.1 < ↑c.1)) (.need (decide (v.1.toNat + 0 < c.2)) (.need (decide (0 ≤ v.1) && decide (v.1 < ↑c.1)) (.need (decide (v.1.toNat + 0 < c.2)) (.leaf (.go { i := IntKind.i64.wrap (v.1 + 1), k := IntKind.i64.wrap (IntKind.i64.wrap (IntKind.i64.wrap (IntKind.i64.wrap (IntKind.i64.wrap (v.2 + 1) + 1) + 1) + 1) + 1), a0 := fun q => if q = v.i.toNat + 0 then fint FloatKind.f32 v.k else v.a0 q, a1 := fun q => if q = v.i.toNat + 0 then fint FloatKind.f32 (IntKind.i64.wrap (v.k + 1)) else v.a1 q, a2 := fun q => if q = v.i.toNat + 0 then fint FloatKind.f32 (IntKind.i64.wrap (IntKind.i64.wrap (v.k + 1) + 1)) else v.a2 q, a3 := fun q => if q = v.i.toNat + 0 then fint FloatKind.f32 (IntKind.i64.wrap (IntKind.i64.wrap (IntKind.i64.wrap (v.k + 1) + 1) + 1)) else v.a3 q, a4 := fun q => if q = v.i.toNat + 0 then fint FloatKind.f32 (IntKind.i64.wrap (IntKind.i64.wrap (IntKind.i64.wrap (IntKind.i64.wrap (v.k + 1) + 1) + 1) + 1)) else v.a4 q })))))))))))) (.leaf (.out (EX.exit 0) ⟨[(0, AV.one (SV.su 1 5 0 c.1 false)), (1, AV.one (SV.num IntKind.i64 v.2)), (5, AV.one (SV.num IntKind.i64 v.1)), (999, AV.tie 0 1)], c.base ++ [some (.cols c.m [.fl .f32 v.a0, .fl .f32 v.a1, .fl .f32 v.a2, .fl .f32 v.a3, .fl .f32 v.a4])]⟩))
theorem mkL_round (c : CmkL) (v : VmkL) : roundF Try.prog 53 [] mkLRoot [] c.base [0, 1, 4, 5, 9, 198, 999] [0, 1, 5, 999] 0 (mkL_st c v) = (mkL_step c v).map (nxF (mkL_st c)) := by kernel_rfl
def mkL_g (c : CmkL) (j : Nat) (a : (Nat → Nat) × (Nat → Nat) × (Nat → Nat) × (Nat → Nat) × (Nat → Nat)) : (Nat → Nat) × (Nat → Nat) × (Nat → Nat) × (Nat → Nat) × (Nat → Nat) := (fun q => if q = j then mkLf 0 j else a.1 q, fun q => if q = j then mkLf 1 j else a.2.1 q, fun q => if q = j then mkLf 2 j else a.2.2.1 q, fun q => if q = j then mkLf 3 j else a.2.2.2.1 q, fun q => if q = j then mkLf 4 j else a.2.2.2.2 q)
def mkL_ok (c : CmkL) (v : VmkL) : Bool := decide (c.n ≤ c.m ∧ c.n ≤ 1048576 ∧ v.k = 5 * v.i + 1 ∧ 0 ≤ v.i ∧ v.i ≤ ((c.n : Nat) : Int))
def mkL_fin (c : CmkL) (a : (Nat → Nat) × (Nat → Nat) × (Nat → Nat) × (Nat → Nat) × (Nat → Nat)) : FSt := mkL_st c ({ i := (c.n : Int), k := 5 * (c.n : Int) + 1, a0 := a.1, a1 := a.2.1, a2 := a.2.2.1, a3 := a.2.2.2.1, a4 := a.2.2.2.2 })
noncomputable def mkL_R (x : CmkL × VmkL) : T (EX × FSt) := .need (mkL_ok x.1 x.2) (.leaf (.normal, mkL_fin x.1 (iter (mkL_g x.1) (x.1.n - x.2.i.toNat) x.2.i.toNat (x.2.a0, x.2.a1, x.2.a2, x.2.a3, x.2.a4))))
theorem mkL_tri (x : CmkL × VmkL) : TriR Try.prog 53 x.1.base (.block 0 (.loop (bodyB mkLRoot 0))) (mkL_st x.1 x.2) (mkL_R x) := by
  obtain ⟨c, v⟩ := x
  refine triR_of mix (root := mkLRoot) (by kernel_rfl) (by kernel_rfl) [0, 1, 4, 5, 9, 198, 999] [0, 1, 5, 999] (mkL_st c) (mkL_step c) (mkL_round c) v _ ((c.n - v.i.toNat) + 1) (fun Φ h => ?_)
  have h0 := h.1
  have h1 : Φ (.normal, mkL_fin c (iter (mkL_g c) (c.n - v.i.toNat) v.i.toNat (v.a0, v.a1, v.a2, v.a3, v.a4))) := h.2
  simp only [mkL_ok, decide_eq_true_eq] at h0
  obtain ⟨hk0, hk1, hk2, hi0, hin⟩ := h0
  have hv : v = (fun (j : Nat) (a : (Nat → Nat) × (Nat → Nat) × (Nat → Nat) × (Nat → Nat) × (Nat → Nat)) => ({ i := (j : Int), k := 5 * (j : Int) + 1, a0 := a.1, a1 := a.2.1, a2 := a.2.2.1, a3 := a.2.2.2.1, a4 := a.2.2.2.2 } : VmkL)) v.i.toNat (v.a0, v.a1, v.a2, v.a3, v.a4) := by
    obtain ⟨i, k, a0, a1, a2, a3, a4⟩ := v
    have hi0 : 0 ≤ i := hi0
    have hk2 : k = 5 * i + 1 := hk2
    subst hk2
    simp only [Int.toNat_of_nonneg hi0]
  have key := T_iter (mkL_step c) (fun (j : Nat) (a : (Nat → Nat) × (Nat → Nat) × (Nat → Nat) × (Nat → Nat) × (Nat → Nat)) => ({ i := (j : Int), k := 5 * (j : Int) + 1, a0 := a.1, a1 := a.2.1, a2 := a.2.2.1, a3 := a.2.2.2.1, a4 := a.2.2.2.2 } : VmkL)) c.n (mkL_g c) (fun a => (.exit 0, mkL_fin c a)) (fun j a hj Ψ hΨ => ?_) (fun a Ψ hΨ => ?_) (fun a => by simp) (c.n - v.i.toNat) v.i.toNat (v.a0, v.a1, v.a2, v.a3, v.a4) (by omega) (fun r => Φ (blkEx 0 r.1, r.2)) (by simpa [blkEx] using h1)
  · exact (congrArg (fun z => (loopTree (mkL_step c) (c.n - v.i.toNat + 1) z).holds fun r => Φ (blkEx 0 r.1, r.2)) hv).mpr key
  · unfold mkL_step
    refine (T.h_ite (fun _ => ?_) (fun hc => absurd hc (by simp <;> omega)))
    refine (T.h_need (by simp <;> omega) (T.h_need (by simp <;> omega) (T.h_need (by simp <;> omega) (T.h_need (by simp <;> omega) (T.h_need (by simp <;> omega) (T.h_need (by simp <;> omega) (T.h_need (by simp <;> omega) (T.h_need (by simp <;> omega) (T.h_need (by simp <;> omega) (T.h_need (by simp <;> omega) ?_))))))))))
    refine T.h_leaf ?_
    rw [wrap_next (by omega)]
    have e1 : IntKind.i64.wrap (5 * (j : Int) + 1 + 1) = ((5 * j + 1 + 1 : Nat) : Int) := by rw [IntWalk.i64_in _ (by omega)]; omega
    have e2 : IntKind.i64.wrap (((5 * j + 1 + 1 : Nat) : Int) + 1) = ((5 * j + 2 + 1 : Nat) : Int) := by rw [IntWalk.i64_in _ (by omega)]; omega
    have e3 : IntKind.i64.wrap (((5 * j + 2 + 1 : Nat) : Int) + 1) = ((5 * j + 3 + 1 : Nat) : Int) := by rw [IntWalk.i64_in _ (by omega)]; omega
    have e4 : IntKind.i64.wrap (((5 * j + 3 + 1 : Nat) : Int) + 1) = ((5 * j + 4 + 1 : Nat) : Int) := by rw [IntWalk.i64_in _ (by omega)]; omega
    have e5 : IntKind.i64.wrap (((5 * j + 4 + 1 : Nat) : Int) + 1) = 5 * ((j + 1 : Nat) : Int) + 1 := by rw [IntWalk.i64_in _ (by omega)]; omega
    have e0 : 5 * (j : Int) + 1 = ((5 * j + 0 + 1 : Nat) : Int) := by omega
    rw [e1, e2, e3, e4, e5, e0]
    exact hΨ
  · unfold mkL_step
    refine (T.h_ite (fun hc => absurd hc (by simp <;> omega)) (fun _ => T.h_leaf hΨ.2))

def mkL_dec (b : Mem) (f : FSt) : Option (CmkL × VmkL) :=
  match getSu 1 5 (findF 0 f.sl), getTie (findF 999 f.sl), getI (findF 5 f.sl), getI (findF 1 f.sl), id b, f.mem with
  | some (0, n_), some (), some q_i, some q_k, [none], [_, some (.cols m_ [.fl .f32 q_a0, .fl .f32 q_a1, .fl .f32 q_a2, .fl .f32 q_a3, .fl .f32 q_a4])] => some ({ n := n_, m := m_ }, { i := q_i, k := q_k, a0 := q_a0, a1 := q_a1, a2 := q_a2, a3 := q_a3, a4 := q_a4 })
  | _, _, _, _, _, _ => none
theorem mkL_dec_ok (b : Mem) (f : FSt) (x : CmkL × VmkL) (h : mkL_dec b f = some x) : b = x.1.base ∧ FLe b f (mkL_st x.1 x.2) := by
  unfold mkL_dec at h
  split at h
  · rename_i e0 e1 e2 e3 hb hm
    cases h
    have hb : b = _ := hb
    subst hb
    refine ⟨rfl, fle_of (fun p hp => ?_) (by rw [hm]; exact memLe_refl _)⟩
    simp only [List.mem_cons, List.not_mem_nil, or_false] at hp
    rcases hp with rfl | rfl | rfl | rfl
    · exact getSu_rel e0
    · exact getI_rel e3
    · exact getI_rel e2
    · exact getTie_rel e1
  · cases h
noncomputable def mkL_sum : SumF Try.prog 53 mkLRoot :=
  sumL (pathB mkLRoot 0) mkL_dec (fun x => x.1.base) (fun x => mkL_st x.1 x.2) mkL_R mkL_dec_ok (by
    intro code hc x
    have hc2 : code = .block 0 (.loop (bodyB mkLRoot 0)) := by
      have h : subR mkLRoot (pathB mkLRoot 0) = some (.block 0 (.loop (bodyB mkLRoot 0))) := by kernel_rfl
      rw [h] at hc; cases hc; rfl
    subst hc2
    exact mkL_tri x)

noncomputable def w_mkL0 : Wr Try.prog 57 := mkW Try.prog mix [] 57 Try.f57 (bodyOf Try.f57) Try.func57 (by kernel_rfl) (by kernel_rfl) [0, 1, 4, 5, 9, 198, 999] 53 (by kernel_rfl) (by kernel_rfl) [mkL_sum]
theorem mkL_fill (n m : Nat) (a : (Nat → Nat) × (Nat → Nat) × (Nat → Nat) × (Nat → Nat) × (Nat → Nat)) (i : Nat) (hi : i < n) : (iter (mkL_g { n := n, m := m }) n 0 a).1 i = mkLf 0 i ∧ (iter (mkL_g { n := n, m := m }) n 0 a).2.1 i = mkLf 1 i ∧ (iter (mkL_g { n := n, m := m }) n 0 a).2.2.1 i = mkLf 2 i ∧ (iter (mkL_g { n := n, m := m }) n 0 a).2.2.2.1 i = mkLf 3 i ∧ (iter (mkL_g { n := n, m := m }) n 0 a).2.2.2.2 i = mkLf 4 i :=
  ⟨fillG (mkL_g { n := n, m := m }) (fun a => a.1) (mkLf 0) (fun j a q h => if_neg h) (fun j a => if_pos rfl) n 0 a i (Nat.zero_le i) (by omega),
   fillG (mkL_g { n := n, m := m }) (fun a => a.2.1) (mkLf 1) (fun j a q h => if_neg h) (fun j a => if_pos rfl) n 0 a i (Nat.zero_le i) (by omega),
   fillG (mkL_g { n := n, m := m }) (fun a => a.2.2.1) (mkLf 2) (fun j a q h => if_neg h) (fun j a => if_pos rfl) n 0 a i (Nat.zero_le i) (by omega),
   fillG (mkL_g { n := n, m := m }) (fun a => a.2.2.2.1) (mkLf 3) (fun j a q h => if_neg h) (fun j a => if_pos rfl) n 0 a i (Nat.zero_le i) (by omega),
   fillG (mkL_g { n := n, m := m }) (fun a => a.2.2.2.2) (mkLf 4) (fun j a q h => if_neg h) (fun j a => if_pos rfl) n 0 a i (Nat.zero_le i) (by omega)⟩
def run_markL : List AV → Blk → T (AV × Blk)
  | [.one (.sl 1 5 0 n cap kn), .one (.int .i64 k)], .cols m [.fl .f32 f0, .fl .f32 f1, .fl .f32 f2, .fl .f32 f3, .fl .f32 f4] => .need (decide (n ≤ cap)) (.need (decide (n ≤ m)) (.need (decide (n ≤ 1048576)) (.need (decide (k = 1)) (.leaf ((.one (.num .i64 (5 * (n : Int) + 1))), .cols n [.fl .f32 (mkLf 0), .fl .f32 (mkLf 1), .fl .f32 (mkLf 2), .fl .f32 (mkLf 3), .fl .f32 (mkLf 4)])))))
  | [.one (.su 1 5 0 n kn), .one (.int .i64 k)], .cols m [.fl .f32 f0, .fl .f32 f1, .fl .f32 f2, .fl .f32 f3, .fl .f32 f4] => .need (decide (n ≤ m)) (.need (decide (n ≤ 1048576)) (.need (decide (k = 1)) (.leaf ((.one (.num .i64 (5 * (n : Int) + 1))), .cols n [.fl .f32 (mkLf 0), .fl .f32 (mkLf 1), .fl .f32 (mkLf 2), .fl .f32 (mkLf 3), .fl .f32 (mkLf 4)]))))
  | _, _ => .fail
theorem w_mkL0_ev (n m : Nat) (f0 : Nat → Nat) (f1 : Nat → Nat) (f2 : Nat → Nat) (f3 : Nat → Nat) (f4 : Nat → Nat) : w_mkL0.run [.one (.su 1 5 0 n false), .one (.num .i64 1)] (.cols m [.fl .f32 f0, .fl .f32 f1, .fl .f32 f2, .fl .f32 f3, .fl .f32 f4]) =
    .need (mkL_ok { n := n, m := m } { i := 0, k := 1, a0 := f0, a1 := f1, a2 := f2, a3 := f3, a4 := f4 }) (.leaf ((.one (.num .i64 (5 * (n : Int) + 1))), .cols m [.fl .f32 (iter (mkL_g { n := n, m := m }) n 0 (f0, f1, f2, f3, f4)).1, .fl .f32 (iter (mkL_g { n := n, m := m }) n 0 (f0, f1, f2, f3, f4)).2.1, .fl .f32 (iter (mkL_g { n := n, m := m }) n 0 (f0, f1, f2, f3, f4)).2.2.1, .fl .f32 (iter (mkL_g { n := n, m := m }) n 0 (f0, f1, f2, f3, f4)).2.2.2.1, .fl .f32 (iter (mkL_g { n := n, m := m }) n 0 (f0, f1, f2, f3, f4)).2.2.2.2])) := by kernel_rfl
theorem w_mkL_in (n m : Nat) (f0 : Nat → Nat) (f1 : Nat → Nat) (f2 : Nat → Nat) (f3 : Nat → Nat) (f4 : Nat → Nat) (hm : n ≤ m) (hn : n ≤ 1048576) (Φ : AV × Blk → Prop) (hΦ : ∀ r s : AV × Blk, (∀ ρ v, r.1.rel ρ v → s.1.rel ρ v) → BlLe r.2 s.2 → Φ s → Φ r) (h : Φ ((.one (.num .i64 (5 * (n : Int) + 1))), .cols n [.fl .f32 (mkLf 0), .fl .f32 (mkLf 1), .fl .f32 (mkLf 2), .fl .f32 (mkLf 3), .fl .f32 (mkLf 4)])) :
    (w_mkL0.run [.one (.su 1 5 0 n false), .one (.num .i64 1)] (.cols m [.fl .f32 f0, .fl .f32 f1, .fl .f32 f2, .fl .f32 f3, .fl .f32 f4])).holds Φ := by
  rw [w_mkL0_ev]
  have hbl : BlLe (.cols n [.fl .f32 (iter (mkL_g { n := n, m := m }) n 0 (f0, f1, f2, f3, f4)).1, .fl .f32 (iter (mkL_g { n := n, m := m }) n 0 (f0, f1, f2, f3, f4)).2.1, .fl .f32 (iter (mkL_g { n := n, m := m }) n 0 (f0, f1, f2, f3, f4)).2.2.1, .fl .f32 (iter (mkL_g { n := n, m := m }) n 0 (f0, f1, f2, f3, f4)).2.2.2.1, .fl .f32 (iter (mkL_g { n := n, m := m }) n 0 (f0, f1, f2, f3, f4)).2.2.2.2]) (.cols n [.fl .f32 (mkLf 0), .fl .f32 (mkLf 1), .fl .f32 (mkLf 2), .fl .f32 (mkLf 3), .fl .f32 (mkLf 4)]) := by
    refine BlLe.cols_eq (fun i hi => ?_) (by simp only [List.length_cons, List.length_nil])
    obtain ⟨h0, h1, h2, h3, h4⟩ := mkL_fill n m (f0, f1, f2, f3, f4) i hi
    simp only [colsAt, Col.at, h0, h1, h2, h3, h4]
  have hbl2 : BlLe (.cols m [.fl .f32 (iter (mkL_g { n := n, m := m }) n 0 (f0, f1, f2, f3, f4)).1, .fl .f32 (iter (mkL_g { n := n, m := m }) n 0 (f0, f1, f2, f3, f4)).2.1, .fl .f32 (iter (mkL_g { n := n, m := m }) n 0 (f0, f1, f2, f3, f4)).2.2.1, .fl .f32 (iter (mkL_g { n := n, m := m }) n 0 (f0, f1, f2, f3, f4)).2.2.2.1, .fl .f32 (iter (mkL_g { n := n, m := m }) n 0 (f0, f1, f2, f3, f4)).2.2.2.2]) (.cols n [.fl .f32 (iter (mkL_g { n := n, m := m }) n 0 (f0, f1, f2, f3, f4)).1, .fl .f32 (iter (mkL_g { n := n, m := m }) n 0 (f0, f1, f2, f3, f4)).2.1, .fl .f32 (iter (mkL_g { n := n, m := m }) n 0 (f0, f1, f2, f3, f4)).2.2.1, .fl .f32 (iter (mkL_g { n := n, m := m }) n 0 (f0, f1, f2, f3, f4)).2.2.2.1, .fl .f32 (iter (mkL_g { n := n, m := m }) n 0 (f0, f1, f2, f3, f4)).2.2.2.2]) := BlLe.cols_le hm
  have hok : mkL_ok { n := n, m := m } { i := 0, k := 1, a0 := f0, a1 := f1, a2 := f2, a3 := f3, a4 := f4 } = true := by
    unfold mkL_ok
    refine decide_eq_true ⟨hm, hn, ?_, Int.le_refl 0, Int.natCast_nonneg n⟩
    show (1 : Int) = 5 * 0 + 1
    omega
  exact T.h_need hok (T.h_leaf (hΦ _ ((.one (.num .i64 (5 * (n : Int) + 1))), .cols n [.fl .f32 (mkLf 0), .fl .f32 (mkLf 1), .fl .f32 (mkLf 2), .fl .f32 (mkLf 3), .fl .f32 (mkLf 4)]) (fun _ _ hv => hv) (fun ρ w b o hb => hbl ρ w b o (hbl2 ρ w b o hb)) h))
set_option maxHeartbeats 4000000 in
noncomputable def w_markL : Wr Try.prog 57 := w_mkL0.re run_markL (by
  intro args C Φ hΦ h
  unfold run_markL at h
  split at h
  · rename_i n cap kn k m f0 f1 f2 f3 f4
    have hk : k = 1 := of_decide_eq_true h.2.2.2.1
    have h0 : n ≤ cap := of_decide_eq_true h.1
    subst hk
    have hm : n ≤ m := of_decide_eq_true h.2.1
    have hn : n ≤ 1048576 := of_decide_eq_true h.2.2.1
    have hl : Φ ((.one (.num .i64 (5 * (n : Int) + 1))), .cols n [.fl .f32 (mkLf 0), .fl .f32 (mkLf 1), .fl .f32 (mkLf 2), .fl .f32 (mkLf 3), .fl .f32 (mkLf 4)]) := h.2.2.2.2
    have key := w_mkL_in n m f0 f1 f2 f3 f4 hm hn Φ hΦ hl
    refine Exists.intro [.one (.su 1 5 0 n false), .one (.num .i64 1)] (And.intro ?_ ?_)
    · intro ρ vals hv
      exact slargs h0 hv
    · exact key
  · rename_i n kn k m f0 f1 f2 f3 f4
    have hk : k = 1 := of_decide_eq_true h.2.2.1
    subst hk
    have hm : n ≤ m := of_decide_eq_true h.1
    have hn : n ≤ 1048576 := of_decide_eq_true h.2.1
    have hl : Φ ((.one (.num .i64 (5 * (n : Int) + 1))), .cols n [.fl .f32 (mkLf 0), .fl .f32 (mkLf 1), .fl .f32 (mkLf 2), .fl .f32 (mkLf 3), .fl .f32 (mkLf 4)]) := h.2.2.2
    have key := w_mkL_in n m f0 f1 f2 f3 f4 hm hn Φ hΦ hl
    refine Exists.intro [.one (.su 1 5 0 n false), .one (.num .i64 1)] (And.intro ?_ ?_)
    · intro ρ vals hv
      exact suargs hv
    · exact key
  · exact h.elim)
noncomputable def k_markLN : Ctr Try.prog := mkF Try.prog mix [] 57 Try.f57 (bodyOf Try.f57) Try.func57 (by kernel_rfl) (by kernel_rfl) [0, 1, 4, 5, 9] 53 (by kernel_rfl) (by kernel_rfl)
noncomputable def k_markL : Ctr Try.prog := k_markLN.withW w_markL
structure CheL where
  n : Nat
  m : Nat
  f0 : Nat → Nat
  f1 : Nat → Nat
  f2 : Nat → Nat
  f3 : Nat → Nat
  f4 : Nat → Nat
def CheL.base (c : CheL) : Mem := [some (.cols c.m [.fl .f32 c.f0, .fl .f32 c.f1, .fl .f32 c.f2, .fl .f32 c.f3, .fl .f32 c.f4])]
structure VheL where
  i : Int
  k : Int
noncomputable abbrev heLRoot : Code := bodyOf Try.f58
def heL_st (c : CheL) (v : VheL) : FSt := ⟨[(0, .one (.su 0 5 0 c.n false)), (1, .one (.num .i64 v.k)), (5, .one (.num .i64 v.i))], c.base ++ []⟩
def heL_step (c : CheL) (v : VheL) : T (Nx VheL) :=
  .ite (decide (v.1 < ↑c.1)) (.need (decide (0 ≤ v.1) && decide (v.1 < ↑c.1)) (.need (decide (v.1.toNat + 0 < c.2)) (.need (bif !feq FloatKind.f32 (c.3 (v.1.toNat + 0)) (fint FloatKind.f32 v.2) then true else decide (0 ≤ v.1) && decide (v.1 < ↑c.1)) (.need (bif !feq FloatKind.f32 (c.3 (v.1.toNat + 0)) (fint FloatKind.f32 v.2) then true else decide (v.1.toNat + 0 < c.2)) (.need (bif !feq FloatKind.f32 (c.3 (v.1.toNat + 0)) (fint FloatKind.f32 v.2) then true else bif !feq FloatKind.f32 (c.4 (v.1.toNat + 0)) (fint FloatKind.f32 (IntKind.i64.wrap (v.2 + 1))) then true else decide (0 ≤ v.1) && decide (v.1 < ↑c.1)) (.need (bif !feq FloatKind.f32 (c.3 (v.1.toNat + 0)) (fint FloatKind.f32 v.2) then true else bif !feq FloatKind.f32 (c.4 (v.1.toNat + 0)) (fint FloatKind.f32 (IntKind.i64.wrap (v.2 + 1))) then true else decide (v.1.toNat + 0 < c.2)) (.need (bif !feq FloatKind.f32 (c.3 (v.1.toNat + 0)) (fint FloatKind.f32 v.2) then true else bif !feq FloatKind.f32 (c.4 (v.1.toNat + 0)) (fint FloatKind.f32 (IntKind.i64.wrap (v.2 + 1))) then true else bif !feq FloatKind.f32 (c.5 (v.1.toNat + 0)) (fint FloatKind.f32 (IntKind.i64.wrap (IntKind.i64.wrap (v.2 + 1) + 1))) then true else decide (0 ≤ v.1) && decide (v.1 < ↑c.1)) (.need (bif !feq FloatKind.f32 (c.3 (v.1.toNat + 0)) (fint FloatKind.f32 v.2) then true else bif !feq FloatKind.f32 (c.4 (v.1.toNat + 0)) (fint FloatKind.f32 (IntKind.i64.wrap (v.2 + 1))) then true else bif !feq FloatKind.f32 (c.5 (v.1.toNat + 0)) (fint FloatKind.f32 (IntKind.i64.wrap (IntKind.i64.wrap (v.2 + 1) + 1))) then true else decide (v.1.toNat + 0 < c.2)) (.need (bif !feq FloatKind.f32 (c.3 (v.1.toNat + 0)) (fint FloatKind.f32 v.2) then true else bif !feq FloatKind.f32 (c.4 (v.1.toNat + 0)) (fint FloatKind.f32 (IntKind.i64.wrap (v.2 + 1))) then true else bif !feq FloatKind.f32 (c.5 (v.1.toNat + 0)) (fint FloatKind.f32 (IntKind.i64.wrap (IntKind.i64.wrap (v.2 + 1) + 1))) then true else bif !feq FloatKind.f32 (c.6 (v.1.toNat + 0)) (fint FloatKind.f32 (IntKind.i64.wrap (IntKind.i64.wrap (IntKind.i64.wrap (v.2 + 1) + 1) + 1))) then true else decide (0 ≤ v.1) && decide (v.1 < ↑c.1)) (.need (bif !feq FloatKind.f32 (c.3 (v.1.toNat + 0)) (fint FloatKind.f32 v.2) then true else bif !feq FloatKind.f32 (c.4 (v.1.toNat + 0)) (fint FloatKind.f32 (IntKind.i64.wrap (v.2 + 1))) then true else bif !feq FloatKind.f32 (c.5 (v.1.toNat + 0)) (fint FloatKind.f32 (IntKind.i64.wrap (IntKind.i64.wrap (v.2 + 1) + 1))) then true else bif !feq FloatKind.f32 (c.6 (v.1.toNat + 0)) (fint FloatKind.f32 (IntKind.i64.wrap (IntKind.i64.wrap (IntKind.i64.wrap (v.2 + 1) + 1) + 1))) then true else decide (v.1.toNat + 0 < c.2)) (.ite (!feq FloatKind.f32 (c.3 (v.1.toNat + 0)) (fint FloatKind.f32 v.2)) (.leaf (.out (EX.ret) ⟨[(0, AV.one (SV.su 0 5 0 c.1 false)), (1, AV.one (SV.num IntKind.i64 v.2)), (5, AV.one (SV.num IntKind.i64 v.1))], c.base ++ []⟩)) (.ite (!feq FloatKind.f32 (c.4 (v.1.toNat + 0)) (fint FloatKind.f32 (IntKind.i64.wrap (v.2 + 1)))) (.leaf (.out (EX.ret) ⟨[(0, AV.one (SV.su 0 5 0 c.1 false)), (1, AV.one (SV.num IntKind.i64 (IntKind.i64.wrap (v.2 + 1)))), (5, AV.one (SV.num IntKind.i64 v.1))], c.base ++ []⟩)) (.ite (!feq FloatKind.f32 (c.5 (v.1.toNat + 0)) (fint FloatKind.f32 (IntKind.i64.wrap (IntKind.i64.wrap (v.2 + 1) + 1)))) (.leaf (.out (EX.ret) ⟨[(0, AV.one (SV.su 0 5 0 c.1 false)), (1, AV.one (SV.num IntKind.i64 (IntKind.i64.wrap (IntKind.i64.wrap (v.2 + 1) + 1)))), (5, AV.one (SV.num IntKind.i64 v.1))], c.base ++ []⟩)) (.ite (!feq FloatKind.f32 (c.6 (v.1.toNat + 0)) (fint FloatKind.f32 (IntKind.i64.wrap (IntKind.i64.wrap (IntKind.i64.wrap (v.2 + 1) + 1) + 1)))) (.leaf (.out (EX.ret) ⟨[(0, AV.one (SV.su 0 5 0 c.1 false)), (1, AV.one (SV.num IntKind.i64 (IntKind.i64.wrap (IntKind.i64.wrap (IntKind.i64.wrap (v.2 + 1) + 1) + 1)))), (5, AV.one (SV.num IntKind.i64 v.1))], c.base ++ []⟩)) (.ite (!feq FloatKind.f32 (c.7 (v.1.toNat + 0)) (fint FloatKind.f32 (IntKind.i64.wrap (IntKind.i64.wrap (IntKind.i64.wrap (IntKind.i64.wrap (v.2 + 1) + 1) + 1) + 1)))) (.leaf (.out (EX.ret) ⟨[(0, AV.one (SV.su 0 5 0 c.1 false)), (1, AV.one (SV.num IntKind.i64 (IntKind.i64.wrap (IntKind.i64.wrap (IntKind.i64.wrap (IntKind.i64.wrap (v.2 + 1) + 1) + 1) + 1)))), (5, AV.one (SV.num IntKind.i64 v.1))], c.base ++ []⟩)) (.leaf (.go { i := IntKind.i64.wrap (v.1 + 1), k := IntKind.i64.wrap (IntKind.i64.wrap (IntKind.i64.wrap (IntKind.i64.wrap (IntKind.i64.wrap (v.2 + 1) + 1) + 1) + 1) + 1) }))))))))))))))))) (.leaf (.out (EX.exit 0) ⟨[(0, AV.one (SV.su 0 5 0 c.1 false)), (1, AV.one (SV.num IntKind.i64 v.2)), (5, AV.one (SV.num IntKind.i64 v.1))], c.base ++ []⟩))
theorem heL_round (c : CheL) (v : VheL) : roundF Try.prog 63 [] heLRoot [] c.base [0, 1, 4, 5, 9, 19, 29, 39, 49, 59, 198] [0, 1, 5] 0 (heL_st c v) = (heL_step c v).map (nxF (heL_st c)) := by kernel_rfl
def heL_g (c : CheL) (j : Nat) (a : Unit) : Unit := a
def heL_ok (c : CheL) (v : VheL) : Bool := decide (c.n ≤ c.m ∧ c.n ≤ 1048576 ∧ v.k = 5 * v.i + 1 ∧ (∀ i, i < c.n → c.f0 i = mkLf 0 i) ∧ (∀ i, i < c.n → c.f1 i = mkLf 1 i) ∧ (∀ i, i < c.n → c.f2 i = mkLf 2 i) ∧ (∀ i, i < c.n → c.f3 i = mkLf 3 i) ∧ (∀ i, i < c.n → c.f4 i = mkLf 4 i) ∧ 0 ≤ v.i ∧ v.i ≤ ((c.n : Nat) : Int))
def heL_fin (c : CheL) (a : Unit) : FSt := heL_st c ({ i := (c.n : Int), k := 5 * (c.n : Int) + 1 })
noncomputable def heL_R (x : CheL × VheL) : T (EX × FSt) := .need (heL_ok x.1 x.2) (.leaf (.normal, heL_fin x.1 (iter (heL_g x.1) (x.1.n - x.2.i.toNat) x.2.i.toNat ())))
theorem heL_tri (x : CheL × VheL) : TriR Try.prog 63 x.1.base (.block 0 (.loop (bodyB heLRoot 0))) (heL_st x.1 x.2) (heL_R x) := by
  obtain ⟨c, v⟩ := x
  refine triR_of mix (root := heLRoot) (by kernel_rfl) (by kernel_rfl) [0, 1, 4, 5, 9, 19, 29, 39, 49, 59, 198] [0, 1, 5] (heL_st c) (heL_step c) (heL_round c) v _ ((c.n - v.i.toNat) + 1) (fun Φ h => ?_)
  have h0 := h.1
  have h1 : Φ (.normal, heL_fin c (iter (heL_g c) (c.n - v.i.toNat) v.i.toNat ())) := h.2
  simp only [heL_ok, decide_eq_true_eq] at h0
  obtain ⟨hk0, hk1, hk2, hk3, hk4, hk5, hk6, hk7, hi0, hin⟩ := h0
  have hv : v = (fun (j : Nat) (a : Unit) => ({ i := (j : Int), k := 5 * (j : Int) + 1 } : VheL)) v.i.toNat () := by
    obtain ⟨i, k⟩ := v
    have hi0 : 0 ≤ i := hi0
    have hk2 : k = 5 * i + 1 := hk2
    subst hk2
    simp only [Int.toNat_of_nonneg hi0]
  have key := T_iter (heL_step c) (fun (j : Nat) (a : Unit) => ({ i := (j : Int), k := 5 * (j : Int) + 1 } : VheL)) c.n (heL_g c) (fun a => (.exit 0, heL_fin c a)) (fun j a hj Ψ hΨ => ?_) (fun a Ψ hΨ => ?_) (fun a => by simp) (c.n - v.i.toNat) v.i.toNat () (by omega) (fun r => Φ (blkEx 0 r.1, r.2)) (by simpa [blkEx] using h1)
  · exact (congrArg (fun z => (loopTree (heL_step c) (c.n - v.i.toNat + 1) z).holds fun r => Φ (blkEx 0 r.1, r.2)) hv).mpr key
  · unfold heL_step
    have e1 : IntKind.i64.wrap (5 * (j : Int) + 1 + 1) = ((5 * j + 1 + 1 : Nat) : Int) := by rw [IntWalk.i64_in _ (by omega)]; omega
    have e2 : IntKind.i64.wrap (((5 * j + 1 + 1 : Nat) : Int) + 1) = ((5 * j + 2 + 1 : Nat) : Int) := by rw [IntWalk.i64_in _ (by omega)]; omega
    have e3 : IntKind.i64.wrap (((5 * j + 2 + 1 : Nat) : Int) + 1) = ((5 * j + 3 + 1 : Nat) : Int) := by rw [IntWalk.i64_in _ (by omega)]; omega
    have e4 : IntKind.i64.wrap (((5 * j + 3 + 1 : Nat) : Int) + 1) = ((5 * j + 4 + 1 : Nat) : Int) := by rw [IntWalk.i64_in _ (by omega)]; omega
    have e5 : IntKind.i64.wrap (((5 * j + 4 + 1 : Nat) : Int) + 1) = 5 * ((j + 1 : Nat) : Int) + 1 := by rw [IntWalk.i64_in _ (by omega)]; omega
    have e0 : 5 * (j : Int) + 1 = ((5 * j + 0 + 1 : Nat) : Int) := by omega
    refine (T.h_ite (fun _ => ?_) (fun hc => absurd hc (by simp <;> omega)))
    refine (T.h_need (by simp <;> omega) (T.h_need (by simp <;> omega) (T.h_need (needT fun c0 => (by simp <;> omega)) (T.h_need (needT fun c0 => (by simp <;> omega)) (T.h_need (needT fun c0 => (needT fun c1 => (by simp <;> omega))) (T.h_need (needT fun c0 => (needT fun c1 => (by simp <;> omega))) (T.h_need (needT fun c0 => (needT fun c1 => (needT fun c2 => (by simp <;> omega)))) (T.h_need (needT fun c0 => (needT fun c1 => (needT fun c2 => (by simp <;> omega)))) (T.h_need (needT fun c0 => (needT fun c1 => (needT fun c2 => (needT fun c3 => (by simp <;> omega))))) (T.h_need (needT fun c0 => (needT fun c1 => (needT fun c2 => (needT fun c3 => (by simp <;> omega))))) (T.h_ite (fun hc => absurd hc (held_fl (hk3 j (by omega)) (by rw [e0]))) (fun _ => (T.h_ite (fun hc => absurd hc (held_fl (hk4 j (by omega)) (by rw [e1]))) (fun _ => (T.h_ite (fun hc => absurd hc (held_fl (hk5 j (by omega)) (by rw [e1, e2]))) (fun _ => (T.h_ite (fun hc => absurd hc (held_fl (hk6 j (by omega)) (by rw [e1, e2, e3]))) (fun _ => (T.h_ite (fun hc => absurd hc (held_fl (hk7 j (by omega)) (by rw [e1, e2, e3, e4]))) (fun _ => ?_))))))))))))))))))))
    refine T.h_leaf ?_
    rw [wrap_next (by omega)]
    rw [e1, e2, e3, e4, e5]
    exact hΨ
  · unfold heL_step
    refine (T.h_ite (fun hc => absurd hc (by simp <;> omega)) (fun _ => T.h_leaf hΨ.2))

def heL_dec (b : Mem) (f : FSt) : Option (CheL × VheL) :=
  match getSu 0 5 (findF 0 f.sl), getI (findF 5 f.sl), getI (findF 1 f.sl), id b, f.mem with
  | some (0, n_), some q_i, some q_k, [some (.cols m_ [.fl .f32 f0_, .fl .f32 f1_, .fl .f32 f2_, .fl .f32 f3_, .fl .f32 f4_])], [_] => some ({ n := n_, m := m_, f0 := f0_, f1 := f1_, f2 := f2_, f3 := f3_, f4 := f4_ }, { i := q_i, k := q_k })
  | _, _, _, _, _ => none
theorem heL_dec_ok (b : Mem) (f : FSt) (x : CheL × VheL) (h : heL_dec b f = some x) : b = x.1.base ∧ FLe b f (heL_st x.1 x.2) := by
  unfold heL_dec at h
  split at h
  · rename_i e0 e1 e2 hb hm
    cases h
    have hb : b = _ := hb
    subst hb
    refine ⟨rfl, fle_of (fun p hp => ?_) (by rw [hm]; exact trivial)⟩
    simp only [List.mem_cons, List.not_mem_nil, or_false] at hp
    rcases hp with rfl | rfl | rfl
    · exact getSu_rel e0
    · exact getI_rel e2
    · exact getI_rel e1
  · cases h
noncomputable def heL_sum : SumF Try.prog 63 heLRoot :=
  sumL (pathB heLRoot 0) heL_dec (fun x => x.1.base) (fun x => heL_st x.1 x.2) heL_R heL_dec_ok (by
    intro code hc x
    have hc2 : code = .block 0 (.loop (bodyB heLRoot 0)) := by
      have h : subR heLRoot (pathB heLRoot 0) = some (.block 0 (.loop (bodyB heLRoot 0))) := by kernel_rfl
      rw [h] at hc; cases hc; rfl
    subst hc2
    exact heL_tri x)

noncomputable def k_heldL0 : Ctr Try.prog := (mkF0 Try.prog mix [] 58 Try.f58 (bodyOf Try.f58) Try.func58 (by kernel_rfl) (by kernel_rfl) [0, 1, 4, 5, 9, 19, 29, 39, 49, 59, 198] 63 (by kernel_rfl) (by kernel_rfl) [heL_sum]).mg
noncomputable def k_heldLN : Ctr Try.prog := mkF Try.prog mix [] 58 Try.f58 (bodyOf Try.f58) Try.func58 (by kernel_rfl) (by kernel_rfl) [0, 1, 4, 5, 9, 19, 29, 39, 49, 59] 63 (by kernel_rfl) (by kernel_rfl)
def cmkLf (n : Nat) (f : Nat → Nat) (c : Nat) : Bool := decide (∀ i, i < n → f i = mkLf c i)
theorem cmkLf_mk (n c : Nat) : cmkLf n (mkLf c) c = true := decide_eq_true fun _ _ => rfl
theorem cmkLf_out {n c : Nat} {f : Nat → Nat} (h : cmkLf n f c = true) : ∀ i, i < n → f i = mkLf c i := of_decide_eq_true h
def run_heldL : List AV → Mem → T Res
  | [.one (.su 0 5 0 n false), .one (.int .i64 k)], [some (.cols m [.fl .f32 f0, .fl .f32 f1, .fl .f32 f2, .fl .f32 f3, .fl .f32 f4])] => .need (decide (k = 1)) (.need (decide (n ≤ m)) (.need (decide (n ≤ 1048576)) (.need (cmkLf n f0 0 && cmkLf n f1 1 && cmkLf n f2 2 && cmkLf n f3 3 && cmkLf n f4 4) (.leaf ((.one (.num .i64 (5 * (n : Int) + 1))), [])))))
  | _, _ => .fail
theorem heldL0_ev (n m : Nat) (f0 : Nat → Nat) (f1 : Nat → Nat) (f2 : Nat → Nat) (f3 : Nat → Nat) (f4 : Nat → Nat) : k_heldL0.run [.one (.su 0 5 0 n false), .one (.num .i64 1)] [some (.cols m [.fl .f32 f0, .fl .f32 f1, .fl .f32 f2, .fl .f32 f3, .fl .f32 f4])] =
    .need (heL_ok { n := n, m := m, f0 := f0, f1 := f1, f2 := f2, f3 := f3, f4 := f4 } { i := 0, k := 1 }) (.leaf ((.one (.num .i64 (5 * (n : Int) + 1))), [])) := by kernel_rfl
noncomputable def k_heldL : Ctr Try.prog := ((k_heldL0.re run_heldL (by
  intro args mem hfine Φ hΦ h
  unfold run_heldL at h
  split at h
  · rename_i n k m f0 f1 f2 f3 f4
    have hk : k = 1 := of_decide_eq_true h.1
    have hm : n ≤ m := of_decide_eq_true h.2.1
    have hn : n ≤ 1048576 := of_decide_eq_true h.2.2.1
    have hc := h.2.2.2.1
    have hl := h.2.2.2.2
    subst hk
    simp only [Bool.and_eq_true] at hc
    refine Exists.intro [.one (.su 0 5 0 n false), .one (.num .i64 1)] (Exists.intro _ (And.intro ?_ (And.intro (MemLe.refl _) ?_)))
    · intro ρ vals hv
      exact suargs hv
    · rw [heldL0_ev]
      refine T.h_need (decide_eq_true ⟨hm, hn, ?_, cmkLf_out hc.1.1.1.1, cmkLf_out hc.1.1.1.2, cmkLf_out hc.1.1.2, cmkLf_out hc.1.2, cmkLf_out hc.2, Int.le_refl 0, Int.natCast_nonneg n⟩) (T.h_leaf hl)
      show (1 : Int) = 5 * 0 + 1
      omega
  · exact h.elim)).su.own).pick k_heldLN (by kernel_rfl) nilArg
structure CeqrL where
  n : Nat
  m : Nat
  n2 : Nat
  m2 : Nat
  f0 : Nat → Nat
  f1 : Nat → Nat
  f2 : Nat → Nat
  f3 : Nat → Nat
  f4 : Nat → Nat
  g0 : Nat → Nat
  g1 : Nat → Nat
  g2 : Nat → Nat
  g3 : Nat → Nat
  g4 : Nat → Nat
def CeqrL.base (c : CeqrL) : Mem := [some (.cols c.m [.fl .f32 c.f0, .fl .f32 c.f1, .fl .f32 c.f2, .fl .f32 c.f3, .fl .f32 c.f4]), some (.cols c.m2 [.fl .f32 c.g0, .fl .f32 c.g1, .fl .f32 c.g2, .fl .f32 c.g3, .fl .f32 c.g4])]
structure VeqrL where
  i : Int
noncomputable abbrev eqrLRoot : Code := bodyOf Try.f33
def eqrL_st (c : CeqrL) (v : VeqrL) : FSt := ⟨[(0, .one (.su 0 5 0 c.n false)), (1, .one (.su 1 5 0 c.n2 false)), (5, .one (.num .i64 v.i))], c.base ++ []⟩
def eqrL_step (c : CeqrL) (v : VeqrL) : T (Nx VeqrL) :=
  .ite (decide (v.1 < ↑c.1)) (.need (decide (0 ≤ v.1) && decide (v.1 < ↑c.1)) (.need (decide (v.1.toNat + 0 < c.2)) (.need (decide (0 ≤ v.1) && decide (v.1 < ↑c.3)) (.need (decide (v.1.toNat + 0 < c.4)) (.need (decide (c.5 (v.1.toNat + 0) = c.10 (v.1.toNat + 0) ∧ c.6 (v.1.toNat + 0) = c.11 (v.1.toNat + 0) ∧ c.7 (v.1.toNat + 0) = c.12 (v.1.toNat + 0) ∧ c.8 (v.1.toNat + 0) = c.13 (v.1.toNat + 0) ∧ c.9 (v.1.toNat + 0) = c.14 (v.1.toNat + 0))) (.leaf (.go { i := IntKind.i64.wrap (v.1 + 1) }))))))) (.leaf (.out (EX.exit 0) ⟨[(0, AV.one (SV.su 0 5 0 c.1 false)), (1, AV.one (SV.su 1 5 0 c.3 false)), (5, AV.one (SV.num IntKind.i64 v.1))], c.base ++ []⟩))
theorem eqrL_round (c : CeqrL) (v : VeqrL) : roundF Try.prog 27 [k_eqLook] eqrLRoot [] c.base [0, 1, 4, 5, 10, 14, 26, 198] [0, 1, 5] 0 (eqrL_st c v) = (eqrL_step c v).map (nxF (eqrL_st c)) := by kernel_rfl
def eqrL_g (c : CeqrL) (j : Nat) (a : Unit) : Unit := a
def eqrL_ok (c : CeqrL) (v : VeqrL) : Bool := decide (c.n ≤ c.m ∧ c.n2 = c.n ∧ c.n ≤ c.m2 ∧ c.n ≤ 1048576 ∧ (∀ i, i < c.n → c.f0 i = c.g0 i) ∧ (∀ i, i < c.n → c.f1 i = c.g1 i) ∧ (∀ i, i < c.n → c.f2 i = c.g2 i) ∧ (∀ i, i < c.n → c.f3 i = c.g3 i) ∧ (∀ i, i < c.n → c.f4 i = c.g4 i) ∧ 0 ≤ v.i ∧ v.i ≤ ((c.n : Nat) : Int))
def eqrL_fin (c : CeqrL) (a : Unit) : FSt := eqrL_st c ({ i := (c.n : Int) })
noncomputable def eqrL_R (x : CeqrL × VeqrL) : T (EX × FSt) := .need (eqrL_ok x.1 x.2) (.leaf (.normal, eqrL_fin x.1 (iter (eqrL_g x.1) (x.1.n - x.2.i.toNat) x.2.i.toNat ())))
theorem eqrL_tri (x : CeqrL × VeqrL) : TriR Try.prog 27 x.1.base (.block 0 (.loop (bodyB eqrLRoot 0))) (eqrL_st x.1 x.2) (eqrL_R x) := by
  obtain ⟨c, v⟩ := x
  refine triR_of mix (root := eqrLRoot) (by kernel_rfl) (by kernel_rfl) [0, 1, 4, 5, 10, 14, 26, 198] [0, 1, 5] (eqrL_st c) (eqrL_step c) (eqrL_round c) v _ ((c.n - v.i.toNat) + 1) (fun Φ h => ?_)
  have h0 := h.1
  have h1 : Φ (.normal, eqrL_fin c (iter (eqrL_g c) (c.n - v.i.toNat) v.i.toNat ())) := h.2
  simp only [eqrL_ok, decide_eq_true_eq] at h0
  obtain ⟨hk0, hk1, hk2, hk3, hk4, hk5, hk6, hk7, hk8, hi0, hin⟩ := h0
  have hv : v = (fun (j : Nat) (a : Unit) => ({ i := (j : Int) } : VeqrL)) v.i.toNat () := by
    obtain ⟨i⟩ := v
    have hi0 : 0 ≤ i := hi0
    simp only [Int.toNat_of_nonneg hi0]
  have key := T_iter (eqrL_step c) (fun (j : Nat) (a : Unit) => ({ i := (j : Int) } : VeqrL)) c.n (eqrL_g c) (fun a => (.exit 0, eqrL_fin c a)) (fun j a hj Ψ hΨ => ?_) (fun a Ψ hΨ => ?_) (fun a => by simp) (c.n - v.i.toNat) v.i.toNat () (by omega) (fun r => Φ (blkEx 0 r.1, r.2)) (by simpa [blkEx] using h1)
  · exact (congrArg (fun z => (loopTree (eqrL_step c) (c.n - v.i.toNat + 1) z).holds fun r => Φ (blkEx 0 r.1, r.2)) hv).mpr key
  · unfold eqrL_step
    refine (T.h_ite (fun _ => ?_) (fun hc => absurd hc (by simp <;> omega)))
    refine (T.h_need (by simp <;> omega) (T.h_need (by simp <;> omega) (T.h_need (by simp <;> omega) (T.h_need (by simp <;> omega) (T.h_need (decide_eq_true ⟨hk4 j (by omega), hk5 j (by omega), hk6 j (by omega), hk7 j (by omega), hk8 j (by omega)⟩) ?_)))))
    refine T.h_leaf ?_
    rw [wrap_next (by omega)]
    exact hΨ
  · unfold eqrL_step
    refine (T.h_ite (fun hc => absurd hc (by simp <;> omega)) (fun _ => T.h_leaf hΨ.2))

def eqrL_dec (b : Mem) (f : FSt) : Option (CeqrL × VeqrL) :=
  match getSu 0 5 (findF 0 f.sl), getSu 1 5 (findF 1 f.sl), getI (findF 5 f.sl), id b, f.mem with
  | some (0, n_), some (0, n2_), some q_i, [some (.cols m_ [.fl .f32 f0_, .fl .f32 f1_, .fl .f32 f2_, .fl .f32 f3_, .fl .f32 f4_]), some (.cols m2_ [.fl .f32 g0_, .fl .f32 g1_, .fl .f32 g2_, .fl .f32 g3_, .fl .f32 g4_])], [_, _] => some ({ n := n_, m := m_, n2 := n2_, m2 := m2_, f0 := f0_, f1 := f1_, f2 := f2_, f3 := f3_, f4 := f4_, g0 := g0_, g1 := g1_, g2 := g2_, g3 := g3_, g4 := g4_ }, { i := q_i })
  | _, _, _, _, _ => none
theorem eqrL_dec_ok (b : Mem) (f : FSt) (x : CeqrL × VeqrL) (h : eqrL_dec b f = some x) : b = x.1.base ∧ FLe b f (eqrL_st x.1 x.2) := by
  unfold eqrL_dec at h
  split at h
  · rename_i e0 e1 e2 hb hm
    cases h
    have hb : b = _ := hb
    subst hb
    refine ⟨rfl, fle_of (fun p hp => ?_) (by rw [hm]; exact trivial)⟩
    simp only [List.mem_cons, List.not_mem_nil, or_false] at hp
    rcases hp with rfl | rfl | rfl
    · exact getSu_rel e0
    · exact getSu_rel e1
    · exact getI_rel e2
  · cases h
noncomputable def eqrL_sum : SumF Try.prog 27 eqrLRoot :=
  sumL (pathB eqrLRoot 0) eqrL_dec (fun x => x.1.base) (fun x => eqrL_st x.1 x.2) eqrL_R eqrL_dec_ok (by
    intro code hc x
    have hc2 : code = .block 0 (.loop (bodyB eqrLRoot 0)) := by
      have h : subR eqrLRoot (pathB eqrLRoot 0) = some (.block 0 (.loop (bodyB eqrLRoot 0))) := by kernel_rfl
      rw [h] at hc; cases hc; rfl
    subst hc2
    exact eqrL_tri x)

noncomputable def k_eqL0 : Ctr Try.prog := (mkF0 Try.prog mix [k_eqLook] 33 Try.f33 (bodyOf Try.f33) Try.func33 (by kernel_rfl) (by kernel_rfl) [0, 1, 4, 5, 10, 14, 26, 198] 27 (by kernel_rfl) (by kernel_rfl) [eqrL_sum]).mg
noncomputable def k_eqLN : Ctr Try.prog := mkF Try.prog mix [] 33 Try.f33 (bodyOf Try.f33) Try.func33 (by kernel_rfl) (by kernel_rfl) [0, 1, 4, 5, 10, 14, 26] 27 (by kernel_rfl) (by kernel_rfl)
def sameCLf (n : Nat) (f g : Nat → Nat) : Bool := decide (∀ i, i < n → f i = g i)
theorem sameCLf_mk (n : Nat) (f : Nat → Nat) : sameCLf n f f = true := decide_eq_true fun _ _ => rfl
theorem sameCLf_out {n : Nat} {f g : Nat → Nat} (h : sameCLf n f g = true) : ∀ i, i < n → f i = g i := of_decide_eq_true h
def run_eqL : List AV → Mem → T Res
  | [.one (.su 0 5 0 n false), .one (.su 1 5 0 n2 false)], [some (.cols m [.fl .f32 f0, .fl .f32 f1, .fl .f32 f2, .fl .f32 f3, .fl .f32 f4]), some (.cols m2 [.fl .f32 g0, .fl .f32 g1, .fl .f32 g2, .fl .f32 g3, .fl .f32 g4])] => .need (decide (n2 = n)) (.need (decide (n ≤ m)) (.need (decide (n ≤ m2)) (.need (decide (n ≤ 1048576)) (.need (sameCLf n f0 g0 && sameCLf n f1 g1 && sameCLf n f2 g2 && sameCLf n f3 g3 && sameCLf n f4 g4) (.leaf (.one (.tt true), []))))))
  | _, _ => .fail
theorem eqL0_ev (n m n2 m2 : Nat) (f0 : Nat → Nat) (f1 : Nat → Nat) (f2 : Nat → Nat) (f3 : Nat → Nat) (f4 : Nat → Nat) (g0 : Nat → Nat) (g1 : Nat → Nat) (g2 : Nat → Nat) (g3 : Nat → Nat) (g4 : Nat → Nat) : k_eqL0.run [.one (.su 0 5 0 n false), .one (.su 1 5 0 n2 false)] [some (.cols m [.fl .f32 f0, .fl .f32 f1, .fl .f32 f2, .fl .f32 f3, .fl .f32 f4]), some (.cols m2 [.fl .f32 g0, .fl .f32 g1, .fl .f32 g2, .fl .f32 g3, .fl .f32 g4])] =
    T.need (bif !decide ((n : Int) = (n2 : Int)) then true else eqrL_ok { n := n, m := m, n2 := n2, m2 := m2, f0 := f0, f1 := f1, f2 := f2, f3 := f3, f4 := f4, g0 := g0, g1 := g1, g2 := g2, g3 := g3, g4 := g4 } { i := 0 }) (T.leaf (AV.one (SV.bo !!decide ((n : Int) = (n2 : Int))), [])) := by kernel_rfl
noncomputable def k_eqL : Ctr Try.prog := ((k_eqL0.to run_eqL (by
  intro args mem _
  unfold run_eqL
  split
  · rename_i n n2 m f0 f1 f2 f3 f4 m2 g0 g1 g2 g3 g4 _
    rw [eqL0_ev]
    constructor
    intro Φ hΦ h
    have hn2 : n2 = n := of_decide_eq_true h.1
    have hm : n ≤ m := of_decide_eq_true h.2.1
    have hm2 : n ≤ m2 := of_decide_eq_true h.2.2.1
    have hn : n ≤ 1048576 := of_decide_eq_true h.2.2.2.1
    have hc := h.2.2.2.2.1
    have hl : Φ (.one (.tt true), []) := h.2.2.2.2.2
    subst hn2
    simp only [Bool.and_eq_true] at hc
    refine T.h_need (needT fun _ => decide_eq_true ⟨hm, rfl, hm2, hn, sameCLf_out hc.1.1.1.1, sameCLf_out hc.1.1.1.2, sameCLf_out hc.1.1.2, sameCLf_out hc.1.2, sameCLf_out hc.2, Int.le_refl 0, Int.natCast_nonneg _⟩) (T.h_leaf (hΦ _ _ (le2_tb ?_) hl))
    simp
  · exact Weak.fail _)).su.own).pick k_eqLN (by kernel_rfl) nilArg

end Go.Proofs.Ytilfbhlekfoloaa
