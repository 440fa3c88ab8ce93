/-
  Marks in rows, rows compared: Vector. No conditions.
-/
import Derived.Test.YtjcofjelfaoecaaRw
import Derived.Test.YtjcofjelfaoecaaBd
namespace Go.Proofs.Ytjcofjelfaoecaa
set_option linter.unusedVariables false
set_option linter.unusedSimpArgs false
open Go.RowKit

def mkVf (c : Nat) (i : Nat) :  Nat := fint .f32 ((3 * i + c + 1 : Nat) : Int)
structure CmkV where
  n : Nat
  m : Nat
def CmkV.base (c : CmkV) : Mem := [none]
structure VmkV where
  i : Int
  k : Int
  a0 : Nat → Nat
  a1 : Nat → Nat
  a2 : Nat → Nat
noncomputable abbrev mkVRoot : Code := bodyOf Try.f46
def mkV_st (c : CmkV) (v : VmkV) : FSt := ⟨[(0, .one (.su 1 3 0 c.n false)), (1, .one (.num .i64 v.k)), (5, .one (.num .i64 v.i)), (999, .tie 0 1)], c.base ++ [some (.cols c.m [.fl .f32 v.a0, .fl .f32 v.a1, .fl .f32 v.a2])]⟩
def mkV_step (c : CmkV) (v : VmkV) : T (Nx VmkV) :=
  .ite (decide (v.1 < ↑c.1)) (.need (decide (0 ≤ v.1) && decide (v.1 < ↑c.1)) (.need (decide (v.1.toNat + 0 < c.2)) (.need (decide (0 ≤ v.1) && decide (v.1 < ↑c.1)) (.need (decide (v.1.toNat + 0 < c.2)) (.need (decide (0 ≤ v.1) && decide (v.1 < ↑c.1)) (.need (decide (v.1.toNat + 0 < c.2)) (.leaf (.go { i := IntKind.i64.wrap (v.1 + 1), k := IntKind.i64.wrap (IntKind.i64.wrap (IntKind.i64.wrap (v.2 + 1) + 1) + 1), a0 := fun q => if q = v.i.toNat + 0 then fint FloatKind.f32 v.k else v.a0 q, a1 := fun q => if q = v.i.toNat + 0 then fint FloatKind.f32 (IntKind.i64.wrap (v.k + 1)) else v.a1 q, a2 := fun q => if q = v.i.toNat + 0 then fint FloatKind.f32 (IntKind.i64.wrap (IntKind.i64.wrap (v.k + 1) + 1)) else v.a2 q })))))))) (.leaf (.out (EX.exit 0) ⟨[(0, AV.one (SV.su 1 3 0 c.1 false)), (1, AV.one (SV.num IntKind.i64 v.2)), (5, AV.one (SV.num IntKind.i64 v.1)), (999, AV.tie 0 1)], c.base ++ [some (.cols c.m [.fl .f32 v.a0, .fl .f32 v.a1, .fl .f32 v.a2])]⟩))
theorem mkV_round (c : CmkV) (v : VmkV) : roundF Try.prog 37 [] mkVRoot [] c.base [0, 1, 4, 5, 9, 198, 999] [0, 1, 5, 999] 0 (mkV_st c v) = (mkV_step c v).map (nxF (mkV_st c)) := by kernel_rfl
def mkV_g (c : CmkV) (j : Nat) (a : (Nat → Nat) × (Nat → Nat) × (Nat → Nat)) : (Nat → Nat) × (Nat → Nat) × (Nat → Nat) := (fun q => if q = j then mkVf 0 j else a.1 q, fun q => if q = j then mkVf 1 j else a.2.1 q, fun q => if q = j then mkVf 2 j else a.2.2 q)
def mkV_ok (c : CmkV) (v : VmkV) : Bool := decide (c.n ≤ c.m ∧ c.n ≤ 1048576 ∧ v.k = 3 * v.i + 1 ∧ 0 ≤ v.i ∧ v.i ≤ ((c.n : Nat) : Int))
def mkV_fin (c : CmkV) (a : (Nat → Nat) × (Nat → Nat) × (Nat → Nat)) : FSt := mkV_st c ({ i := (c.n : Int), k := 3 * (c.n : Int) + 1, a0 := a.1, a1 := a.2.1, a2 := a.2.2 })
noncomputable def mkV_R (x : CmkV × VmkV) : T (EX × FSt) := .need (mkV_ok x.1 x.2) (.leaf (.normal, mkV_fin x.1 (iter (mkV_g x.1) (x.1.n - x.2.i.toNat) x.2.i.toNat (x.2.a0, x.2.a1, x.2.a2))))
theorem mkV_tri (x : CmkV × VmkV) : TriR Try.prog 37 x.1.base (.block 0 (.loop (bodyB mkVRoot 0))) (mkV_st x.1 x.2) (mkV_R x) := by
  obtain ⟨c, v⟩ := x
  refine triR_of mix (root := mkVRoot) (by kernel_rfl) (by kernel_rfl) [0, 1, 4, 5, 9, 198, 999] [0, 1, 5, 999] (mkV_st c) (mkV_step c) (mkV_round c) v _ ((c.n - v.i.toNat) + 1) (fun Φ h => ?_)
  have h0 := h.1
  have h1 : Φ (.normal, mkV_fin c (iter (mkV_g c) (c.n - v.i.toNat) v.i.toNat (v.a0, v.a1, v.a2))) := h.2
  simp only [mkV_ok, decide_eq_true_eq] at h0
  obtain ⟨hk0, hk1, hk2, hi0, hin⟩ := h0
  have hv : v = (fun (j : Nat) (a : (Nat → Nat) × (Nat → Nat) × (Nat → Nat)) => ({ i := (j : Int), k := 3 * (j : Int) + 1, a0 := a.1, a1 := a.2.1, a2 := a.2.2 } : VmkV)) v.i.toNat (v.a0, v.a1, v.a2) := by
    obtain ⟨i, k, a0, a1, a2⟩ := v
    have hi0 : 0 ≤ i := hi0
    have hk2 : k = 3 * i + 1 := hk2
    subst hk2
    simp only [Int.toNat_of_nonneg hi0]
  have key := T_iter (mkV_step c) (fun (j : Nat) (a : (Nat → Nat) × (Nat → Nat) × (Nat → Nat)) => ({ i := (j : Int), k := 3 * (j : Int) + 1, a0 := a.1, a1 := a.2.1, a2 := a.2.2 } : VmkV)) c.n (mkV_g c) (fun a => (.exit 0, mkV_fin c a)) (fun j a hj Ψ hΨ => ?_) (fun a Ψ hΨ => ?_) (fun a => by simp) (c.n - v.i.toNat) v.i.toNat (v.a0, v.a1, v.a2) (by omega) (fun r => Φ (blkEx 0 r.1, r.2)) (by simpa [blkEx] using h1)
  · exact (congrArg (fun z => (loopTree (mkV_step c) (c.n - v.i.toNat + 1) z).holds fun r => Φ (blkEx 0 r.1, r.2)) hv).mpr key
  · unfold mkV_step
    refine (T.h_ite (fun _ => ?_) (fun hc => absurd hc (by simp <;> omega)))
    refine (T.h_need (by simp <;> omega) (T.h_need (by simp <;> omega) (T.h_need (by simp <;> omega) (T.h_need (by simp <;> omega) (T.h_need (by simp <;> omega) (T.h_need (by simp <;> omega) ?_))))))
    refine T.h_leaf ?_
    rw [wrap_next (by omega)]
    have e1 : IntKind.i64.wrap (3 * (j : Int) + 1 + 1) = ((3 * j + 1 + 1 : Nat) : Int) := by rw [IntWalk.i64_in _ (by omega)]; omega
    have e2 : IntKind.i64.wrap (((3 * j + 1 + 1 : Nat) : Int) + 1) = ((3 * j + 2 + 1 : Nat) : Int) := by rw [IntWalk.i64_in _ (by omega)]; omega
    have e3 : IntKind.i64.wrap (((3 * j + 2 + 1 : Nat) : Int) + 1) = 3 * ((j + 1 : Nat) : Int) + 1 := by rw [IntWalk.i64_in _ (by omega)]; omega
    have e0 : 3 * (j : Int) + 1 = ((3 * j + 0 + 1 : Nat) : Int) := by omega
    rw [e1, e2, e3, e0]
    exact hΨ
  · unfold mkV_step
    refine (T.h_ite (fun hc => absurd hc (by simp <;> omega)) (fun _ => T.h_leaf hΨ.2))

def mkV_dec (b : Mem) (f : FSt) : Option (CmkV × VmkV) :=
  match getSu 1 3 (findF 0 f.sl), getTie (findF 999 f.sl), getI (findF 5 f.sl), getI (findF 1 f.sl), id b, f.mem with
  | some (0, n_), some (), some q_i, some q_k, [none], [_, some (.cols m_ [.fl .f32 q_a0, .fl .f32 q_a1, .fl .f32 q_a2])] => some ({ n := n_, m := m_ }, { i := q_i, k := q_k, a0 := q_a0, a1 := q_a1, a2 := q_a2 })
  | _, _, _, _, _, _ => none
theorem mkV_dec_ok (b : Mem) (f : FSt) (x : CmkV × VmkV) (h : mkV_dec b f = some x) : b = x.1.base ∧ FLe b f (mkV_st x.1 x.2) := by
  unfold mkV_dec at h
  split at h
  · rename_i e0 e1 e2 e3 hb hm
    cases h
    have hb : b = _ := hb
    subst hb
    refine ⟨rfl, fle_of (fun p hp => ?_) (by rw [hm]; exact memLe_refl _)⟩
    simp only [List.mem_cons, List.not_mem_nil, or_false] at hp
    rcases hp with rfl | rfl | rfl | rfl
    · exact getSu_rel e0
    · exact getI_rel e3
    · exact getI_rel e2
    · exact getTie_rel e1
  · cases h
noncomputable def mkV_sum : SumF Try.prog 37 mkVRoot :=
  sumL (pathB mkVRoot 0) mkV_dec (fun x => x.1.base) (fun x => mkV_st x.1 x.2) mkV_R mkV_dec_ok (by
    intro code hc x
    have hc2 : code = .block 0 (.loop (bodyB mkVRoot 0)) := by
      have h : subR mkVRoot (pathB mkVRoot 0) = some (.block 0 (.loop (bodyB mkVRoot 0))) := by kernel_rfl
      rw [h] at hc; cases hc; rfl
    subst hc2
    exact mkV_tri x)

noncomputable def w_mkV0 : Wr Try.prog 46 := mkW Try.prog mix [] 46 Try.f46 (bodyOf Try.f46) Try.func46 (by kernel_rfl) (by kernel_rfl) [0, 1, 4, 5, 9, 198, 999] 37 (by kernel_rfl) (by kernel_rfl) [mkV_sum]
theorem mkV_fill (n m : Nat) (a : (Nat → Nat) × (Nat → Nat) × (Nat → Nat)) (i : Nat) (hi : i < n) : (iter (mkV_g { n := n, m := m }) n 0 a).1 i = mkVf 0 i ∧ (iter (mkV_g { n := n, m := m }) n 0 a).2.1 i = mkVf 1 i ∧ (iter (mkV_g { n := n, m := m }) n 0 a).2.2 i = mkVf 2 i :=
  ⟨fillG (mkV_g { n := n, m := m }) (fun a => a.1) (mkVf 0) (fun j a q h => if_neg h) (fun j a => if_pos rfl) n 0 a i (Nat.zero_le i) (by omega),
   fillG (mkV_g { n := n, m := m }) (fun a => a.2.1) (mkVf 1) (fun j a q h => if_neg h) (fun j a => if_pos rfl) n 0 a i (Nat.zero_le i) (by omega),
   fillG (mkV_g { n := n, m := m }) (fun a => a.2.2) (mkVf 2) (fun j a q h => if_neg h) (fun j a => if_pos rfl) n 0 a i (Nat.zero_le i) (by omega)⟩
def run_markV : List AV → Blk → T (AV × Blk)
  | [.one (.sl 1 3 0 n cap kn), .one (.int .i64 k)], .cols m [.fl .f32 f0, .fl .f32 f1, .fl .f32 f2] => .need (decide (n ≤ cap)) (.need (decide (n ≤ m)) (.need (decide (n ≤ 1048576)) (.need (decide (k = 1)) (.leaf ((.one (.num .i64 (3 * (n : Int) + 1))), .cols n [.fl .f32 (mkVf 0), .fl .f32 (mkVf 1), .fl .f32 (mkVf 2)])))))
  | [.one (.su 1 3 0 n kn), .one (.int .i64 k)], .cols m [.fl .f32 f0, .fl .f32 f1, .fl .f32 f2] => .need (decide (n ≤ m)) (.need (decide (n ≤ 1048576)) (.need (decide (k = 1)) (.leaf ((.one (.num .i64 (3 * (n : Int) + 1))), .cols n [.fl .f32 (mkVf 0), .fl .f32 (mkVf 1), .fl .f32 (mkVf 2)]))))
  | _, _ => .fail
theorem w_mkV0_ev (n m : Nat) (f0 : Nat → Nat) (f1 : Nat → Nat) (f2 : Nat → Nat) : w_mkV0.run [.one (.su 1 3 0 n false), .one (.num .i64 1)] (.cols m [.fl .f32 f0, .fl .f32 f1, .fl .f32 f2]) =
    .need (mkV_ok { n := n, m := m } { i := 0, k := 1, a0 := f0, a1 := f1, a2 := f2 }) (.leaf ((.one (.num .i64 (3 * (n : Int) + 1))), .cols m [.fl .f32 (iter (mkV_g { n := n, m := m }) n 0 (f0, f1, f2)).1, .fl .f32 (iter (mkV_g { n := n, m := m }) n 0 (f0, f1, f2)).2.1, .fl .f32 (iter (mkV_g { n := n, m := m }) n 0 (f0, f1, f2)).2.2])) := by kernel_rfl
theorem w_mkV_in (n m : Nat) (f0 : Nat → Nat) (f1 : Nat → Nat) (f2 : Nat → Nat) (hm : n ≤ m) (hn : n ≤ 1048576) (Φ : AV × Blk → Prop) (hΦ : ∀ r s : AV × Blk, (∀ ρ v, r.1.rel ρ v → s.1.rel ρ v) → BlLe r.2 s.2 → Φ s → Φ r) (h : Φ ((.one (.num .i64 (3 * (n : Int) + 1))), .cols n [.fl .f32 (mkVf 0), .fl .f32 (mkVf 1), .fl .f32 (mkVf 2)])) :
    (w_mkV0.run [.one (.su 1 3 0 n false), .one (.num .i64 1)] (.cols m [.fl .f32 f0, .fl .f32 f1, .fl .f32 f2])).holds Φ := by
  rw [w_mkV0_ev]
  have hbl : BlLe (.cols n [.fl .f32 (iter (mkV_g { n := n, m := m }) n 0 (f0, f1, f2)).1, .fl .f32 (iter (mkV_g { n := n, m := m }) n 0 (f0, f1, f2)).2.1, .fl .f32 (iter (mkV_g { n := n, m := m }) n 0 (f0, f1, f2)).2.2]) (.cols n [.fl .f32 (mkVf 0), .fl .f32 (mkVf 1), .fl .f32 (mkVf 2)]) := by
    refine BlLe.cols_eq (fun i hi => ?_) (by simp only [List.length_cons, List.length_nil])
    obtain ⟨h0, h1, h2⟩ := mkV_fill n m (f0, f1, f2) i hi
    simp only [colsAt, Col.at, h0, h1, h2]
  have hbl2 : BlLe (.cols m [.fl .f32 (iter (mkV_g { n := n, m := m }) n 0 (f0, f1, f2)).1, .fl .f32 (iter (mkV_g { n := n, m := m }) n 0 (f0, f1, f2)).2.1, .fl .f32 (iter (mkV_g { n := n, m := m }) n 0 (f0, f1, f2)).2.2]) (.cols n [.fl .f32 (iter (mkV_g { n := n, m := m }) n 0 (f0, f1, f2)).1, .fl .f32 (iter (mkV_g { n := n, m := m }) n 0 (f0, f1, f2)).2.1, .fl .f32 (iter (mkV_g { n := n, m := m }) n 0 (f0, f1, f2)).2.2]) := BlLe.cols_le hm
  have hok : mkV_ok { n := n, m := m } { i := 0, k := 1, a0 := f0, a1 := f1, a2 := f2 } = true := by
    unfold mkV_ok
    refine decide_eq_true ⟨hm, hn, ?_, Int.le_refl 0, Int.natCast_nonneg n⟩
    show (1 : Int) = 3 * 0 + 1
    omega
  exact T.h_need hok (T.h_leaf (hΦ _ ((.one (.num .i64 (3 * (n : Int) + 1))), .cols n [.fl .f32 (mkVf 0), .fl .f32 (mkVf 1), .fl .f32 (mkVf 2)]) (fun _ _ hv => hv) (fun ρ w b o hb => hbl ρ w b o (hbl2 ρ w b o hb)) h))
set_option maxHeartbeats 4000000 in
noncomputable def w_markV : Wr Try.prog 46 := w_mkV0.re run_markV (by
  intro args C Φ hΦ h
  unfold run_markV at h
  split at h
  · rename_i n cap kn k m f0 f1 f2
    have hk : k = 1 := of_decide_eq_true h.2.2.2.1
    have h0 : n ≤ cap := of_decide_eq_true h.1
    subst hk
    have hm : n ≤ m := of_decide_eq_true h.2.1
    have hn : n ≤ 1048576 := of_decide_eq_true h.2.2.1
    have hl : Φ ((.one (.num .i64 (3 * (n : Int) + 1))), .cols n [.fl .f32 (mkVf 0), .fl .f32 (mkVf 1), .fl .f32 (mkVf 2)]) := h.2.2.2.2
    have key := w_mkV_in n m f0 f1 f2 hm hn Φ hΦ hl
    refine Exists.intro [.one (.su 1 3 0 n false), .one (.num .i64 1)] (And.intro ?_ ?_)
    · intro ρ vals hv
      exact slargs h0 hv
    · exact key
  · rename_i n kn k m f0 f1 f2
    have hk : k = 1 := of_decide_eq_true h.2.2.1
    subst hk
    have hm : n ≤ m := of_decide_eq_true h.1
    have hn : n ≤ 1048576 := of_decide_eq_true h.2.1
    have hl : Φ ((.one (.num .i64 (3 * (n : Int) + 1))), .cols n [.fl .f32 (mkVf 0), .fl .f32 (mkVf 1), .fl .f32 (mkVf 2)]) := h.2.2.2
    have key := w_mkV_in n m f0 f1 f2 hm hn Φ hΦ hl
    refine Exists.intro [.one (.su 1 3 0 n false), .one (.num .i64 1)] (And.intro ?_ ?_)
    · intro ρ vals hv
      exact suargs hv
    · exact key
  · exact h.elim)
noncomputable def k_markVN : Ctr Try.prog := mkF Try.prog mix [] 46 Try.f46 (bodyOf Try.f46) Try.func46 (by kernel_rfl) (by kernel_rfl) [0, 1, 4, 5, 9] 37 (by kernel_rfl) (by kernel_rfl)
noncomputable def k_markV : Ctr Try.prog := k_markVN.withW w_markV
structure CheV where
  n : Nat
  m : Nat
  f0 : Nat → Nat
  f1 : Nat → Nat
  f2 : Nat → Nat
def CheV.base (c : CheV) : Mem := [some (.cols c.m [.fl .f32 c.f0, .fl .f32 c.f1, .fl .f32 c.f2])]
structure VheV where
  i : Int
  k : Int
noncomputable abbrev heVRoot : Code := bodyOf Try.f47
def heV_st (c : CheV) (v : VheV) : FSt := ⟨[(0, .one (.su 0 3 0 c.n false)), (1, .one (.num .i64 v.k)), (5, .one (.num .i64 v.i))], c.base ++ []⟩
def heV_step (c : CheV) (v : VheV) : T (Nx VheV) :=
  .ite (decide (v.1 < ↑c.1)) (.need (decide (0 ≤ v.1) && decide (v.1 < ↑c.1)) (.need (decide (v.1.toNat + 0 < c.2)) (.need (bif !feq FloatKind.f32 (c.3 (v.1.toNat + 0)) (fint FloatKind.f32 v.2) then true else decide (0 ≤ v.1) && decide (v.1 < ↑c.1)) (.need (bif !feq FloatKind.f32 (c.3 (v.1.toNat + 0)) (fint FloatKind.f32 v.2) then true else decide (v.1.toNat + 0 < c.2)) (.need (bif !feq FloatKind.f32 (c.3 (v.1.toNat + 0)) (fint FloatKind.f32 v.2) then true else bif !feq FloatKind.f32 (c.4 (v.1.toNat + 0)) (fint FloatKind.f32 (IntKind.i64.wrap (v.2 + 1))) then true else decide (0 ≤ v.1) && decide (v.1 < ↑c.1)) (.need (bif !feq FloatKind.f32 (c.3 (v.1.toNat + 0)) (fint FloatKind.f32 v.2) then true else bif !feq FloatKind.f32 (c.4 (v.1.toNat + 0)) (fint FloatKind.f32 (IntKind.i64.wrap (v.2 + 1))) then true else decide (v.1.toNat + 0 < c.2)) (.ite (!feq FloatKind.f32 (c.3 (v.1.toNat + 0)) (fint FloatKind.f32 v.2)) (.leaf (.out (EX.ret) ⟨[(0, AV.one (SV.su 0 3 0 c.1 false)), (1, AV.one (SV.num IntKind.i64 v.2)), (5, AV.one (SV.num IntKind.i64 v.1))], c.base ++ []⟩)) (.ite (!feq FloatKind.f32 (c.4 (v.1.toNat + 0)) (fint FloatKind.f32 (IntKind.i64.wrap (v.2 + 1)))) (.leaf (.out (EX.ret) ⟨[(0, AV.one (SV.su 0 3 0 c.1 false)), (1, AV.one (SV.num IntKind.i64 (IntKind.i64.wrap (v.2 + 1)))), (5, AV.one (SV.num IntKind.i64 v.1))], c.base ++ []⟩)) (.ite (!feq FloatKind.f32 (c.5 (v.1.toNat + 0)) (fint FloatKind.f32 (IntKind.i64.wrap (IntKind.i64.wrap (v.2 + 1) + 1)))) (.leaf (.out (EX.ret) ⟨[(0, AV.one (SV.su 0 3 0 c.1 false)), (1, AV.one (SV.num IntKind.i64 (IntKind.i64.wrap (IntKind.i64.wrap (v.2 + 1) + 1)))), (5, AV.one (SV.num IntKind.i64 v.1))], c.base ++ []⟩)) (.leaf (.go { i := IntKind.i64.wrap (v.1 + 1), k := IntKind.i64.wrap (IntKind.i64.wrap (IntKind.i64.wrap (v.2 + 1) + 1) + 1) }))))))))))) (.leaf (.out (EX.exit 0) ⟨[(0, AV.one (SV.su 0 3 0 c.1 false)), (1, AV.one (SV.num IntKind.i64 v.2)), (5, AV.one (SV.num IntKind.i64 v.1))], c.base ++ []⟩))
theorem heV_round (c : CheV) (v : VheV) : roundF Try.prog 43 [] heVRoot [] c.base [0, 1, 4, 5, 9, 19, 29, 39, 198] [0, 1, 5] 0 (heV_st c v) = (heV_step c v).map (nxF (heV_st c)) := by kernel_rfl
def heV_g (c : CheV) (j : Nat) (a : Unit) : Unit := a
def heV_ok (c : CheV) (v : VheV) : Bool := decide (c.n ≤ c.m ∧ c.n ≤ 1048576 ∧ v.k = 3 * v.i + 1 ∧ (∀ i, i < c.n → c.f0 i = mkVf 0 i) ∧ (∀ i, i < c.n → c.f1 i = mkVf 1 i) ∧ (∀ i, i < c.n → c.f2 i = mkVf 2 i) ∧ 0 ≤ v.i ∧ v.i ≤ ((c.n : Nat) : Int))
def heV_fin (c : CheV) (a : Unit) : FSt := heV_st c ({ i := (c.n : Int), k := 3 * (c.n : Int) + 1 })
noncomputable def heV_R (x : CheV × VheV) : T (EX × FSt) := .need (heV_ok x.1 x.2) (.leaf (.normal, heV_fin x.1 (iter (heV_g x.1) (x.1.n - x.2.i.toNat) x.2.i.toNat ())))
theorem heV_tri (x : CheV × VheV) : TriR Try.prog 43 x.1.base (.block 0 (.loop (bodyB heVRoot 0))) (heV_st x.1 x.2) (heV_R x) := by
  obtain ⟨c, v⟩ := x
  refine triR_of mix (root := heVRoot) (by kernel_rfl) (by kernel_rfl) [0, 1, 4, 5, 9, 19, 29, 39, 198] [0, 1, 5] (heV_st c) (heV_step c) (heV_round c) v _ ((c.n - v.i.toNat) + 1) (fun Φ h => ?_)
  have h0 := h.1
  have h1 : Φ (.normal, heV_fin c (iter (heV_g c) (c.n - v.i.toNat) v.i.toNat ())) := h.2
  simp only [heV_ok, decide_eq_true_eq] at h0
  obtain ⟨hk0, hk1, hk2, hk3, hk4, hk5, hi0, hin⟩ := h0
  have hv : v = (fun (j : Nat) (a : Unit) => ({ i := (j : Int), k := 3 * (j : Int) + 1 } : VheV)) v.i.toNat () := by
    obtain ⟨i, k⟩ := v
    have hi0 : 0 ≤ i := hi0
    have hk2 : k = 3 * i + 1 := hk2
    subst hk2
    simp only [Int.toNat_of_nonneg hi0]
  have key := T_iter (heV_step c) (fun (j : Nat) (a : Unit) => ({ i := (j : Int), k := 3 * (j : Int) + 1 } : VheV)) c.n (heV_g c) (fun a => (.exit 0, heV_fin c a)) (fun j a hj Ψ hΨ => ?_) (fun a Ψ hΨ => ?_) (fun a => by simp) (c.n - v.i.toNat) v.i.toNat () (by omega) (fun r => Φ (blkEx 0 r.1, r.2)) (by simpa [blkEx] using h1)
  · exact (congrArg (fun z => (loopTree (heV_step c) (c.n - v.i.toNat + 1) z).holds fun r => Φ (blkEx 0 r.1, r.2)) hv).mpr key
  · unfold heV_step
    have e1 : IntKind.i64.wrap (3 * (j : Int) + 1 + 1) = ((3 * j + 1 + 1 : Nat) : Int) := by rw [IntWalk.i64_in _ (by omega)]; omega
    have e2 : IntKind.i64.wrap (((3 * j + 1 + 1 : Nat) : Int) + 1) = ((3 * j + 2 + 1 : Nat) : Int) := by rw [IntWalk.i64_in _ (by omega)]; omega
    have e3 : IntKind.i64.wrap (((3 * j + 2 + 1 : Nat) : Int) + 1) = 3 * ((j + 1 : Nat) : Int) + 1 := by rw [IntWalk.i64_in _ (by omega)]; omega
    have e0 : 3 * (j : Int) + 1 = ((3 * j + 0 + 1 : Nat) : Int) := by omega
    refine (T.h_ite (fun _ => ?_) (fun hc => absurd hc (by simp <;> omega)))
    refine (T.h_need (by simp <;> omega) (T.h_need (by simp <;> omega) (T.h_need (needT fun c0 => (by simp <;> omega)) (T.h_need (needT fun c0 => (by simp <;> omega)) (T.h_need (needT fun c0 => (needT fun c1 => (by simp <;> omega))) (T.h_need (needT fun c0 => (needT fun c1 => (by simp <;> omega))) (T.h_ite (fun hc => absurd hc (held_fl (hk3 j (by omega)) (by rw [e0]))) (fun _ => (T.h_ite (fun hc => absurd hc (held_fl (hk4 j (by omega)) (by rw [e1]))) (fun _ => (T.h_ite (fun hc => absurd hc (held_fl (hk5 j (by omega)) (by rw [e1, e2]))) (fun _ => ?_))))))))))))
    refine T.h_leaf ?_
    rw [wrap_next (by omega)]
    rw [e1, e2, e3]
    exact hΨ
  · unfold heV_step
    refine (T.h_ite (fun hc => absurd hc (by simp <;> omega)) (fun _ => T.h_leaf hΨ.2))

def heV_dec (b : Mem) (f : FSt) : Option (CheV × VheV) :=
  match getSu 0 3 (findF 0 f.sl), getI (findF 5 f.sl), getI (findF 1 f.sl), id b, f.mem with
  | some (0, n_), some q_i, some q_k, [some (.cols m_ [.fl .f32 f0_, .fl .f32 f1_, .fl .f32 f2_])], [_] => some ({ n := n_, m := m_, f0 := f0_, f1 := f1_, f2 := f2_ }, { i := q_i, k := q_k })
  | _, _, _, _, _ => none
theorem heV_dec_ok (b : Mem) (f : FSt) (x : CheV × VheV) (h : heV_dec b f = some x) : b = x.1.base ∧ FLe b f (heV_st x.1 x.2) := by
  unfold heV_dec at h
  split at h
  · rename_i e0 e1 e2 hb hm
    cases h
    have hb : b = _ := hb
    subst hb
    refine ⟨rfl, fle_of (fun p hp => ?_) (by rw [hm]; exact trivial)⟩
    simp only [List.mem_cons, List.not_mem_nil, or_false] at hp
    rcases hp with rfl | rfl | rfl
    · exact getSu_rel e0
    · exact getI_rel e2
    · exact getI_rel e1
  · cases h
noncomputable def heV_sum : SumF Try.prog 43 heVRoot :=
  sumL (pathB heVRoot 0) heV_dec (fun x => x.1.base) (fun x => heV_st x.1 x.2) heV_R heV_dec_ok (by
    intro code hc x
    have hc2 : code = .block 0 (.loop (bodyB heVRoot 0)) := by
      have h : subR heVRoot (pathB heVRoot 0) = some (.block 0 (.loop (bodyB heVRoot 0))) := by kernel_rfl
      rw [h] at hc; cases hc; rfl
    subst hc2
    exact heV_tri x)

noncomputable def k_heldV0 : Ctr Try.prog := (mkF0 Try.prog mix [] 47 Try.f47 (bodyOf Try.f47) Try.func47 (by kernel_rfl) (by kernel_rfl) [0, 1, 4, 5, 9, 19, 29, 39, 198] 43 (by kernel_rfl) (by kernel_rfl) [heV_sum]).mg
noncomputable def k_heldVN : Ctr Try.prog := mkF Try.prog mix [] 47 Try.f47 (bodyOf Try.f47) Try.func47 (by kernel_rfl) (by kernel_rfl) [0, 1, 4, 5, 9, 19, 29, 39] 43 (by kernel_rfl) (by kernel_rfl)
def cmkVf (n : Nat) (f : Nat → Nat) (c : Nat) : Bool := decide (∀ i, i < n → f i = mkVf c i)
theorem cmkVf_mk (n c : Nat) : cmkVf n (mkVf c) c = true := decide_eq_true fun _ _ => rfl
theorem cmkVf_out {n c : Nat} {f : Nat → Nat} (h : cmkVf n f c = true) : ∀ i, i < n → f i = mkVf c i := of_decide_eq_true h
def run_heldV : List AV → Mem → T Res
  | [.one (.su 0 3 0 n false), .one (.int .i64 k)], [some (.cols m [.fl .f32 f0, .fl .f32 f1, .fl .f32 f2])] => .need (decide (k = 1)) (.need (decide (n ≤ m)) (.need (decide (n ≤ 1048576)) (.need (cmkVf n f0 0 && cmkVf n f1 1 && cmkVf n f2 2) (.leaf ((.one (.num .i64 (3 * (n : Int) + 1))), [])))))
  | _, _ => .fail
theorem heldV0_ev (n m : Nat) (f0 : Nat → Nat) (f1 : Nat → Nat) (f2 : Nat → Nat) : k_heldV0.run [.one (.su 0 3 0 n false), .one (.num .i64 1)] [some (.cols m [.fl .f32 f0, .fl .f32 f1, .fl .f32 f2])] =
    .need (heV_ok { n := n, m := m, f0 := f0, f1 := f1, f2 := f2 } { i := 0, k := 1 }) (.leaf ((.one (.num .i64 (3 * (n : Int) + 1))), [])) := by kernel_rfl
noncomputable def k_heldV : Ctr Try.prog := ((k_heldV0.re run_heldV (by
  intro args mem hfine Φ hΦ h
  unfold run_heldV at h
  split at h
  · rename_i n k m f0 f1 f2
    have hk : k = 1 := of_decide_eq_true h.1
    have hm : n ≤ m := of_decide_eq_true h.2.1
    have hn : n ≤ 1048576 := of_decide_eq_true h.2.2.1
    have hc := h.2.2.2.1
    have hl := h.2.2.2.2
    subst hk
    simp only [Bool.and_eq_true] at hc
    refine Exists.intro [.one (.su 0 3 0 n false), .one (.num .i64 1)] (Exists.intro _ (And.intro ?_ (And.intro (MemLe.refl _) ?_)))
    · intro ρ vals hv
      exact suargs hv
    · rw [heldV0_ev]
      refine T.h_need (decide_eq_true ⟨hm, hn, ?_, cmkVf_out hc.1.1, cmkVf_out hc.1.2, cmkVf_out hc.2, Int.le_refl 0, Int.natCast_nonneg n⟩) (T.h_leaf hl)
      show (1 : Int) = 3 * 0 + 1
      omega
  · exact h.elim)).su.own).pick k_heldVN (by kernel_rfl) nilArg
structure CeqrV where
  n : Nat
  m : Nat
  n2 : Nat
  m2 : Nat
  f0 : Nat → Nat
  f1 : Nat → Nat
  f2 : Nat → Nat
  g0 : Nat → Nat
  g1 : Nat → Nat
  g2 : Nat → Nat
def CeqrV.base (c : CeqrV) : Mem := [some (.cols c.m [.fl .f32 c.f0, .fl .f32 c.f1, .fl .f32 c.f2]), some (.cols c.m2 [.fl .f32 c.g0, .fl .f32 c.g1, .fl .f32 c.g2])]
structure VeqrV where
  i : Int
noncomputable abbrev eqrVRoot : Code := bodyOf Try.f45
def eqrV_st (c : CeqrV) (v : VeqrV) : FSt := ⟨[(0, .one (.su 0 3 0 c.n false)), (1, .one (.su 1 3 0 c.n2 false)), (5, .one (.num .i64 v.i))], c.base ++ []⟩
def eqrV_step (c : CeqrV) (v : VeqrV) : T (Nx VeqrV) :=
  .ite (decide (v.1 < ↑c.1)) (.need (decide (0 ≤ v.1) && decide (v.1 < ↑c.1)) (.need (decide (v.1.toNat + 0 < c.2)) (.need (decide (0 ≤ v.1) && decide (v.1 < ↑c.3)) (.need (decide (v.1.toNat + 0 < c.4)) (.need (decide (c.5 (v.1.toNat + 0) = c.8 (v.1.toNat + 0) ∧ c.6 (v.1.toNat + 0) = c.9 (v.1.toNat + 0) ∧ c.7 (v.1.toNat + 0) = c.10 (v.1.toNat + 0))) (.leaf (.go { i := IntKind.i64.wrap (v.1 + 1) }))))))) (.leaf (.out (EX.exit 0) ⟨[(0, AV.one (SV.su 0 3 0 c.1 false)), (1, AV.one (SV.su 1 3 0 c.3 false)), (5, AV.one (SV.num IntKind.i64 v.1))], c.base ++ []⟩))
theorem eqrV_round (c : CeqrV) (v : VeqrV) : roundF Try.prog 27 [k_eqVector] eqrVRoot [] c.base [0, 1, 4, 5, 10, 14, 26, 198] [0, 1, 5] 0 (eqrV_st c v) = (eqrV_step c v).map (nxF (eqrV_st c)) := by kernel_rfl
def eqrV_g (c : CeqrV) (j : Nat) (a : Unit) : Unit := a
def eqrV_ok (c : CeqrV) (v : VeqrV) : Bool := decide (c.n ≤ c.m ∧ c.n2 = c.n ∧ c.n ≤ c.m2 ∧ c.n ≤ 1048576 ∧ (∀ i, i < c.n → c.f0 i = c.g0 i) ∧ (∀ i, i < c.n → c.f1 i = c.g1 i) ∧ (∀ i, i < c.n → c.f2 i = c.g2 i) ∧ 0 ≤ v.i ∧ v.i ≤ ((c.n : Nat) : Int))
def eqrV_fin (c : CeqrV) (a : Unit) : FSt := eqrV_st c ({ i := (c.n : Int) })
noncomputable def eqrV_R (x : CeqrV × VeqrV) : T (EX × FSt) := .need (eqrV_ok x.1 x.2) (.leaf (.normal, eqrV_fin x.1 (iter (eqrV_g x.1) (x.1.n - x.2.i.toNat) x.2.i.toNat ())))
theorem eqrV_tri (x : CeqrV × VeqrV) : TriR Try.prog 27 x.1.base (.block 0 (.loop (bodyB eqrVRoot 0))) (eqrV_st x.1 x.2) (eqrV_R x) := by
  obtain ⟨c, v⟩ := x
  refine triR_of mix (root := eqrVRoot) (by kernel_rfl) (by kernel_rfl) [0, 1, 4, 5, 10, 14, 26, 198] [0, 1, 5] (eqrV_st c) (eqrV_step c) (eqrV_round c) v _ ((c.n - v.i.toNat) + 1) (fun Φ h => ?_)
  have h0 := h.1
  have h1 : Φ (.normal, eqrV_fin c (iter (eqrV_g c) (c.n - v.i.toNat) v.i.toNat ())) := h.2
  simp only [eqrV_ok, decide_eq_true_eq] at h0
  obtain ⟨hk0, hk1, hk2, hk3, hk4, hk5, hk6, hi0, hin⟩ := h0
  have hv : v = (fun (j : Nat) (a : Unit) => ({ i := (j : Int) } : VeqrV)) v.i.toNat () := by
    obtain ⟨i⟩ := v
    have hi0 : 0 ≤ i := hi0
    simp only [Int.toNat_of_nonneg hi0]
  have key := T_iter (eqrV_step c) (fun (j : Nat) (a : Unit) => ({ i := (j : Int) } : VeqrV)) c.n (eqrV_g c) (fun a => (.exit 0, eqrV_fin c a)) (fun j a hj Ψ hΨ => ?_) (fun a Ψ hΨ => ?_) (fun a => by simp) (c.n - v.i.toNat) v.i.toNat () (by omega) (fun r => Φ (blkEx 0 r.1, r.2)) (by simpa [blkEx] using h1)
  · exact (congrArg (fun z => (loopTree (eqrV_step c) (c.n - v.i.toNat + 1) z).holds fun r => Φ (blkEx 0 r.1, r.2)) hv).mpr key
  · unfold eqrV_step
    refine (T.h_ite (fun _ => ?_) (fun hc => absurd hc (by simp <;> omega)))
    refine (T.h_need (by simp <;> omega) (T.h_need (by simp <;> omega) (T.h_need (by simp <;> omega) (T.h_need (by simp <;> omega) (T.h_need (decide_eq_true ⟨hk4 j (by omega), hk5 j (by omega), hk6 j (by omega)⟩) ?_)))))
    refine T.h_leaf ?_
    rw [wrap_next (by omega)]
    exact hΨ
  · unfold eqrV_step
    refine (T.h_ite (fun hc => absurd hc (by simp <;> omega)) (fun _ => T.h_leaf hΨ.2))

def eqrV_dec (b : Mem) (f : FSt) : Option (CeqrV × VeqrV) :=
  match getSu 0 3 (findF 0 f.sl), getSu 1 3 (findF 1 f.sl), getI (findF 5 f.sl), id b, f.mem with
  | some (0, n_), some (0, n2_), some q_i, [some (.cols m_ [.fl .f32 f0_, .fl .f32 f1_, .fl .f32 f2_]), some (.cols m2_ [.fl .f32 g0_, .fl .f32 g1_, .fl .f32 g2_])], [_, _] => some ({ n := n_, m := m_, n2 := n2_, m2 := m2_, f0 := f0_, f1 := f1_, f2 := f2_, g0 := g0_, g1 := g1_, g2 := g2_ }, { i := q_i })
  | _, _, _, _, _ => none
theorem eqrV_dec_ok (b : Mem) (f : FSt) (x : CeqrV × VeqrV) (h : eqrV_dec b f = some x) : b = x.1.base ∧ FLe b f (eqrV_st x.1 x.2) := by
  unfold eqrV_dec at h
  split at h
  · rename_i e0 e1 e2 hb hm
    cases h
    have hb : b = _ := hb
    subst hb
    refine ⟨rfl, fle_of (fun p hp => ?_) (by rw [hm]; exact trivial)⟩
    simp only [List.mem_cons, List.not_mem_nil, or_false] at hp
    rcases hp with rfl | rfl | rfl
    · exact getSu_rel e0
    · exact getSu_rel e1
    · exact getI_rel e2
  · cases h
noncomputable def eqrV_sum : SumF Try.prog 27 eqrVRoot :=
  sumL (pathB eqrVRoot 0) eqrV_dec (fun x => x.1.base) (fun x => eqrV_st x.1 x.2) eqrV_R eqrV_dec_ok (by
    intro code hc x
    have hc2 : code = .block 0 (.loop (bodyB eqrVRoot 0)) := by
      have h : subR eqrVRoot (pathB eqrVRoot 0) = some (.block 0 (.loop (bodyB eqrVRoot 0))) := by kernel_rfl
      rw [h] at hc; cases hc; rfl
    subst hc2
    exact eqrV_tri x)

noncomputable def k_eqV0 : Ctr Try.prog := (mkF0 Try.prog mix [k_eqVector] 45 Try.f45 (bodyOf Try.f45) Try.func45 (by kernel_rfl) (by kernel_rfl) [0, 1, 4, 5, 10, 14, 26, 198] 27 (by kernel_rfl) (by kernel_rfl) [eqrV_sum]).mg
noncomputable def k_eqVN : Ctr Try.prog := mkF Try.prog mix [] 45 Try.f45 (bodyOf Try.f45) Try.func45 (by kernel_rfl) (by kernel_rfl) [0, 1, 4, 5, 10, 14, 26] 27 (by kernel_rfl) (by kernel_rfl)
def sameCVf (n : Nat) (f g : Nat → Nat) : Bool := decide (∀ i, i < n → f i = g i)
theorem sameCVf_mk (n : Nat) (f : Nat → Nat) : sameCVf n f f = true := decide_eq_true fun _ _ => rfl
theorem sameCVf_out {n : Nat} {f g : Nat → Nat} (h : sameCVf n f g = true) : ∀ i, i < n → f i = g i := of_decide_eq_true h
def run_eqV : List AV → Mem → T Res
  | [.one (.su 0 3 0 n false), .one (.su 1 3 0 n2 false)], [some (.cols m [.fl .f32 f0, .fl .f32 f1, .fl .f32 f2]), some (.cols m2 [.fl .f32 g0, .fl .f32 g1, .fl .f32 g2])] => .need (decide (n2 = n)) (.need (decide (n ≤ m)) (.need (decide (n ≤ m2)) (.need (decide (n ≤ 1048576)) (.need (sameCVf n f0 g0 && sameCVf n f1 g1 && sameCVf n f2 g2) (.leaf (.one (.tt true), []))))))
  | _, _ => .fail
theorem eqV0_ev (n m n2 m2 : Nat) (f0 : Nat → Nat) (f1 : Nat → Nat) (f2 : Nat → Nat) (g0 : Nat → Nat) (g1 : Nat → Nat) (g2 : Nat → Nat) : k_eqV0.run [.one (.su 0 3 0 n false), .one (.su 1 3 0 n2 false)] [some (.cols m [.fl .f32 f0, .fl .f32 f1, .fl .f32 f2]), some (.cols m2 [.fl .f32 g0, .fl .f32 g1, .fl .f32 g2])] =
    T.need (bif !decide ((n : Int) = (n2 : Int)) then true else eqrV_ok { n := n, m := m, n2 := n2, m2 := m2, f0 := f0, f1 := f1, f2 := f2, g0 := g0, g1 := g1, g2 := g2 } { i := 0 }) (T.leaf (AV.one (SV.bo !!decide ((n : Int) = (n2 : Int))), [])) := by kernel_rfl
noncomputable def k_eqV : Ctr Try.prog := ((k_eqV0.to run_eqV (by
  intro args mem _
  unfold run_eqV
  split
  · rename_i n n2 m f0 f1 f2 m2 g0 g1 g2 _
    rw [eqV0_ev]
    constructor
    intro Φ hΦ h
    have hn2 : n2 = n := of_decide_eq_true h.1
    have hm : n ≤ m := of_decide_eq_true h.2.1
    have hm2 : n ≤ m2 := of_decide_eq_true h.2.2.1
    have hn : n ≤ 1048576 := of_decide_eq_true h.2.2.2.1
    have hc := h.2.2.2.2.1
    have hl : Φ (.one (.tt true), []) := h.2.2.2.2.2
    subst hn2
    simp only [Bool.and_eq_true] at hc
    refine T.h_need (needT fun _ => decide_eq_true ⟨hm, rfl, hm2, hn, sameCVf_out hc.1.1, sameCVf_out hc.1.2, sameCVf_out hc.2, Int.le_refl 0, Int.natCast_nonneg _⟩) (T.h_leaf (hΦ _ _ (le2_tb ?_) hl))
    simp
  · exact Weak.fail _)).su.own).pick k_eqVN (by kernel_rfl) nilArg

end Go.Proofs.Ytjcofjelfaoecaa
