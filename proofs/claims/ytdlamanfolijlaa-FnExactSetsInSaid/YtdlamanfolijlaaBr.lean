/-
  Marks in rows, rows compared: Bool. No conditions.
-/
import Derived.Test.YtdlamanfolijlaaRw
import Derived.Test.YtdlamanfolijlaaNum
namespace Go.Proofs.Ytdlamanfolijlaa
set_option linter.unusedVariables false
set_option linter.unusedSimpArgs false
open Go.RowKit

def mkBb (c : Nat) (i : Nat) :  Bool := decide ((1 * (i : Int) + 1).tmod 3 = 0)
structure CmkB where
  n : Nat
  m : Nat
def CmkB.base (c : CmkB) : Mem := [none]
structure VmkB where
  i : Int
  k : Int
  a0 : Nat → Bool
noncomputable abbrev mkBRoot : Code := bodyOf Try.f20
def mkB_st (c : CmkB) (v : VmkB) : FSt := ⟨[(0, .one (.su 1 1 0 c.n false)), (1, .one (.num .i64 v.k)), (5, .one (.num .i64 v.i)), (999, .tie 0 1)], c.base ++ [some (.cols c.m [.bo v.a0])]⟩
def mkB_step (c : CmkB) (v : VmkB) : T (Nx VmkB) :=
  .ite (decide (v.1 < ↑c.1)) (.need (true) (.need (decide (0 ≤ v.1) && decide (v.1 < ↑c.1)) (.need (decide (v.1.toNat + 0 < c.2)) (.leaf (.go { i := IntKind.i64.wrap (v.1 + 1), k := IntKind.i64.wrap (v.2 + 1), a0 := fun q => if q = v.i.toNat + 0 then decide (v.k.tmod 3 = 0) else v.a0 q }))))) (.leaf (.out (EX.exit 0) ⟨[(0, AV.one (SV.su 1 1 0 c.1 false)), (1, AV.one (SV.num IntKind.i64 v.2)), (5, AV.one (SV.num IntKind.i64 v.1)), (999, AV.tie 0 1)], c.base ++ [some (.cols c.m [.bo v.a0])]⟩))
theorem mkB_round (c : CmkB) (v : VmkB) : roundF Try.prog 21 [] mkBRoot [] c.base [0, 1, 4, 5, 9, 198, 999] [0, 1, 5, 999] 0 (mkB_st c v) = (mkB_step c v).map (nxF (mkB_st c)) := by kernel_rfl
def mkB_g (c : CmkB) (j : Nat) (a : (Nat → Bool)) : (Nat → Bool) := (fun q => if q = j then mkBb 0 j else a q)
def mkB_ok (c : CmkB) (v : VmkB) : Bool := decide (c.n ≤ c.m ∧ c.n ≤ 1048576 ∧ v.k = 1 * v.i + 1 ∧ 0 ≤ v.i ∧ v.i ≤ ((c.n : Nat) : Int))
def mkB_fin (c : CmkB) (a : (Nat → Bool)) : FSt := mkB_st c ({ i := (c.n : Int), k := 1 * (c.n : Int) + 1, a0 := a })
noncomputable def mkB_R (x : CmkB × VmkB) : T (EX × FSt) := .need (mkB_ok x.1 x.2) (.leaf (.normal, mkB_fin x.1 (iter (mkB_g x.1) (x.1.n - x.2.i.toNat) x.2.i.toNat x.2.a0)))
theorem mkB_tri (x : CmkB × VmkB) : TriR Try.prog 21 x.1.base (.block 0 (.loop (bodyB mkBRoot 0))) (mkB_st x.1 x.2) (mkB_R x) := by
  obtain ⟨c, v⟩ := x
  refine triR_of mix (root := mkBRoot) (by kernel_rfl) (by kernel_rfl) [0, 1, 4, 5, 9, 198, 999] [0, 1, 5, 999] (mkB_st c) (mkB_step c) (mkB_round c) v _ ((c.n - v.i.toNat) + 1) (fun Φ h => ?_)
  have h0 := h.1
  have h1 : Φ (.normal, mkB_fin c (iter (mkB_g c) (c.n - v.i.toNat) v.i.toNat v.a0)) := h.2
  simp only [mkB_ok, decide_eq_true_eq] at h0
  obtain ⟨hk0, hk1, hk2, hi0, hin⟩ := h0
  have hv : v = (fun (j : Nat) (a : (Nat → Bool)) => ({ i := (j : Int), k := 1 * (j : Int) + 1, a0 := a } : VmkB)) v.i.toNat v.a0 := by
    obtain ⟨i, k, a0⟩ := v
    have hi0 : 0 ≤ i := hi0
    have hk2 : k = 1 * i + 1 := hk2
    subst hk2
    simp only [Int.toNat_of_nonneg hi0]
  have key := T_iter (mkB_step c) (fun (j : Nat) (a : (Nat → Bool)) => ({ i := (j : Int), k := 1 * (j : Int) + 1, a0 := a } : VmkB)) c.n (mkB_g c) (fun a => (.exit 0, mkB_fin c a)) (fun j a hj Ψ hΨ => ?_) (fun a Ψ hΨ => ?_) (fun a => by simp) (c.n - v.i.toNat) v.i.toNat v.a0 (by omega) (fun r => Φ (blkEx 0 r.1, r.2)) (by simpa [blkEx] using h1)
  · exact (congrArg (fun z => (loopTree (mkB_step c) (c.n - v.i.toNat + 1) z).holds fun r => Φ (blkEx 0 r.1, r.2)) hv).mpr key
  · unfold mkB_step
    refine (T.h_ite (fun _ => ?_) (fun hc => absurd hc (by simp <;> omega)))
    refine (T.h_need (by simp <;> omega) (T.h_need (by simp <;> omega) (T.h_need (by simp <;> omega) ?_)))
    refine T.h_leaf ?_
    rw [wrap_next (by omega)]
    have e1 : IntKind.i64.wrap (1 * (j : Int) + 1 + 1) = 1 * ((j + 1 : Nat) : Int) + 1 := by rw [IntWalk.i64_in _ (by omega)]; omega
    rw [e1]
    exact hΨ
  · unfold mkB_step
    refine (T.h_ite (fun hc => absurd hc (by simp <;> omega)) (fun _ => T.h_leaf hΨ.2))

def mkB_dec (b : Mem) (f : FSt) : Option (CmkB × VmkB) :=
  match getSu 1 1 (findF 0 f.sl), getTie (findF 999 f.sl), getI (findF 5 f.sl), getI (findF 1 f.sl), id b, f.mem with
  | some (0, n_), some (), some q_i, some q_k, [none], [_, some (.cols m_ [.bo q_a0])] => some ({ n := n_, m := m_ }, { i := q_i, k := q_k, a0 := q_a0 })
  | _, _, _, _, _, _ => none
theorem mkB_dec_ok (b : Mem) (f : FSt) (x : CmkB × VmkB) (h : mkB_dec b f = some x) : b = x.1.base ∧ FLe b f (mkB_st x.1 x.2) := by
  unfold mkB_dec at h
  split at h
  · rename_i e0 e1 e2 e3 hb hm
    cases h
    have hb : b = _ := hb
    subst hb
    refine ⟨rfl, fle_of (fun p hp => ?_) (by rw [hm]; exact memLe_refl _)⟩
    simp only [List.mem_cons, List.not_mem_nil, or_false] at hp
    rcases hp with rfl | rfl | rfl | rfl
    · exact getSu_rel e0
    · exact getI_rel e3
    · exact getI_rel e2
    · exact getTie_rel e1
  · cases h
noncomputable def mkB_sum : SumF Try.prog 21 mkBRoot :=
  sumL (pathB mkBRoot 0) mkB_dec (fun x => x.1.base) (fun x => mkB_st x.1 x.2) mkB_R mkB_dec_ok (by
    intro code hc x
    have hc2 : code = .block 0 (.loop (bodyB mkBRoot 0)) := by
      have h : subR mkBRoot (pathB mkBRoot 0) = some (.block 0 (.loop (bodyB mkBRoot 0))) := by kernel_rfl
      rw [h] at hc; cases hc; rfl
    subst hc2
    exact mkB_tri x)

noncomputable def w_mkB0 : Wr Try.prog 20 := mkW Try.prog mix [] 20 Try.f20 (bodyOf Try.f20) Try.func20 (by kernel_rfl) (by kernel_rfl) [0, 1, 4, 5, 9, 198, 999] 21 (by kernel_rfl) (by kernel_rfl) [mkB_sum]
theorem mkB_fill (n m : Nat) (a : (Nat → Bool)) (i : Nat) (hi : i < n) : (iter (mkB_g { n := n, m := m }) n 0 a) i = mkBb 0 i :=
  fillG (mkB_g { n := n, m := m }) (fun a => a) (mkBb 0) (fun j a q h => if_neg h) (fun j a => if_pos rfl) n 0 a i (Nat.zero_le i) (by omega)
def run_markB : List AV → Blk → T (AV × Blk)
  | [.one (.sl 1 1 0 n cap kn), .one (.int .i64 k)], .cols m [.bo f0] => .need (decide (n ≤ cap)) (.need (decide (n ≤ m)) (.need (decide (n ≤ 1048576)) (.need (decide (k = 1)) (.leaf ((.one (.num .i64 (1 * (n : Int) + 1))), .cols n [.bo (mkBb 0)])))))
  | [.one (.su 1 1 0 n kn), .one (.int .i64 k)], .cols m [.bo f0] => .need (decide (n ≤ m)) (.need (decide (n ≤ 1048576)) (.need (decide (k = 1)) (.leaf ((.one (.num .i64 (1 * (n : Int) + 1))), .cols n [.bo (mkBb 0)]))))
  | _, _ => .fail
theorem w_mkB0_ev (n m : Nat) (f0 : Nat → Bool) : w_mkB0.run [.one (.su 1 1 0 n false), .one (.num .i64 1)] (.cols m [.bo f0]) =
    .need (mkB_ok { n := n, m := m } { i := 0, k := 1, a0 := f0 }) (.leaf ((.one (.num .i64 (1 * (n : Int) + 1))), .cols m [.bo (iter (mkB_g { n := n, m := m }) n 0 f0)])) := by kernel_rfl
theorem w_mkB_in (n m : Nat) (f0 : Nat → Bool) (hm : n ≤ m) (hn : n ≤ 1048576) (Φ : AV × Blk → Prop) (hΦ : ∀ r s : AV × Blk, (∀ ρ v, r.1.rel ρ v → s.1.rel ρ v) → BlLe r.2 s.2 → Φ s → Φ r) (h : Φ ((.one (.num .i64 (1 * (n : Int) + 1))), .cols n [.bo (mkBb 0)])) :
    (w_mkB0.run [.one (.su 1 1 0 n false), .one (.num .i64 1)] (.cols m [.bo f0])).holds Φ := by
  rw [w_mkB0_ev]
  have hbl : BlLe (.cols n [.bo (iter (mkB_g { n := n, m := m }) n 0 f0)]) (.cols n [.bo (mkBb 0)]) := by
    refine BlLe.cols_eq (fun i hi => ?_) (by simp only [List.length_cons, List.length_nil])
    obtain h0 := mkB_fill n m f0 i hi
    simp only [colsAt, Col.at, h0]
  have hbl2 : BlLe (.cols m [.bo (iter (mkB_g { n := n, m := m }) n 0 f0)]) (.cols n [.bo (iter (mkB_g { n := n, m := m }) n 0 f0)]) := BlLe.cols_le hm
  have hok : mkB_ok { n := n, m := m } { i := 0, k := 1, a0 := f0 } = true := by
    unfold mkB_ok
    refine decide_eq_true ⟨hm, hn, ?_, Int.le_refl 0, Int.natCast_nonneg n⟩
    show (1 : Int) = 1 * 0 + 1
    omega
  exact T.h_need hok (T.h_leaf (hΦ _ ((.one (.num .i64 (1 * (n : Int) + 1))), .cols n [.bo (mkBb 0)]) (fun _ _ hv => hv) (fun ρ w b o hb => hbl ρ w b o (hbl2 ρ w b o hb)) h))
set_option maxHeartbeats 4000000 in
noncomputable def w_markB : Wr Try.prog 20 := w_mkB0.re run_markB (by
  intro args C Φ hΦ h
  unfold run_markB at h
  split at h
  · rename_i n cap kn k m f0
    have hk : k = 1 := of_decide_eq_true h.2.2.2.1
    have h0 : n ≤ cap := of_decide_eq_true h.1
    subst hk
    have hm : n ≤ m := of_decide_eq_true h.2.1
    have hn : n ≤ 1048576 := of_decide_eq_true h.2.2.1
    have hl : Φ ((.one (.num .i64 (1 * (n : Int) + 1))), .cols n [.bo (mkBb 0)]) := h.2.2.2.2
    have key := w_mkB_in n m f0 hm hn Φ hΦ hl
    refine Exists.intro [.one (.su 1 1 0 n false), .one (.num .i64 1)] (And.intro ?_ ?_)
    · intro ρ vals hv
      exact slargs h0 hv
    · exact key
  · rename_i n kn k m f0
    have hk : k = 1 := of_decide_eq_true h.2.2.1
    subst hk
    have hm : n ≤ m := of_decide_eq_true h.1
    have hn : n ≤ 1048576 := of_decide_eq_true h.2.1
    have hl : Φ ((.one (.num .i64 (1 * (n : Int) + 1))), .cols n [.bo (mkBb 0)]) := h.2.2.2
    have key := w_mkB_in n m f0 hm hn Φ hΦ hl
    refine Exists.intro [.one (.su 1 1 0 n false), .one (.num .i64 1)] (And.intro ?_ ?_)
    · intro ρ vals hv
      exact suargs hv
    · exact key
  · exact h.elim)
noncomputable def k_markBN : Ctr Try.prog := mkF Try.prog mix [] 20 Try.f20 (bodyOf Try.f20) Try.func20 (by kernel_rfl) (by kernel_rfl) [0, 1, 4, 5, 9] 21 (by kernel_rfl) (by kernel_rfl)
noncomputable def k_markB : Ctr Try.prog := k_markBN.withW w_markB
structure CeqrB where
  n : Nat
  m : Nat
  n2 : Nat
  m2 : Nat
  f0 : Nat → Bool
  g0 : Nat → Bool
def CeqrB.base (c : CeqrB) : Mem := [some (.cols c.m [.bo c.f0]), some (.cols c.m2 [.bo c.g0])]
structure VeqrB where
  i : Int
noncomputable abbrev eqrBRoot : Code := bodyOf Try.f19
def eqrB_st (c : CeqrB) (v : VeqrB) : FSt := ⟨[(0, .one (.su 0 1 0 c.n false)), (1, .one (.su 1 1 0 c.n2 false)), (5, .one (.num .i64 v.i))], c.base ++ []⟩
def eqrB_step (c : CeqrB) (v : VeqrB) : T (Nx VeqrB) :=
  .ite (decide (v.1 < ↑c.1)) (.need (decide (0 ≤ v.1) && decide (v.1 < ↑c.1)) (.need (decide (v.1.toNat + 0 < c.2)) (.need (decide (0 ≤ v.1) && decide (v.1 < ↑c.3)) (.need (decide (v.1.toNat + 0 < c.4)) (.ite (c.5 (v.1.toNat + 0) != c.6 (v.1.toNat + 0)) (.leaf (.out (EX.ret) ⟨[(0, AV.one (SV.su 0 1 0 c.1 false)), (1, AV.one (SV.su 1 1 0 c.3 false)), (5, AV.one (SV.num IntKind.i64 v.1))], c.base ++ []⟩)) (.leaf (.go { i := IntKind.i64.wrap (v.1 + 1) }))))))) (.leaf (.out (EX.exit 0) ⟨[(0, AV.one (SV.su 0 1 0 c.1 false)), (1, AV.one (SV.su 1 1 0 c.3 false)), (5, AV.one (SV.num IntKind.i64 v.1))], c.base ++ []⟩))
theorem eqrB_round (c : CeqrB) (v : VeqrB) : roundF Try.prog 26 [] eqrBRoot [] c.base [0, 1, 4, 5, 10, 14, 25, 198] [0, 1, 5] 0 (eqrB_st c v) = (eqrB_step c v).map (nxF (eqrB_st c)) := by kernel_rfl
def eqrB_g (c : CeqrB) (j : Nat) (a : Unit) : Unit := a
def eqrB_ok (c : CeqrB) (v : VeqrB) : Bool := decide (c.n ≤ c.m ∧ c.n2 = c.n ∧ c.n ≤ c.m2 ∧ c.n ≤ 1048576 ∧ (∀ i, i < c.n → c.f0 i = c.g0 i) ∧ 0 ≤ v.i ∧ v.i ≤ ((c.n : Nat) : Int))
def eqrB_fin (c : CeqrB) (a : Unit) : FSt := eqrB_st c ({ i := (c.n : Int) })
noncomputable def eqrB_R (x : CeqrB × VeqrB) : T (EX × FSt) := .need (eqrB_ok x.1 x.2) (.leaf (.normal, eqrB_fin x.1 (iter (eqrB_g x.1) (x.1.n - x.2.i.toNat) x.2.i.toNat ())))
theorem eqrB_tri (x : CeqrB × VeqrB) : TriR Try.prog 26 x.1.base (.block 0 (.loop (bodyB eqrBRoot 0))) (eqrB_st x.1 x.2) (eqrB_R x) := by
  obtain ⟨c, v⟩ := x
  refine triR_of mix (root := eqrBRoot) (by kernel_rfl) (by kernel_rfl) [0, 1, 4, 5, 10, 14, 25, 198] [0, 1, 5] (eqrB_st c) (eqrB_step c) (eqrB_round c) v _ ((c.n - v.i.toNat) + 1) (fun Φ h => ?_)
  have h0 := h.1
  have h1 : Φ (.normal, eqrB_fin c (iter (eqrB_g c) (c.n - v.i.toNat) v.i.toNat ())) := h.2
  simp only [eqrB_ok, decide_eq_true_eq] at h0
  obtain ⟨hk0, hk1, hk2, hk3, hk4, hi0, hin⟩ := h0
  have hv : v = (fun (j : Nat) (a : Unit) => ({ i := (j : Int) } : VeqrB)) v.i.toNat () := by
    obtain ⟨i⟩ := v
    have hi0 : 0 ≤ i := hi0
    simp only [Int.toNat_of_nonneg hi0]
  have key := T_iter (eqrB_step c) (fun (j : Nat) (a : Unit) => ({ i := (j : Int) } : VeqrB)) c.n (eqrB_g c) (fun a => (.exit 0, eqrB_fin c a)) (fun j a hj Ψ hΨ => ?_) (fun a Ψ hΨ => ?_) (fun a => by simp) (c.n - v.i.toNat) v.i.toNat () (by omega) (fun r => Φ (blkEx 0 r.1, r.2)) (by simpa [blkEx] using h1)
  · exact (congrArg (fun z => (loopTree (eqrB_step c) (c.n - v.i.toNat + 1) z).holds fun r => Φ (blkEx 0 r.1, r.2)) hv).mpr key
  · unfold eqrB_step
    refine (T.h_ite (fun _ => ?_) (fun hc => absurd hc (by simp <;> omega)))
    refine (T.h_need (by simp <;> omega) (T.h_need (by simp <;> omega) (T.h_need (by simp <;> omega) (T.h_need (by simp <;> omega) (T.h_ite (fun hc => absurd hc (by have := hk4 j (by omega); simp [this])) (fun _ => ?_))))))
    refine T.h_leaf ?_
    rw [wrap_next (by omega)]
    exact hΨ
  · unfold eqrB_step
    refine (T.h_ite (fun hc => absurd hc (by simp <;> omega)) (fun _ => T.h_leaf hΨ.2))

def eqrB_dec (b : Mem) (f : FSt) : Option (CeqrB × VeqrB) :=
  match getSu 0 1 (findF 0 f.sl), getSu 1 1 (findF 1 f.sl), getI (findF 5 f.sl), id b, f.mem with
  | some (0, n_), some (0, n2_), some q_i, [some (.cols m_ [.bo f0_]), some (.cols m2_ [.bo g0_])], [_, _] => some ({ n := n_, m := m_, n2 := n2_, m2 := m2_, f0 := f0_, g0 := g0_ }, { i := q_i })
  | _, _, _, _, _ => none
theorem eqrB_dec_ok (b : Mem) (f : FSt) (x : CeqrB × VeqrB) (h : eqrB_dec b f = some x) : b = x.1.base ∧ FLe b f (eqrB_st x.1 x.2) := by
  unfold eqrB_dec at h
  split at h
  · rename_i e0 e1 e2 hb hm
    cases h
    have hb : b = _ := hb
    subst hb
    refine ⟨rfl, fle_of (fun p hp => ?_) (by rw [hm]; exact trivial)⟩
    simp only [List.mem_cons, List.not_mem_nil, or_false] at hp
    rcases hp with rfl | rfl | rfl
    · exact getSu_rel e0
    · exact getSu_rel e1
    · exact getI_rel e2
  · cases h
noncomputable def eqrB_sum : SumF Try.prog 26 eqrBRoot :=
  sumL (pathB eqrBRoot 0) eqrB_dec (fun x => x.1.base) (fun x => eqrB_st x.1 x.2) eqrB_R eqrB_dec_ok (by
    intro code hc x
    have hc2 : code = .block 0 (.loop (bodyB eqrBRoot 0)) := by
      have h : subR eqrBRoot (pathB eqrBRoot 0) = some (.block 0 (.loop (bodyB eqrBRoot 0))) := by kernel_rfl
      rw [h] at hc; cases hc; rfl
    subst hc2
    exact eqrB_tri x)

noncomputable def k_eqB0 : Ctr Try.prog := (mkF0 Try.prog mix [] 19 Try.f19 (bodyOf Try.f19) Try.func19 (by kernel_rfl) (by kernel_rfl) [0, 1, 4, 5, 10, 14, 25, 198] 26 (by kernel_rfl) (by kernel_rfl) [eqrB_sum]).mg
noncomputable def k_eqBN : Ctr Try.prog := mkF Try.prog mix [] 19 Try.f19 (bodyOf Try.f19) Try.func19 (by kernel_rfl) (by kernel_rfl) [0, 1, 4, 5, 10, 14, 25] 26 (by kernel_rfl) (by kernel_rfl)
def sameCBb (n : Nat) (f g : Nat → Bool) : Bool := decide (∀ i, i < n → f i = g i)
theorem sameCBb_mk (n : Nat) (f : Nat → Bool) : sameCBb n f f = true := decide_eq_true fun _ _ => rfl
theorem sameCBb_out {n : Nat} {f g : Nat → Bool} (h : sameCBb n f g = true) : ∀ i, i < n → f i = g i := of_decide_eq_true h
def run_eqB : List AV → Mem → T Res
  | [.one (.su 0 1 0 n false), .one (.su 1 1 0 n2 false)], [some (.cols m [.bo f0]), some (.cols m2 [.bo g0])] => .need (decide (n2 = n)) (.need (decide (n ≤ m)) (.need (decide (n ≤ m2)) (.need (decide (n ≤ 1048576)) (.need (sameCBb n f0 g0) (.leaf (.one (.tt true), []))))))
  | _, _ => .fail
theorem eqB0_ev (n m n2 m2 : Nat) (f0 : Nat → Bool) (g0 : Nat → Bool) : k_eqB0.run [.one (.su 0 1 0 n false), .one (.su 1 1 0 n2 false)] [some (.cols m [.bo f0]), some (.cols m2 [.bo g0])] =
    T.need (bif !decide ((n : Int) = (n2 : Int)) then true else eqrB_ok { n := n, m := m, n2 := n2, m2 := m2, f0 := f0, g0 := g0 } { i := 0 }) (T.leaf (AV.one (SV.bo !!decide ((n : Int) = (n2 : Int))), [])) := by kernel_rfl
noncomputable def k_eqB : Ctr Try.prog := ((k_eqB0.to run_eqB (by
  intro args mem _
  unfold run_eqB
  split
  · rename_i n n2 m f0 m2 g0 _
    rw [eqB0_ev]
    constructor
    intro Φ hΦ h
    have hn2 : n2 = n := of_decide_eq_true h.1
    have hm : n ≤ m := of_decide_eq_true h.2.1
    have hm2 : n ≤ m2 := of_decide_eq_true h.2.2.1
    have hn : n ≤ 1048576 := of_decide_eq_true h.2.2.2.1
    have hc := h.2.2.2.2.1
    have hl : Φ (.one (.tt true), []) := h.2.2.2.2.2
    subst hn2
    refine T.h_need (needT fun _ => decide_eq_true ⟨hm, rfl, hm2, hn, sameCBb_out hc, Int.le_refl 0, Int.natCast_nonneg _⟩) (T.h_leaf (hΦ _ _ (le2_tb ?_) hl))
    simp
  · exact Weak.fail _)).su.own).pick k_eqBN (by kernel_rfl) nilArg

end Go.Proofs.Ytdlamanfolijlaa
