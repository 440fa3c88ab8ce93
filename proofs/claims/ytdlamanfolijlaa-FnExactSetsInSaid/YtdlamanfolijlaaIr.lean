/-
  Marks in rows, rows compared: Int64. No conditions.
-/
import Derived.Test.YtdlamanfolijlaaRw
import Derived.Test.YtdlamanfolijlaaNum
namespace Go.Proofs.Ytdlamanfolijlaa
set_option linter.unusedVariables false
set_option linter.unusedSimpArgs false
open Go.RowKit

def mkIi (c : Nat) (i : Nat) :  Int := 1 * (i : Int) + 1
structure CmkI where
  n : Nat
  m : Nat
def CmkI.base (c : CmkI) : Mem := [none]
structure VmkI where
  i : Int
  k : Int
  a0 : Nat → Int
noncomputable abbrev mkIRoot : Code := bodyOf Try.f21
def mkI_st (c : CmkI) (v : VmkI) : FSt := ⟨[(0, .one (.su 1 1 0 c.n false)), (1, .one (.num .i64 v.k)), (5, .one (.num .i64 v.i)), (999, .tie 0 1)], c.base ++ [some (.cols c.m [.num .i64 v.a0])]⟩
def mkI_step (c : CmkI) (v : VmkI) : T (Nx VmkI) :=
  .ite (decide (v.1 < ↑c.1)) (.need (decide (0 ≤ v.1) && decide (v.1 < ↑c.1)) (.need (decide (v.1.toNat + 0 < c.2)) (.leaf (.go { i := IntKind.i64.wrap (v.1 + 1), k := IntKind.i64.wrap (v.2 + 1), a0 := fun q => if q = v.i.toNat + 0 then v.k else v.a0 q })))) (.leaf (.out (EX.exit 0) ⟨[(0, AV.one (SV.su 1 1 0 c.1 false)), (1, AV.one (SV.num IntKind.i64 v.2)), (5, AV.one (SV.num IntKind.i64 v.1)), (999, AV.tie 0 1)], c.base ++ [some (.cols c.m [.num .i64 v.a0])]⟩))
theorem mkI_round (c : CmkI) (v : VmkI) : roundF Try.prog 19 [] mkIRoot [] c.base [0, 1, 4, 5, 9, 198, 999] [0, 1, 5, 999] 0 (mkI_st c v) = (mkI_step c v).map (nxF (mkI_st c)) := by kernel_rfl
def mkI_g (c : CmkI) (j : Nat) (a : (Nat → Int)) : (Nat → Int) := (fun q => if q = j then mkIi 0 j else a q)
def mkI_ok (c : CmkI) (v : VmkI) : Bool := decide (c.n ≤ c.m ∧ c.n ≤ 1048576 ∧ v.k = 1 * v.i + 1 ∧ 0 ≤ v.i ∧ v.i ≤ ((c.n : Nat) : Int))
def mkI_fin (c : CmkI) (a : (Nat → Int)) : FSt := mkI_st c ({ i := (c.n : Int), k := 1 * (c.n : Int) + 1, a0 := a })
noncomputable def mkI_R (x : CmkI × VmkI) : T (EX × FSt) := .need (mkI_ok x.1 x.2) (.leaf (.normal, mkI_fin x.1 (iter (mkI_g x.1) (x.1.n - x.2.i.toNat) x.2.i.toNat x.2.a0)))
theorem mkI_tri (x : CmkI × VmkI) : TriR Try.prog 19 x.1.base (.block 0 (.loop (bodyB mkIRoot 0))) (mkI_st x.1 x.2) (mkI_R x) := by
  obtain ⟨c, v⟩ := x
  refine triR_of mix (root := mkIRoot) (by kernel_rfl) (by kernel_rfl) [0, 1, 4, 5, 9, 198, 999] [0, 1, 5, 999] (mkI_st c) (mkI_step c) (mkI_round c) v _ ((c.n - v.i.toNat) + 1) (fun Φ h => ?_)
  have h0 := h.1
  have h1 : Φ (.normal, mkI_fin c (iter (mkI_g c) (c.n - v.i.toNat) v.i.toNat v.a0)) := h.2
  simp only [mkI_ok, decide_eq_true_eq] at h0
  obtain ⟨hk0, hk1, hk2, hi0, hin⟩ := h0
  have hv : v = (fun (j : Nat) (a : (Nat → Int)) => ({ i := (j : Int), k := 1 * (j : Int) + 1, a0 := a } : VmkI)) v.i.toNat v.a0 := by
    obtain ⟨i, k, a0⟩ := v
    have hi0 : 0 ≤ i := hi0
    have hk2 : k = 1 * i + 1 := hk2
    subst hk2
    simp only [Int.toNat_of_nonneg hi0]
  have key := T_iter (mkI_step c) (fun (j : Nat) (a : (Nat → Int)) => ({ i := (j : Int), k := 1 * (j : Int) + 1, a0 := a } : VmkI)) c.n (mkI_g c) (fun a => (.exit 0, mkI_fin c a)) (fun j a hj Ψ hΨ => ?_) (fun a Ψ hΨ => ?_) (fun a => by simp) (c.n - v.i.toNat) v.i.toNat v.a0 (by omega) (fun r => Φ (blkEx 0 r.1, r.2)) (by simpa [blkEx] using h1)
  · exact (congrArg (fun z => (loopTree (mkI_step c) (c.n - v.i.toNat + 1) z).holds fun r => Φ (blkEx 0 r.1, r.2)) hv).mpr key
  · unfold mkI_step
    refine (T.h_ite (fun _ => ?_) (fun hc => absurd hc (by simp <;> omega)))
    refine (T.h_need (by simp <;> omega) (T.h_need (by simp <;> omega) ?_))
    refine T.h_leaf ?_
    rw [wrap_next (by omega)]
    have e1 : IntKind.i64.wrap (1 * (j : Int) + 1 + 1) = 1 * ((j + 1 : Nat) : Int) + 1 := by rw [IntWalk.i64_in _ (by omega)]; omega
    rw [e1]
    exact hΨ
  · unfold mkI_step
    refine (T.h_ite (fun hc => absurd hc (by simp <;> omega)) (fun _ => T.h_leaf hΨ.2))

def mkI_dec (b : Mem) (f : FSt) : Option (CmkI × VmkI) :=
  match getSu 1 1 (findF 0 f.sl), getTie (findF 999 f.sl), getI (findF 5 f.sl), getI (findF 1 f.sl), id b, f.mem with
  | some (0, n_), some (), some q_i, some q_k, [none], [_, some (.cols m_ [.num .i64 q_a0])] => some ({ n := n_, m := m_ }, { i := q_i, k := q_k, a0 := q_a0 })
  | _, _, _, _, _, _ => none
theorem mkI_dec_ok (b : Mem) (f : FSt) (x : CmkI × VmkI) (h : mkI_dec b f = some x) : b = x.1.base ∧ FLe b f (mkI_st x.1 x.2) := by
  unfold mkI_dec at h
  split at h
  · rename_i e0 e1 e2 e3 hb hm
    cases h
    have hb : b = _ := hb
    subst hb
    refine ⟨rfl, fle_of (fun p hp => ?_) (by rw [hm]; exact memLe_refl _)⟩
    simp only [List.mem_cons, List.not_mem_nil, or_false] at hp
    rcases hp with rfl | rfl | rfl | rfl
    · exact getSu_rel e0
    · exact getI_rel e3
    · exact getI_rel e2
    · exact getTie_rel e1
  · cases h
noncomputable def mkI_sum : SumF Try.prog 19 mkIRoot :=
  sumL (pathB mkIRoot 0) mkI_dec (fun x => x.1.base) (fun x => mkI_st x.1 x.2) mkI_R mkI_dec_ok (by
    intro code hc x
    have hc2 : code = .block 0 (.loop (bodyB mkIRoot 0)) := by
      have h : subR mkIRoot (pathB mkIRoot 0) = some (.block 0 (.loop (bodyB mkIRoot 0))) := by kernel_rfl
      rw [h] at hc; cases hc; rfl
    subst hc2
    exact mkI_tri x)

noncomputable def w_mkI0 : Wr Try.prog 21 := mkW Try.prog mix [] 21 Try.f21 (bodyOf Try.f21) Try.func21 (by kernel_rfl) (by kernel_rfl) [0, 1, 4, 5, 9, 198, 999] 19 (by kernel_rfl) (by kernel_rfl) [mkI_sum]
theorem mkI_fill (n m : Nat) (a : (Nat → Int)) (i : Nat) (hi : i < n) : (iter (mkI_g { n := n, m := m }) n 0 a) i = mkIi 0 i :=
  fillG (mkI_g { n := n, m := m }) (fun a => a) (mkIi 0) (fun j a q h => if_neg h) (fun j a => if_pos rfl) n 0 a i (Nat.zero_le i) (by omega)
def run_markI : List AV → Blk → T (AV × Blk)
  | [.one (.sl 1 1 0 n cap kn), .one (.int .i64 k)], .cols m [.num .i64 f0] => .need (decide (n ≤ cap)) (.need (decide (n ≤ m)) (.need (decide (n ≤ 1048576)) (.need (decide (k = 1)) (.leaf ((.one (.num .i64 (1 * (n : Int) + 1))), .cols n [.num .i64 (mkIi 0)])))))
  | [.one (.su 1 1 0 n kn), .one (.int .i64 k)], .cols m [.num .i64 f0] => .need (decide (n ≤ m)) (.need (decide (n ≤ 1048576)) (.need (decide (k = 1)) (.leaf ((.one (.num .i64 (1 * (n : Int) + 1))), .cols n [.num .i64 (mkIi 0)]))))
  | _, _ => .fail
theorem w_mkI0_ev (n m : Nat) (f0 : Nat → Int) : w_mkI0.run [.one (.su 1 1 0 n false), .one (.num .i64 1)] (.cols m [.num .i64 f0]) =
    .need (mkI_ok { n := n, m := m } { i := 0, k := 1, a0 := f0 }) (.leaf ((.one (.num .i64 (1 * (n : Int) + 1))), .cols m [.num .i64 (iter (mkI_g { n := n, m := m }) n 0 f0)])) := by kernel_rfl
theorem w_mkI_in (n m : Nat) (f0 : Nat → Int) (hm : n ≤ m) (hn : n ≤ 1048576) (Φ : AV × Blk → Prop) (hΦ : ∀ r s : AV × Blk, (∀ ρ v, r.1.rel ρ v → s.1.rel ρ v) → BlLe r.2 s.2 → Φ s → Φ r) (h : Φ ((.one (.num .i64 (1 * (n : Int) + 1))), .cols n [.num .i64 (mkIi 0)])) :
    (w_mkI0.run [.one (.su 1 1 0 n false), .one (.num .i64 1)] (.cols m [.num .i64 f0])).holds Φ := by
  rw [w_mkI0_ev]
  have hbl : BlLe (.cols n [.num .i64 (iter (mkI_g { n := n, m := m }) n 0 f0)]) (.cols n [.num .i64 (mkIi 0)]) := by
    refine BlLe.cols_eq (fun i hi => ?_) (by simp only [List.length_cons, List.length_nil])
    obtain h0 := mkI_fill n m f0 i hi
    simp only [colsAt, Col.at, h0]
  have hbl2 : BlLe (.cols m [.num .i64 (iter (mkI_g { n := n, m := m }) n 0 f0)]) (.cols n [.num .i64 (iter (mkI_g { n := n, m := m }) n 0 f0)]) := BlLe.cols_le hm
  have hok : mkI_ok { n := n, m := m } { i := 0, k := 1, a0 := f0 } = true := by
    unfold mkI_ok
    refine decide_eq_true ⟨hm, hn, ?_, Int.le_refl 0, Int.natCast_nonneg n⟩
    show (1 : Int) = 1 * 0 + 1
    omega
  exact T.h_need hok (T.h_leaf (hΦ _ ((.one (.num .i64 (1 * (n : Int) + 1))), .cols n [.num .i64 (mkIi 0)]) (fun _ _ hv => hv) (fun ρ w b o hb => hbl ρ w b o (hbl2 ρ w b o hb)) h))
set_option maxHeartbeats 4000000 in
noncomputable def w_markI : Wr Try.prog 21 := w_mkI0.re run_markI (by
  intro args C Φ hΦ h
  unfold run_markI at h
  split at h
  · rename_i n cap kn k m f0
    have hk : k = 1 := of_decide_eq_true h.2.2.2.1
    have h0 : n ≤ cap := of_decide_eq_true h.1
    subst hk
    have hm : n ≤ m := of_decide_eq_true h.2.1
    have hn : n ≤ 1048576 := of_decide_eq_true h.2.2.1
    have hl : Φ ((.one (.num .i64 (1 * (n : Int) + 1))), .cols n [.num .i64 (mkIi 0)]) := h.2.2.2.2
    have key := w_mkI_in n m f0 hm hn Φ hΦ hl
    refine Exists.intro [.one (.su 1 1 0 n false), .one (.num .i64 1)] (And.intro ?_ ?_)
    · intro ρ vals hv
      exact slargs h0 hv
    · exact key
  · rename_i n kn k m f0
    have hk : k = 1 := of_decide_eq_true h.2.2.1
    subst hk
    have hm : n ≤ m := of_decide_eq_true h.1
    have hn : n ≤ 1048576 := of_decide_eq_true h.2.1
    have hl : Φ ((.one (.num .i64 (1 * (n : Int) + 1))), .cols n [.num .i64 (mkIi 0)]) := h.2.2.2
    have key := w_mkI_in n m f0 hm hn Φ hΦ hl
    refine Exists.intro [.one (.su 1 1 0 n false), .one (.num .i64 1)] (And.intro ?_ ?_)
    · intro ρ vals hv
      exact suargs hv
    · exact key
  · exact h.elim)
noncomputable def k_markIN : Ctr Try.prog := mkF Try.prog mix [] 21 Try.f21 (bodyOf Try.f21) Try.func21 (by kernel_rfl) (by kernel_rfl) [0, 1, 4, 5, 9] 19 (by kernel_rfl) (by kernel_rfl)
noncomputable def k_markI : Ctr Try.prog := k_markIN.withW w_markI
structure CheI where
  n : Nat
  m : Nat
  f0 : Nat → Int
def CheI.base (c : CheI) : Mem := [some (.cols c.m [.num .i64 c.f0])]
structure VheI where
  i : Int
  k : Int
noncomputable abbrev heIRoot : Code := bodyOf Try.f22
def heI_st (c : CheI) (v : VheI) : FSt := ⟨[(0, .one (.su 0 1 0 c.n false)), (1, .one (.num .i64 v.k)), (5, .one (.num .i64 v.i))], c.base ++ []⟩
def heI_step (c : CheI) (v : VheI) : T (Nx VheI) :=
  .ite (decide (v.1 < ↑c.1)) (.need (decide (0 ≤ v.1) && decide (v.1 < ↑c.1)) (.need (decide (v.1.toNat + 0 < c.2)) (.ite (!decide (c.3 (v.1.toNat + 0) = v.2)) (.leaf (.out (EX.ret) ⟨[(0, AV.one (SV.su 0 1 0 c.1 false)), (1, AV.one (SV.num IntKind.i64 v.2)), (5, AV.one (SV.num IntKind.i64 v.1))], c.base ++ []⟩)) (.leaf (.go { i := IntKind.i64.wrap (v.1 + 1), k := IntKind.i64.wrap (v.2 + 1) }))))) (.leaf (.out (EX.exit 0) ⟨[(0, AV.one (SV.su 0 1 0 c.1 false)), (1, AV.one (SV.num IntKind.i64 v.2)), (5, AV.one (SV.num IntKind.i64 v.1))], c.base ++ []⟩))
theorem heI_round (c : CheI) (v : VheI) : roundF Try.prog 21 [] heIRoot [] c.base [0, 1, 4, 5, 9, 17, 198] [0, 1, 5] 0 (heI_st c v) = (heI_step c v).map (nxF (heI_st c)) := by kernel_rfl
def heI_g (c : CheI) (j : Nat) (a : Unit) : Unit := a
def heI_ok (c : CheI) (v : VheI) : Bool := decide (c.n ≤ c.m ∧ c.n ≤ 1048576 ∧ v.k = 1 * v.i + 1 ∧ (∀ i, i < c.n → c.f0 i = mkIi 0 i) ∧ 0 ≤ v.i ∧ v.i ≤ ((c.n : Nat) : Int))
def heI_fin (c : CheI) (a : Unit) : FSt := heI_st c ({ i := (c.n : Int), k := 1 * (c.n : Int) + 1 })
noncomputable def heI_R (x : CheI × VheI) : T (EX × FSt) := .need (heI_ok x.1 x.2) (.leaf (.normal, heI_fin x.1 (iter (heI_g x.1) (x.1.n - x.2.i.toNat) x.2.i.toNat ())))
theorem heI_tri (x : CheI × VheI) : TriR Try.prog 21 x.1.base (.block 0 (.loop (bodyB heIRoot 0))) (heI_st x.1 x.2) (heI_R x) := by
  obtain ⟨c, v⟩ := x
  refine triR_of mix (root := heIRoot) (by kernel_rfl) (by kernel_rfl) [0, 1, 4, 5, 9, 17, 198] [0, 1, 5] (heI_st c) (heI_step c) (heI_round c) v _ ((c.n - v.i.toNat) + 1) (fun Φ h => ?_)
  have h0 := h.1
  have h1 : Φ (.normal, heI_fin c (iter (heI_g c) (c.n - v.i.toNat) v.i.toNat ())) := h.2
  simp only [heI_ok, decide_eq_true_eq] at h0
  obtain ⟨hk0, hk1, hk2, hk3, hi0, hin⟩ := h0
  have hv : v = (fun (j : Nat) (a : Unit) => ({ i := (j : Int), k := 1 * (j : Int) + 1 } : VheI)) v.i.toNat () := by
    obtain ⟨i, k⟩ := v
    have hi0 : 0 ≤ i := hi0
    have hk2 : k = 1 * i + 1 := hk2
    subst hk2
    simp only [Int.toNat_of_nonneg hi0]
  have key := T_iter (heI_step c) (fun (j : Nat) (a : Unit) => ({ i := (j : Int), k := 1 * (j : Int) + 1 } : VheI)) c.n (heI_g c) (fun a => (.exit 0, heI_fin c a)) (fun j a hj Ψ hΨ => ?_) (fun a Ψ hΨ => ?_) (fun a => by simp) (c.n - v.i.toNat) v.i.toNat () (by omega) (fun r => Φ (blkEx 0 r.1, r.2)) (by simpa [blkEx] using h1)
  · exact (congrArg (fun z => (loopTree (heI_step c) (c.n - v.i.toNat + 1) z).holds fun r => Φ (blkEx 0 r.1, r.2)) hv).mpr key
  · unfold heI_step
    have e1 : IntKind.i64.wrap (1 * (j : Int) + 1 + 1) = 1 * ((j + 1 : Nat) : Int) + 1 := by rw [IntWalk.i64_in _ (by omega)]; omega
    have e0 : 1 * (j : Int) + 1 = ((1 * j + 0 + 1 : Nat) : Int) := by omega
    refine (T.h_ite (fun _ => ?_) (fun hc => absurd hc (by simp <;> omega)))
    refine (T.h_need (by simp <;> omega) (T.h_need (by simp <;> omega) (T.h_ite (fun hc => absurd hc (by have := hk3 j (by omega); simp [this, mkIi] <;> omega)) (fun _ => ?_))))
    refine T.h_leaf ?_
    rw [wrap_next (by omega)]
    rw [e1]
    exact hΨ
  · unfold heI_step
    refine (T.h_ite (fun hc => absurd hc (by simp <;> omega)) (fun _ => T.h_leaf hΨ.2))

def heI_dec (b : Mem) (f : FSt) : Option (CheI × VheI) :=
  match getSu 0 1 (findF 0 f.sl), getI (findF 5 f.sl), getI (findF 1 f.sl), id b, f.mem with
  | some (0, n_), some q_i, some q_k, [some (.cols m_ [.num .i64 f0_])], [_] => some ({ n := n_, m := m_, f0 := f0_ }, { i := q_i, k := q_k })
  | _, _, _, _, _ => none
theorem heI_dec_ok (b : Mem) (f : FSt) (x : CheI × VheI) (h : heI_dec b f = some x) : b = x.1.base ∧ FLe b f (heI_st x.1 x.2) := by
  unfold heI_dec at h
  split at h
  · rename_i e0 e1 e2 hb hm
    cases h
    have hb : b = _ := hb
    subst hb
    refine ⟨rfl, fle_of (fun p hp => ?_) (by rw [hm]; exact trivial)⟩
    simp only [List.mem_cons, List.not_mem_nil, or_false] at hp
    rcases hp with rfl | rfl | rfl
    · exact getSu_rel e0
    · exact getI_rel e2
    · exact getI_rel e1
  · cases h
noncomputable def heI_sum : SumF Try.prog 21 heIRoot :=
  sumL (pathB heIRoot 0) heI_dec (fun x => x.1.base) (fun x => heI_st x.1 x.2) heI_R heI_dec_ok (by
    intro code hc x
    have hc2 : code = .block 0 (.loop (bodyB heIRoot 0)) := by
      have h : subR heIRoot (pathB heIRoot 0) = some (.block 0 (.loop (bodyB heIRoot 0))) := by kernel_rfl
      rw [h] at hc; cases hc; rfl
    subst hc2
    exact heI_tri x)

noncomputable def k_heldI0 : Ctr Try.prog := (mkF0 Try.prog mix [] 22 Try.f22 (bodyOf Try.f22) Try.func22 (by kernel_rfl) (by kernel_rfl) [0, 1, 4, 5, 9, 17, 198] 21 (by kernel_rfl) (by kernel_rfl) [heI_sum]).mg
noncomputable def k_heldIN : Ctr Try.prog := mkF Try.prog mix [] 22 Try.f22 (bodyOf Try.f22) Try.func22 (by kernel_rfl) (by kernel_rfl) [0, 1, 4, 5, 9, 17] 21 (by kernel_rfl) (by kernel_rfl)
def cmkIi (n : Nat) (f : Nat → Int) (c : Nat) : Bool := decide (∀ i, i < n → f i = mkIi c i)
theorem cmkIi_mk (n c : Nat) : cmkIi n (mkIi c) c = true := decide_eq_true fun _ _ => rfl
theorem cmkIi_out {n c : Nat} {f : Nat → Int} (h : cmkIi n f c = true) : ∀ i, i < n → f i = mkIi c i := of_decide_eq_true h
def run_heldI : List AV → Mem → T Res
  | [.one (.su 0 1 0 n false), .one (.int .i64 k)], [some (.cols m [.num .i64 f0])] => .need (decide (k = 1)) (.need (decide (n ≤ m)) (.need (decide (n ≤ 1048576)) (.need (cmkIi n f0 0) (.leaf ((.one (.num .i64 (1 * (n : Int) + 1))), [])))))
  | _, _ => .fail
theorem heldI0_ev (n m : Nat) (f0 : Nat → Int) : k_heldI0.run [.one (.su 0 1 0 n false), .one (.num .i64 1)] [some (.cols m [.num .i64 f0])] =
    .need (heI_ok { n := n, m := m, f0 := f0 } { i := 0, k := 1 }) (.leaf ((.one (.num .i64 (1 * (n : Int) + 1))), [])) := by kernel_rfl
noncomputable def k_heldI : Ctr Try.prog := ((k_heldI0.re run_heldI (by
  intro args mem hfine Φ hΦ h
  unfold run_heldI at h
  split at h
  · rename_i n k m f0
    have hk : k = 1 := of_decide_eq_true h.1
    have hm : n ≤ m := of_decide_eq_true h.2.1
    have hn : n ≤ 1048576 := of_decide_eq_true h.2.2.1
    have hc := h.2.2.2.1
    have hl := h.2.2.2.2
    subst hk
    refine Exists.intro [.one (.su 0 1 0 n false), .one (.num .i64 1)] (Exists.intro _ (And.intro ?_ (And.intro (MemLe.refl _) ?_)))
    · intro ρ vals hv
      exact suargs hv
    · rw [heldI0_ev]
      refine T.h_need (decide_eq_true ⟨hm, hn, ?_, cmkIi_out hc, Int.le_refl 0, Int.natCast_nonneg n⟩) (T.h_leaf hl)
      show (1 : Int) = 1 * 0 + 1
      omega
  · exact h.elim)).su.own).pick k_heldIN (by kernel_rfl) nilArg
structure CeqrI where
  n : Nat
  m : Nat
  n2 : Nat
  m2 : Nat
  f0 : Nat → Int
  g0 : Nat → Int
def CeqrI.base (c : CeqrI) : Mem := [some (.cols c.m [.num .i64 c.f0]), some (.cols c.m2 [.num .i64 c.g0])]
structure VeqrI where
  i : Int
noncomputable abbrev eqrIRoot : Code := bodyOf Try.f18
def eqrI_st (c : CeqrI) (v : VeqrI) : FSt := ⟨[(0, .one (.su 0 1 0 c.n false)), (1, .one (.su 1 1 0 c.n2 false)), (5, .one (.num .i64 v.i))], c.base ++ []⟩
def eqrI_step (c : CeqrI) (v : VeqrI) : T (Nx VeqrI) :=
  .ite (decide (v.1 < ↑c.1)) (.need (decide (0 ≤ v.1) && decide (v.1 < ↑c.1)) (.need (decide (v.1.toNat + 0 < c.2)) (.need (decide (0 ≤ v.1) && decide (v.1 < ↑c.3)) (.need (decide (v.1.toNat + 0 < c.4)) (.ite (!decide (c.5 (v.1.toNat + 0) = c.6 (v.1.toNat + 0))) (.leaf (.out (EX.ret) ⟨[(0, AV.one (SV.su 0 1 0 c.1 false)), (1, AV.one (SV.su 1 1 0 c.3 false)), (5, AV.one (SV.num IntKind.i64 v.1))], c.base ++ []⟩)) (.leaf (.go { i := IntKind.i64.wrap (v.1 + 1) }))))))) (.leaf (.out (EX.exit 0) ⟨[(0, AV.one (SV.su 0 1 0 c.1 false)), (1, AV.one (SV.su 1 1 0 c.3 false)), (5, AV.one (SV.num IntKind.i64 v.1))], c.base ++ []⟩))
theorem eqrI_round (c : CeqrI) (v : VeqrI) : roundF Try.prog 26 [] eqrIRoot [] c.base [0, 1, 4, 5, 10, 14, 25, 198] [0, 1, 5] 0 (eqrI_st c v) = (eqrI_step c v).map (nxF (eqrI_st c)) := by kernel_rfl
def eqrI_g (c : CeqrI) (j : Nat) (a : Unit) : Unit := a
def eqrI_ok (c : CeqrI) (v : VeqrI) : Bool := decide (c.n ≤ c.m ∧ c.n2 = c.n ∧ c.n ≤ c.m2 ∧ c.n ≤ 1048576 ∧ (∀ i, i < c.n → c.f0 i = c.g0 i) ∧ 0 ≤ v.i ∧ v.i ≤ ((c.n : Nat) : Int))
def eqrI_fin (c : CeqrI) (a : Unit) : FSt := eqrI_st c ({ i := (c.n : Int) })
noncomputable def eqrI_R (x : CeqrI × VeqrI) : T (EX × FSt) := .need (eqrI_ok x.1 x.2) (.leaf (.normal, eqrI_fin x.1 (iter (eqrI_g x.1) (x.1.n - x.2.i.toNat) x.2.i.toNat ())))
theorem eqrI_tri (x : CeqrI × VeqrI) : TriR Try.prog 26 x.1.base (.block 0 (.loop (bodyB eqrIRoot 0))) (eqrI_st x.1 x.2) (eqrI_R x) := by
  obtain ⟨c, v⟩ := x
  refine triR_of mix (root := eqrIRoot) (by kernel_rfl) (by kernel_rfl) [0, 1, 4, 5, 10, 14, 25, 198] [0, 1, 5] (eqrI_st c) (eqrI_step c) (eqrI_round c) v _ ((c.n - v.i.toNat) + 1) (fun Φ h => ?_)
  have h0 := h.1
  have h1 : Φ (.normal, eqrI_fin c (iter (eqrI_g c) (c.n - v.i.toNat) v.i.toNat ())) := h.2
  simp only [eqrI_ok, decide_eq_true_eq] at h0
  obtain ⟨hk0, hk1, hk2, hk3, hk4, hi0, hin⟩ := h0
  have hv : v = (fun (j : Nat) (a : Unit) => ({ i := (j : Int) } : VeqrI)) v.i.toNat () := by
    obtain ⟨i⟩ := v
    have hi0 : 0 ≤ i := hi0
    simp only [Int.toNat_of_nonneg hi0]
  have key := T_iter (eqrI_step c) (fun (j : Nat) (a : Unit) => ({ i := (j : Int) } : VeqrI)) c.n (eqrI_g c) (fun a => (.exit 0, eqrI_fin c a)) (fun j a hj Ψ hΨ => ?_) (fun a Ψ hΨ => ?_) (fun a => by simp) (c.n - v.i.toNat) v.i.toNat () (by omega) (fun r => Φ (blkEx 0 r.1, r.2)) (by simpa [blkEx] using h1)
  · exact (congrArg (fun z => (loopTree (eqrI_step c) (c.n - v.i.toNat + 1) z).holds fun r => Φ (blkEx 0 r.1, r.2)) hv).mpr key
  · unfold eqrI_step
    refine (T.h_ite (fun _ => ?_) (fun hc => absurd hc (by simp <;> omega)))
    refine (T.h_need (by simp <;> omega) (T.h_need (by simp <;> omega) (T.h_need (by simp <;> omega) (T.h_need (by simp <;> omega) (T.h_ite (fun hc => absurd hc (by have := hk4 j (by omega); simp [this])) (fun _ => ?_))))))
    refine T.h_leaf ?_
    rw [wrap_next (by omega)]
    exact hΨ
  · unfold eqrI_step
    refine (T.h_ite (fun hc => absurd hc (by simp <;> omega)) (fun _ => T.h_leaf hΨ.2))

def eqrI_dec (b : Mem) (f : FSt) : Option (CeqrI × VeqrI) :=
  match getSu 0 1 (findF 0 f.sl), getSu 1 1 (findF 1 f.sl), getI (findF 5 f.sl), id b, f.mem with
  | some (0, n_), some (0, n2_), some q_i, [some (.cols m_ [.num .i64 f0_]), some (.cols m2_ [.num .i64 g0_])], [_, _] => some ({ n := n_, m := m_, n2 := n2_, m2 := m2_, f0 := f0_, g0 := g0_ }, { i := q_i })
  | _, _, _, _, _ => none
theorem eqrI_dec_ok (b : Mem) (f : FSt) (x : CeqrI × VeqrI) (h : eqrI_dec b f = some x) : b = x.1.base ∧ FLe b f (eqrI_st x.1 x.2) := by
  unfold eqrI_dec at h
  split at h
  · rename_i e0 e1 e2 hb hm
    cases h
    have hb : b = _ := hb
    subst hb
    refine ⟨rfl, fle_of (fun p hp => ?_) (by rw [hm]; exact trivial)⟩
    simp only [List.mem_cons, List.not_mem_nil, or_false] at hp
    rcases hp with rfl | rfl | rfl
    · exact getSu_rel e0
    · exact getSu_rel e1
    · exact getI_rel e2
  · cases h
noncomputable def eqrI_sum : SumF Try.prog 26 eqrIRoot :=
  sumL (pathB eqrIRoot 0) eqrI_dec (fun x => x.1.base) (fun x => eqrI_st x.1 x.2) eqrI_R eqrI_dec_ok (by
    intro code hc x
    have hc2 : code = .block 0 (.loop (bodyB eqrIRoot 0)) := by
      have h : subR eqrIRoot (pathB eqrIRoot 0) = some (.block 0 (.loop (bodyB eqrIRoot 0))) := by kernel_rfl
      rw [h] at hc; cases hc; rfl
    subst hc2
    exact eqrI_tri x)

noncomputable def k_eqI0 : Ctr Try.prog := (mkF0 Try.prog mix [] 18 Try.f18 (bodyOf Try.f18) Try.func18 (by kernel_rfl) (by kernel_rfl) [0, 1, 4, 5, 10, 14, 25, 198] 26 (by kernel_rfl) (by kernel_rfl) [eqrI_sum]).mg
noncomputable def k_eqIN : Ctr Try.prog := mkF Try.prog mix [] 18 Try.f18 (bodyOf Try.f18) Try.func18 (by kernel_rfl) (by kernel_rfl) [0, 1, 4, 5, 10, 14, 25] 26 (by kernel_rfl) (by kernel_rfl)
def sameCIi (n : Nat) (f g : Nat → Int) : Bool := decide (∀ i, i < n → f i = g i)
theorem sameCIi_mk (n : Nat) (f : Nat → Int) : sameCIi n f f = true := decide_eq_true fun _ _ => rfl
theorem sameCIi_out {n : Nat} {f g : Nat → Int} (h : sameCIi n f g = true) : ∀ i, i < n → f i = g i := of_decide_eq_true h
def run_eqI : List AV → Mem → T Res
  | [.one (.su 0 1 0 n false), .one (.su 1 1 0 n2 false)], [some (.cols m [.num .i64 f0]), some (.cols m2 [.num .i64 g0])] => .need (decide (n2 = n)) (.need (decide (n ≤ m)) (.need (decide (n ≤ m2)) (.need (decide (n ≤ 1048576)) (.need (sameCIi n f0 g0) (.leaf (.one (.tt true), []))))))
  | _, _ => .fail
theorem eqI0_ev (n m n2 m2 : Nat) (f0 : Nat → Int) (g0 : Nat → Int) : k_eqI0.run [.one (.su 0 1 0 n false), .one (.su 1 1 0 n2 false)] [some (.cols m [.num .i64 f0]), some (.cols m2 [.num .i64 g0])] =
    T.need (bif !decide ((n : Int) = (n2 : Int)) then true else eqrI_ok { n := n, m := m, n2 := n2, m2 := m2, f0 := f0, g0 := g0 } { i := 0 }) (T.leaf (AV.one (SV.bo !!decide ((n : Int) = (n2 : Int))), [])) := by kernel_rfl
noncomputable def k_eqI : Ctr Try.prog := ((k_eqI0.to run_eqI (by
  intro args mem _
  unfold run_eqI
  split
  · rename_i n n2 m f0 m2 g0 _
    rw [eqI0_ev]
    constructor
    intro Φ hΦ h
    have hn2 : n2 = n := of_decide_eq_true h.1
    have hm : n ≤ m := of_decide_eq_true h.2.1
    have hm2 : n ≤ m2 := of_decide_eq_true h.2.2.1
    have hn : n ≤ 1048576 := of_decide_eq_true h.2.2.2.1
    have hc := h.2.2.2.2.1
    have hl : Φ (.one (.tt true), []) := h.2.2.2.2.2
    subst hn2
    refine T.h_need (needT fun _ => decide_eq_true ⟨hm, rfl, hm2, hn, sameCIi_out hc, Int.le_refl 0, Int.natCast_nonneg _⟩) (T.h_leaf (hΦ _ _ (le2_tb ?_) hl))
    simp
  · exact Weak.fail _)).su.own).pick k_eqIN (by kernel_rfl) nilArg

end Go.Proofs.Ytdlamanfolijlaa
