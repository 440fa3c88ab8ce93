/-
  Marks in rows, rows compared: Float32. No conditions.
-/
import Derived.Test.YtkjggmfblkkopaaRw
import Derived.Test.YtkjggmfblkkopaaEq
namespace Go.Proofs.Ytkjggmfblkkopaa
set_option linter.unusedVariables false
set_option linter.unusedSimpArgs false
open Go.RowKit

def mkFf (c : Nat) (i : Nat) :  Nat := fint .f32 ((1 * i + c + 1 : Nat) : Int)
structure CmkF where
  n : Nat
  m : Nat
def CmkF.base (c : CmkF) : Mem := [none]
structure VmkF where
  i : Int
  k : Int
  a0 : Nat → Nat
noncomputable abbrev mkFRoot : Code := bodyOf Try.f39
def mkF_st (c : CmkF) (v : VmkF) : FSt := ⟨[(0, .one (.su 1 1 0 c.n false)), (1, .one (.num .i64 v.k)), (5, .one (.num .i64 v.i)), (999, .tie 0 1)], c.base ++ [some (.cols c.m [.fl .f32 v.a0])]⟩
def mkF_step (c : CmkF) (v : VmkF) : T (Nx VmkF) :=
  .ite (decide (v.1 < ((c.1 : Nat) : Int))) (.need (decide (0 ≤ v.1) && decide (v.1 < ((c.1 : Nat) : Int))) (.need (decide (v.1.toNat + 0 < c.2)) (.leaf (.go { i := IntKind.i64.wrap (v.1 + 1), k := IntKind.i64.wrap (v.2 + 1), a0 := fun q => if q = v.i.toNat + 0 then fint FloatKind.f32 v.k else v.a0 q })))) (.leaf (.out (EX.exit 0) ⟨[(0, AV.one (SV.su 1 1 0 c.1 false)), (1, AV.one (SV.num IntKind.i64 v.2)), (5, AV.one (SV.num IntKind.i64 v.1)), (999, AV.tie 0 1)], c.base ++ [some (.cols c.m [.fl .f32 v.a0])]⟩))
theorem mkF_round (c : CmkF) (v : VmkF) : roundF Try.prog 20 [] mkFRoot [] c.base [0, 1, 4, 5, 9, 198, 999] [0, 1, 5, 999] 0 (mkF_st c v) = (mkF_step c v).map (nxF (mkF_st c)) := by kernel_rfl
def mkF_g (c : CmkF) (j : Nat) (a : (Nat → Nat)) : (Nat → Nat) := (fun q => if q = j then mkFf 0 j else a q)
def mkF_ok (c : CmkF) (v : VmkF) : Bool := decide (c.n ≤ c.m ∧ c.n ≤ 1048576 ∧ v.k = 1 * v.i + 1 ∧ 0 ≤ v.i ∧ v.i ≤ ((c.n : Nat) : Int))
def mkF_fin (c : CmkF) (a : (Nat → Nat)) : FSt := mkF_st c ({ i := (c.n : Int), k := 1 * (c.n : Int) + 1, a0 := a })
noncomputable def mkF_R (x : CmkF × VmkF) : T (EX × FSt) := .need (mkF_ok x.1 x.2) (.leaf (.normal, mkF_fin x.1 (iter (mkF_g x.1) (x.1.n - x.2.i.toNat) x.2.i.toNat x.2.a0)))
theorem mkF_tri (x : CmkF × VmkF) : TriR Try.prog 20 x.1.base (.block 0 (.loop (bodyB mkFRoot 0))) (mkF_st x.1 x.2) (mkF_R x) := by
  obtain ⟨c, v⟩ := x
  refine triR_of mix (root := mkFRoot) (by kernel_rfl) (by kernel_rfl) [0, 1, 4, 5, 9, 198, 999] [0, 1, 5, 999] (mkF_st c) (mkF_step c) (mkF_round c) v _ ((c.n - v.i.toNat) + 1) (fun Φ h => ?_)
  have h0 := h.1
  have h1 : Φ (.normal, mkF_fin c (iter (mkF_g c) (c.n - v.i.toNat) v.i.toNat v.a0)) := h.2
  simp only [mkF_ok, decide_eq_true_eq] at h0
  obtain ⟨hk0, hk1, hk2, hi0, hin⟩ := h0
  have hv : v = (fun (j : Nat) (a : (Nat → Nat)) => ({ i := (j : Int), k := 1 * (j : Int) + 1, a0 := a } : VmkF)) v.i.toNat v.a0 := by
    obtain ⟨i, k, a0⟩ := v
    have hi0 : 0 ≤ i := hi0
    have hk2 : k = 1 * i + 1 := hk2
    subst hk2
    simp only [Int.toNat_of_nonneg hi0]
  have key := T_iter (mkF_step c) (fun (j : Nat) (a : (Nat → Nat)) => ({ i := (j : Int), k := 1 * (j : Int) + 1, a0 := a } : VmkF)) c.n (mkF_g c) (fun a => (.exit 0, mkF_fin c a)) (fun j a hj Ψ hΨ => ?_) (fun a Ψ hΨ => ?_) (fun a => by simp) (c.n - v.i.toNat) v.i.toNat v.a0 (by omega) (fun r => Φ (blkEx 0 r.1, r.2)) (by simpa [blkEx] using h1)
  · exact (congrArg (fun z => (loopTree (mkF_step c) (c.n - v.i.toNat + 1) z).holds fun r => Φ (blkEx 0 r.1, r.2)) hv).mpr key
  · unfold mkF_step
    refine (T.h_ite (fun _ => ?_) (fun hc => absurd hc (by simp <;> omega)))
    refine (T.h_need (by simp <;> omega) (T.h_need (by simp <;> omega) ?_))
    refine T.h_leaf ?_
    rw [wrap_next (by omega)]
    have e1 : IntKind.i64.wrap (1 * (j : Int) + 1 + 1) = 1 * ((j + 1 : Nat) : Int) + 1 := by rw [IntWalk.i64_in _ (by omega)]; omega
    have e0 : 1 * (j : Int) + 1 = ((1 * j + 0 + 1 : Nat) : Int) := by omega
    rw [e1, e0]
    exact hΨ
  · unfold mkF_step
    refine (T.h_ite (fun hc => absurd hc (by simp <;> omega)) (fun _ => T.h_leaf hΨ.2))

def mkF_dec (b : Mem) (f : FSt) : Option (CmkF × VmkF) :=
  match getSu 1 1 (findF 0 f.sl), getTie (findF 999 f.sl), getI (findF 5 f.sl), getI (findF 1 f.sl), id b, f.mem with
  | some (0, n_), some (), some q_i, some q_k, [none], [_, some (.cols m_ [.fl .f32 q_a0])] => some ({ n := n_, m := m_ }, { i := q_i, k := q_k, a0 := q_a0 })
  | _, _, _, _, _, _ => none
theorem mkF_dec_ok (b : Mem) (f : FSt) (x : CmkF × VmkF) (h : mkF_dec b f = some x) : b = x.1.base ∧ FLe b f (mkF_st x.1 x.2) := by
  unfold mkF_dec at h
  split at h
  · rename_i e0 e1 e2 e3 hb hm
    cases h
    have hb : b = _ := hb
    subst hb
    refine ⟨rfl, fle_of (fun p hp => ?_) (by rw [hm]; exact memLe_refl _)⟩
    simp only [List.mem_cons, List.not_mem_nil, or_false] at hp
    rcases hp with rfl | rfl | rfl | rfl
    · exact getSu_rel e0
    · exact getI_rel e3
    · exact getI_rel e2
    · exact getTie_rel e1
  · cases h
noncomputable def mkF_sum : SumF Try.prog 20 mkFRoot :=
  sumL (pathB mkFRoot 0) mkF_dec (fun x => x.1.base) (fun x => mkF_st x.1 x.2) mkF_R mkF_dec_ok (by
    intro code hc x
    have hc2 : code = .block 0 (.loop (bodyB mkFRoot 0)) := by
      have h : subR mkFRoot (pathB mkFRoot 0) = some (.block 0 (.loop (bodyB mkFRoot 0))) := by kernel_rfl
      rw [h] at hc; cases hc; rfl
    subst hc2
    exact mkF_tri x)

noncomputable def w_mkF0 : Wr Try.prog 39 := mkW Try.prog mix [] 39 Try.f39 (bodyOf Try.f39) Try.func39 (by kernel_rfl) (by kernel_rfl) [0, 1, 4, 5, 9, 198, 999] 20 (by kernel_rfl) (by kernel_rfl) [mkF_sum]
theorem mkF_fill (n m : Nat) (a : (Nat → Nat)) (i : Nat) (hi : i < n) : (iter (mkF_g { n := n, m := m }) n 0 a) i = mkFf 0 i :=
  fillG (mkF_g { n := n, m := m }) (fun a => a) (mkFf 0) (fun j a q h => if_neg h) (fun j a => if_pos rfl) n 0 a i (Nat.zero_le i) (by omega)
def run_markF : List AV → Blk → T (AV × Blk)
  | [.one (.sl 1 1 0 n cap kn), .one (.int .i64 k)], .cols m [.fl .f32 f0] => .need (decide (n ≤ cap)) (.need (decide (n ≤ m)) (.need (decide (n ≤ 1048576)) (.need (decide (k = 1)) (.leaf ((.one (.num .i64 (1 * (n : Int) + 1))), .cols n [.fl .f32 (mkFf 0)])))))
  | [.one (.su 1 1 0 n kn), .one (.int .i64 k)], .cols m [.fl .f32 f0] => .need (decide (n ≤ m)) (.need (decide (n ≤ 1048576)) (.need (decide (k = 1)) (.leaf ((.one (.num .i64 (1 * (n : Int) + 1))), .cols n [.fl .f32 (mkFf 0)]))))
  | _, _ => .fail
theorem w_mkF0_ev (n m : Nat) (f0 : Nat → Nat) : w_mkF0.run [.one (.su 1 1 0 n false), .one (.num .i64 1)] (.cols m [.fl .f32 f0]) =
    .need (mkF_ok { n := n, m := m } { i := 0, k := 1, a0 := f0 }) (.leaf ((.one (.num .i64 (1 * (n : Int) + 1))), .cols m [.fl .f32 (iter (mkF_g { n := n, m := m }) n 0 f0)])) := by kernel_rfl
theorem w_mkF_in (n m : Nat) (f0 : Nat → Nat) (hm : n ≤ m) (hn : n ≤ 1048576) (Φ : AV × Blk → Prop) (hΦ : ∀ r s : AV × Blk, (∀ ρ v, r.1.rel ρ v → s.1.rel ρ v) → BlLe r.2 s.2 → Φ s → Φ r) (h : Φ ((.one (.num .i64 (1 * (n : Int) + 1))), .cols n [.fl .f32 (mkFf 0)])) :
    (w_mkF0.run [.one (.su 1 1 0 n false), .one (.num .i64 1)] (.cols m [.fl .f32 f0])).holds Φ := by
  rw [w_mkF0_ev]
  have hbl : BlLe (.cols n [.fl .f32 (iter (mkF_g { n := n, m := m }) n 0 f0)]) (.cols n [.fl .f32 (mkFf 0)]) := by
    refine BlLe.cols_eq (fun i hi => ?_) (by simp only [List.length_cons, List.length_nil])
    obtain h0 := mkF_fill n m f0 i hi
    simp only [colsAt, Col.at, h0]
  have hbl2 : BlLe (.cols m [.fl .f32 (iter (mkF_g { n := n, m := m }) n 0 f0)]) (.cols n [.fl .f32 (iter (mkF_g { n := n, m := m }) n 0 f0)]) := BlLe.cols_le hm
  have hok : mkF_ok { n := n, m := m } { i := 0, k := 1, a0 := f0 } = true := by
    unfold mkF_ok
    refine decide_eq_true ⟨hm, hn, ?_, Int.le_refl 0, Int.natCast_nonneg n⟩
    show (1 : Int) = 1 * 0 + 1
    omega
  exact T.h_need hok (T.h_leaf (hΦ _ ((.one (.num .i64 (1 * (n : Int) + 1))), .cols n [.fl .f32 (mkFf 0)]) (fun _ _ hv => hv) (fun ρ w b o hb => hbl ρ w b o (hbl2 ρ w b o hb)) h))
set_option maxHeartbeats 4000000 in
noncomputable def w_markF : Wr Try.prog 39 := w_mkF0.re run_markF (by
  intro args C Φ hΦ h
  unfold run_markF at h
  split at h
  · rename_i n cap kn k m f0
    have hk : k = 1 := of_decide_eq_true h.2.2.2.1
    have h0 : n ≤ cap := of_decide_eq_true h.1
    subst hk
    have hm : n ≤ m := of_decide_eq_true h.2.1
    have hn : n ≤ 1048576 := of_decide_eq_true h.2.2.1
    have hl : Φ ((.one (.num .i64 (1 * (n : Int) + 1))), .cols n [.fl .f32 (mkFf 0)]) := h.2.2.2.2
    have key := w_mkF_in n m f0 hm hn Φ hΦ hl
    refine Exists.intro [.one (.su 1 1 0 n false), .one (.num .i64 1)] (And.intro ?_ ?_)
    · intro ρ vals hv
      exact slargs h0 hv
    · exact key
  · rename_i n kn k m f0
    have hk : k = 1 := of_decide_eq_true h.2.2.1
    subst hk
    have hm : n ≤ m := of_decide_eq_true h.1
    have hn : n ≤ 1048576 := of_decide_eq_true h.2.1
    have hl : Φ ((.one (.num .i64 (1 * (n : Int) + 1))), .cols n [.fl .f32 (mkFf 0)]) := h.2.2.2
    have key := w_mkF_in n m f0 hm hn Φ hΦ hl
    refine Exists.intro [.one (.su 1 1 0 n false), .one (.num .i64 1)] (And.intro ?_ ?_)
    · intro ρ vals hv
      exact suargs hv
    · exact key
  · exact h.elim)
noncomputable def k_markFN : Ctr Try.prog := mkF Try.prog mix [] 39 Try.f39 (bodyOf Try.f39) Try.func39 (by kernel_rfl) (by kernel_rfl) [0, 1, 4, 5, 9] 20 (by kernel_rfl) (by kernel_rfl)
noncomputable def k_markF : Ctr Try.prog := k_markFN.withW w_markF
structure CheF where
  n : Nat
  m : Nat
  f0 : Nat → Nat
def CheF.base (c : CheF) : Mem := [some (.cols c.m [.fl .f32 c.f0])]
structure VheF where
  i : Int
  k : Int
noncomputable abbrev heFRoot : Code := bodyOf Try.f40
def heF_st (c : CheF) (v : VheF) : FSt := ⟨[(0, .one (.su 0 1 0 c.n false)), (1, .one (.num .i64 v.k)), (5, .one (.num .i64 v.i))], c.base ++ []⟩
def heF_step (c : CheF) (v : VheF) : T (Nx VheF) :=
  .ite (decide (v.1 < ((c.1 : Nat) : Int))) (.need (decide (0 ≤ v.1) && decide (v.1 < ((c.1 : Nat) : Int))) (.need (decide (v.1.toNat + 0 < c.2)) (.ite (!feq FloatKind.f32 (c.3 (v.1.toNat + 0)) (fint FloatKind.f32 v.2)) (.leaf (.out (EX.ret) ⟨[(0, AV.one (SV.su 0 1 0 c.1 false)), (1, AV.one (SV.num IntKind.i64 v.2)), (5, AV.one (SV.num IntKind.i64 v.1))], c.base ++ []⟩)) (.leaf (.go { i := IntKind.i64.wrap (v.1 + 1), k := IntKind.i64.wrap (v.2 + 1) }))))) (.leaf (.out (EX.exit 0) ⟨[(0, AV.one (SV.su 0 1 0 c.1 false)), (1, AV.one (SV.num IntKind.i64 v.2)), (5, AV.one (SV.num IntKind.i64 v.1))], c.base ++ []⟩))
theorem heF_round (c : CheF) (v : VheF) : roundF Try.prog 22 [] heFRoot [] c.base [0, 1, 4, 5, 9, 18, 198] [0, 1, 5] 0 (heF_st c v) = (heF_step c v).map (nxF (heF_st c)) := by kernel_rfl
def heF_g (c : CheF) (j : Nat) (a : Unit) : Unit := a
def heF_ok (c : CheF) (v : VheF) : Bool := decide (c.n ≤ c.m ∧ c.n ≤ 1048576 ∧ v.k = 1 * v.i + 1 ∧ (∀ i, i < c.n → c.f0 i = mkFf 0 i) ∧ 0 ≤ v.i ∧ v.i ≤ ((c.n : Nat) : Int))
def heF_fin (c : CheF) (a : Unit) : FSt := heF_st c ({ i := (c.n : Int), k := 1 * (c.n : Int) + 1 })
noncomputable def heF_R (x : CheF × VheF) : T (EX × FSt) := .need (heF_ok x.1 x.2) (.leaf (.normal, heF_fin x.1 (iter (heF_g x.1) (x.1.n - x.2.i.toNat) x.2.i.toNat ())))
theorem heF_tri (x : CheF × VheF) : TriR Try.prog 22 x.1.base (.block 0 (.loop (bodyB heFRoot 0))) (heF_st x.1 x.2) (heF_R x) := by
  obtain ⟨c, v⟩ := x
  refine triR_of mix (root := heFRoot) (by kernel_rfl) (by kernel_rfl) [0, 1, 4, 5, 9, 18, 198] [0, 1, 5] (heF_st c) (heF_step c) (heF_round c) v _ ((c.n - v.i.toNat) + 1) (fun Φ h => ?_)
  have h0 := h.1
  have h1 : Φ (.normal, heF_fin c (iter (heF_g c) (c.n - v.i.toNat) v.i.toNat ())) := h.2
  simp only [heF_ok, decide_eq_true_eq] at h0
  obtain ⟨hk0, hk1, hk2, hk3, hi0, hin⟩ := h0
  have hv : v = (fun (j : Nat) (a : Unit) => ({ i := (j : Int), k := 1 * (j : Int) + 1 } : VheF)) v.i.toNat () := by
    obtain ⟨i, k⟩ := v
    have hi0 : 0 ≤ i := hi0
    have hk2 : k = 1 * i + 1 := hk2
    subst hk2
    simp only [Int.toNat_of_nonneg hi0]
  have key := T_iter (heF_step c) (fun (j : Nat) (a : Unit) => ({ i := (j : Int), k := 1 * (j : Int) + 1 } : VheF)) c.n (heF_g c) (fun a => (.exit 0, heF_fin c a)) (fun j a hj Ψ hΨ => ?_) (fun a Ψ hΨ => ?_) (fun a => by simp) (c.n - v.i.toNat) v.i.toNat () (by omega) (fun r => Φ (blkEx 0 r.1, r.2)) (by simpa [blkEx] using h1)
  · exact (congrArg (fun z => (loopTree (heF_step c) (c.n - v.i.toNat + 1) z).holds fun r => Φ (blkEx 0 r.1, r.2)) hv).mpr key
  · unfold heF_step
    have e1 : IntKind.i64.wrap (1 * (j : Int) + 1 + 1) = 1 * ((j + 1 : Nat) : Int) + 1 := by rw [IntWalk.i64_in _ (by omega)]; omega
    have e0 : 1 * (j : Int) + 1 = ((1 * j + 0 + 1 : Nat) : Int) := by omega
    refine (T.h_ite (fun _ => ?_) (fun hc => absurd hc (by simp <;> omega)))
    refine (T.h_need (by simp <;> omega) (T.h_need (by simp <;> omega) (T.h_ite (fun hc => absurd hc (held_fl (hk3 j (by omega)) (by rw [e0]))) (fun _ => ?_))))
    refine T.h_leaf ?_
    rw [wrap_next (by omega)]
    rw [e1]
    exact hΨ
  · unfold heF_step
    refine (T.h_ite (fun hc => absurd hc (by simp <;> omega)) (fun _ => T.h_leaf hΨ.2))

def heF_dec (b : Mem) (f : FSt) : Option (CheF × VheF) :=
  match getSu 0 1 (findF 0 f.sl), getI (findF 5 f.sl), getI (findF 1 f.sl), id b, f.mem with
  | some (0, n_), some q_i, some q_k, [some (.cols m_ [.fl .f32 f0_])], [_] => some ({ n := n_, m := m_, f0 := f0_ }, { i := q_i, k := q_k })
  | _, _, _, _, _ => none
theorem heF_dec_ok (b : Mem) (f : FSt) (x : CheF × VheF) (h : heF_dec b f = some x) : b = x.1.base ∧ FLe b f (heF_st x.1 x.2) := by
  unfold heF_dec at h
  split at h
  · rename_i e0 e1 e2 hb hm
    cases h
    have hb : b = _ := hb
    subst hb
    refine ⟨rfl, fle_of (fun p hp => ?_) (by rw [hm]; exact trivial)⟩
    simp only [List.mem_cons, List.not_mem_nil, or_false] at hp
    rcases hp with rfl | rfl | rfl
    · exact getSu_rel e0
    · exact getI_rel e2
    · exact getI_rel e1
  · cases h
noncomputable def heF_sum : SumF Try.prog 22 heFRoot :=
  sumL (pathB heFRoot 0) heF_dec (fun x => x.1.base) (fun x => heF_st x.1 x.2) heF_R heF_dec_ok (by
    intro code hc x
    have hc2 : code = .block 0 (.loop (bodyB heFRoot 0)) := by
      have h : subR heFRoot (pathB heFRoot 0) = some (.block 0 (.loop (bodyB heFRoot 0))) := by kernel_rfl
      rw [h] at hc; cases hc; rfl
    subst hc2
    exact heF_tri x)

noncomputable def k_heldF0 : Ctr Try.prog := (mkF0 Try.prog mix [] 40 Try.f40 (bodyOf Try.f40) Try.func40 (by kernel_rfl) (by kernel_rfl) [0, 1, 4, 5, 9, 18, 198] 22 (by kernel_rfl) (by kernel_rfl) [heF_sum]).mg
noncomputable def k_heldFN : Ctr Try.prog := mkF Try.prog mix [] 40 Try.f40 (bodyOf Try.f40) Try.func40 (by kernel_rfl) (by kernel_rfl) [0, 1, 4, 5, 9, 18] 22 (by kernel_rfl) (by kernel_rfl)
def cmkFf (n : Nat) (f : Nat → Nat) (c : Nat) : Bool := decide (∀ i, i < n → f i = mkFf c i)
theorem cmkFf_mk (n c : Nat) : cmkFf n (mkFf c) c = true := decide_eq_true fun _ _ => rfl
theorem cmkFf_out {n c : Nat} {f : Nat → Nat} (h : cmkFf n f c = true) : ∀ i, i < n → f i = mkFf c i := of_decide_eq_true h
def run_heldF : List AV → Mem → T Res
  | [.one (.su 0 1 0 n false), .one (.int .i64 k)], [some (.cols m [.fl .f32 f0])] => .need (decide (k = 1)) (.need (decide (n ≤ m)) (.need (decide (n ≤ 1048576)) (.need (cmkFf n f0 0) (.leaf ((.one (.num .i64 (1 * (n : Int) + 1))), [])))))
  | _, _ => .fail
theorem heldF0_ev (n m : Nat) (f0 : Nat → Nat) : k_heldF0.run [.one (.su 0 1 0 n false), .one (.num .i64 1)] [some (.cols m [.fl .f32 f0])] =
    .need (heF_ok { n := n, m := m, f0 := f0 } { i := 0, k := 1 }) (.leaf ((.one (.num .i64 (1 * (n : Int) + 1))), [])) := by kernel_rfl
noncomputable def k_heldF : Ctr Try.prog := ((k_heldF0.re run_heldF (by
  intro args mem hfine Φ hΦ h
  unfold run_heldF at h
  split at h
  · rename_i n k m f0
    have hk : k = 1 := of_decide_eq_true h.1
    have hm : n ≤ m := of_decide_eq_true h.2.1
    have hn : n ≤ 1048576 := of_decide_eq_true h.2.2.1
    have hc := h.2.2.2.1
    have hl := h.2.2.2.2
    subst hk
    refine Exists.intro [.one (.su 0 1 0 n false), .one (.num .i64 1)] (Exists.intro _ (And.intro ?_ (And.intro (MemLe.refl _) ?_)))
    · intro ρ vals hv
      exact suargs hv
    · rw [heldF0_ev]
      refine T.h_need (decide_eq_true ⟨hm, hn, ?_, cmkFf_out hc, Int.le_refl 0, Int.natCast_nonneg n⟩) (T.h_leaf hl)
      show (1 : Int) = 1 * 0 + 1
      omega
  · exact h.elim)).su.own).pick k_heldFN (by kernel_rfl) nilArg
structure CeqrF where
  n : Nat
  m : Nat
  n2 : Nat
  m2 : Nat
  f0 : Nat → Nat
  g0 : Nat → Nat
def CeqrF.base (c : CeqrF) : Mem := [some (.cols c.m [.fl .f32 c.f0]), some (.cols c.m2 [.fl .f32 c.g0])]
structure VeqrF where
  i : Int
noncomputable abbrev eqrFRoot : Code := bodyOf Try.f38
def eqrF_st (c : CeqrF) (v : VeqrF) : FSt := ⟨[(0, .one (.su 0 1 0 c.n false)), (1, .one (.su 1 1 0 c.n2 false)), (5, .one (.num .i64 v.i))], c.base ++ []⟩
def eqrF_step (c : CeqrF) (v : VeqrF) : T (Nx VeqrF) :=
  .ite (decide (v.1 < ((c.1 : Nat) : Int))) (.need (decide (0 ≤ v.1) && decide (v.1 < ((c.1 : Nat) : Int))) (.need (decide (v.1.toNat + 0 < c.2)) (.need (decide (0 ≤ v.1) && decide (v.1 < ((c.3 : Nat) : Int))) (.need (decide (v.1.toNat + 0 < c.4)) (.need (decide (fcvt FloatKind.f32 FloatKind.f64 (c.5 (v.1.toNat + 0)) = fcvt FloatKind.f32 FloatKind.f64 (c.6 (v.1.toNat + 0)))) (.leaf (.go { i := IntKind.i64.wrap (v.1 + 1) }))))))) (.leaf (.out (EX.exit 0) ⟨[(0, AV.one (SV.su 0 1 0 c.1 false)), (1, AV.one (SV.su 1 1 0 c.3 false)), (5, AV.one (SV.num IntKind.i64 v.1))], c.base ++ []⟩))
theorem eqrF_round (c : CeqrF) (v : VeqrF) : roundF Try.prog 29 [k_sameFloat] eqrFRoot [] c.base [0, 1, 4, 5, 10, 14, 28, 198] [0, 1, 5] 0 (eqrF_st c v) = (eqrF_step c v).map (nxF (eqrF_st c)) := by kernel_rfl
def eqrF_g (c : CeqrF) (j : Nat) (a : Unit) : Unit := a
def eqrF_ok (c : CeqrF) (v : VeqrF) : Bool := decide (c.n ≤ c.m ∧ c.n2 = c.n ∧ c.n ≤ c.m2 ∧ c.n ≤ 1048576 ∧ (∀ i, i < c.n → c.f0 i = c.g0 i) ∧ 0 ≤ v.i ∧ v.i ≤ ((c.n : Nat) : Int))
def eqrF_fin (c : CeqrF) (a : Unit) : FSt := eqrF_st c ({ i := (c.n : Int) })
noncomputable def eqrF_R (x : CeqrF × VeqrF) : T (EX × FSt) := .need (eqrF_ok x.1 x.2) (.leaf (.normal, eqrF_fin x.1 (iter (eqrF_g x.1) (x.1.n - x.2.i.toNat) x.2.i.toNat ())))
theorem eqrF_tri (x : CeqrF × VeqrF) : TriR Try.prog 29 x.1.base (.block 0 (.loop (bodyB eqrFRoot 0))) (eqrF_st x.1 x.2) (eqrF_R x) := by
  obtain ⟨c, v⟩ := x
  refine triR_of mix (root := eqrFRoot) (by kernel_rfl) (by kernel_rfl) [0, 1, 4, 5, 10, 14, 28, 198] [0, 1, 5] (eqrF_st c) (eqrF_step c) (eqrF_round c) v _ ((c.n - v.i.toNat) + 1) (fun Φ h => ?_)
  have h0 := h.1
  have h1 : Φ (.normal, eqrF_fin c (iter (eqrF_g c) (c.n - v.i.toNat) v.i.toNat ())) := h.2
  simp only [eqrF_ok, decide_eq_true_eq] at h0
  obtain ⟨hk0, hk1, hk2, hk3, hk4, hi0, hin⟩ := h0
  have hv : v = (fun (j : Nat) (a : Unit) => ({ i := (j : Int) } : VeqrF)) v.i.toNat () := by
    obtain ⟨i⟩ := v
    have hi0 : 0 ≤ i := hi0
    simp only [Int.toNat_of_nonneg hi0]
  have key := T_iter (eqrF_step c) (fun (j : Nat) (a : Unit) => ({ i := (j : Int) } : VeqrF)) c.n (eqrF_g c) (fun a => (.exit 0, eqrF_fin c a)) (fun j a hj Ψ hΨ => ?_) (fun a Ψ hΨ => ?_) (fun a => by simp) (c.n - v.i.toNat) v.i.toNat () (by omega) (fun r => Φ (blkEx 0 r.1, r.2)) (by simpa [blkEx] using h1)
  · exact (congrArg (fun z => (loopTree (eqrF_step c) (c.n - v.i.toNat + 1) z).holds fun r => Φ (blkEx 0 r.1, r.2)) hv).mpr key
  · unfold eqrF_step
    refine (T.h_ite (fun _ => ?_) (fun hc => absurd hc (by simp <;> omega)))
    refine (T.h_need (by simp <;> omega) (T.h_need (by simp <;> omega) (T.h_need (by simp <;> omega) (T.h_need (by simp <;> omega) (T.h_need (decide_eq_true (congrArg (fcvt .f32 .f64) (hk4 j (by omega)))) ?_)))))
    refine T.h_leaf ?_
    rw [wrap_next (by omega)]
    exact hΨ
  · unfold eqrF_step
    refine (T.h_ite (fun hc => absurd hc (by simp <;> omega)) (fun _ => T.h_leaf hΨ.2))

def eqrF_dec (b : Mem) (f : FSt) : Option (CeqrF × VeqrF) :=
  match getSu 0 1 (findF 0 f.sl), getSu 1 1 (findF 1 f.sl), getI (findF 5 f.sl), id b, f.mem with
  | some (0, n_), some (0, n2_), some q_i, [some (.cols m_ [.fl .f32 f0_]), some (.cols m2_ [.fl .f32 g0_])], [_, _] => some ({ n := n_, m := m_, n2 := n2_, m2 := m2_, f0 := f0_, g0 := g0_ }, { i := q_i })
  | _, _, _, _, _ => none
theorem eqrF_dec_ok (b : Mem) (f : FSt) (x : CeqrF × VeqrF) (h : eqrF_dec b f = some x) : b = x.1.base ∧ FLe b f (eqrF_st x.1 x.2) := by
  unfold eqrF_dec at h
  split at h
  · rename_i e0 e1 e2 hb hm
    cases h
    have hb : b = _ := hb
    subst hb
    refine ⟨rfl, fle_of (fun p hp => ?_) (by rw [hm]; exact trivial)⟩
    simp only [List.mem_cons, List.not_mem_nil, or_false] at hp
    rcases hp with rfl | rfl | rfl
    · exact getSu_rel e0
    · exact getSu_rel e1
    · exact getI_rel e2
  · cases h
noncomputable def eqrF_sum : SumF Try.prog 29 eqrFRoot :=
  sumL (pathB eqrFRoot 0) eqrF_dec (fun x => x.1.base) (fun x => eqrF_st x.1 x.2) eqrF_R eqrF_dec_ok (by
    intro code hc x
    have hc2 : code = .block 0 (.loop (bodyB eqrFRoot 0)) := by
      have h : subR eqrFRoot (pathB eqrFRoot 0) = some (.block 0 (.loop (bodyB eqrFRoot 0))) := by kernel_rfl
      rw [h] at hc; cases hc; rfl
    subst hc2
    exact eqrF_tri x)

noncomputable def k_eqF0 : Ctr Try.prog := (mkF0 Try.prog mix [k_sameFloat] 38 Try.f38 (bodyOf Try.f38) Try.func38 (by kernel_rfl) (by kernel_rfl) [0, 1, 4, 5, 10, 14, 28, 198] 29 (by kernel_rfl) (by kernel_rfl) [eqrF_sum]).mg
noncomputable def k_eqFN : Ctr Try.prog := mkF Try.prog mix [] 38 Try.f38 (bodyOf Try.f38) Try.func38 (by kernel_rfl) (by kernel_rfl) [0, 1, 4, 5, 10, 14, 28] 29 (by kernel_rfl) (by kernel_rfl)
def sameCFf (n : Nat) (f g : Nat → Nat) : Bool := decide (∀ i, i < n → f i = g i)
theorem sameCFf_mk (n : Nat) (f : Nat → Nat) : sameCFf n f f = true := decide_eq_true fun _ _ => rfl
theorem sameCFf_out {n : Nat} {f g : Nat → Nat} (h : sameCFf n f g = true) : ∀ i, i < n → f i = g i := of_decide_eq_true h
def run_eqF : List AV → Mem → T Res
  | [.one (.su 0 1 0 n false), .one (.su 1 1 0 n2 false)], [some (.cols m [.fl .f32 f0]), some (.cols m2 [.fl .f32 g0])] => .need (decide (n2 = n)) (.need (decide (n ≤ m)) (.need (decide (n ≤ m2)) (.need (decide (n ≤ 1048576)) (.need (sameCFf n f0 g0) (.leaf (.one (.tt true), []))))))
  | _, _ => .fail
theorem eqF0_ev (n m n2 m2 : Nat) (f0 : Nat → Nat) (g0 : Nat → Nat) : k_eqF0.run [.one (.su 0 1 0 n false), .one (.su 1 1 0 n2 false)] [some (.cols m [.fl .f32 f0]), some (.cols m2 [.fl .f32 g0])] =
    T.need (bif !decide ((n : Int) = (n2 : Int)) then true else eqrF_ok { n := n, m := m, n2 := n2, m2 := m2, f0 := f0, g0 := g0 } { i := 0 }) (T.leaf (AV.one (SV.bo !!decide ((n : Int) = (n2 : Int))), [])) := by kernel_rfl
noncomputable def k_eqF : Ctr Try.prog := ((k_eqF0.to run_eqF (by
  intro args mem _
  unfold run_eqF
  split
  · rename_i n n2 m f0 m2 g0 _
    rw [eqF0_ev]
    constructor
    intro Φ hΦ h
    have hn2 : n2 = n := of_decide_eq_true h.1
    have hm : n ≤ m := of_decide_eq_true h.2.1
    have hm2 : n ≤ m2 := of_decide_eq_true h.2.2.1
    have hn : n ≤ 1048576 := of_decide_eq_true h.2.2.2.1
    have hc := h.2.2.2.2.1
    have hl : Φ (.one (.tt true), []) := h.2.2.2.2.2
    subst hn2
    refine T.h_need (needT fun _ => decide_eq_true ⟨hm, rfl, hm2, hn, sameCFf_out hc, Int.le_refl 0, Int.natCast_nonneg _⟩) (T.h_leaf (hΦ _ _ (le2_tb ?_) hl))
    simp
  · exact Weak.fail _)).su.own).pick k_eqFN (by kernel_rfl) nilArg

end Go.Proofs.Ytkjggmfblkkopaa
