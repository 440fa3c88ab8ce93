/-
  CoverShare: the loops of both sides. No conditions.
-/
import Derived.Test.YtkjggmfblkkopaaBo
import Derived.Test.YtkjggmfblkkopaaLs
import Derived.Test.YtkjggmfblkkopaaSc
import Derived.Test.YtkjggmfblkkopaaWd
import Derived.Test.YtkjggmfblkkopaaAn
import Derived.Test.YtkjggmfblkkopaaSi
namespace Go.Proofs.Ytkjggmfblkkopaa
set_option linter.unusedVariables false
set_option linter.unusedSimpArgs false
open Go.RowKit

noncomputable def k_s_l00In : Ctr Try.prog := (mkF Try.prog mix [] 94 Try.f94 (bodyOf Try.f94) Try.func94 (by kernel_rfl) (by kernel_rfl) [0, 1, 2, 6, 198] 15 (by kernel_rfl) (by kernel_rfl)).mg
noncomputable def k_s_l06Grid : Ctr Try.prog := (mkF Try.prog mix [k_s_l00In] 97 Try.f97 (bodyOf Try.f97) Try.func97 (by kernel_rfl) (by kernel_rfl) [0, 1, 4, 198] 11 (by kernel_rfl) (by kernel_rfl)).mg
noncomputable def k_s_l06Cosine : Ctr Try.prog := (mkF Try.prog mix [k_l01Sine] 98 Try.f98 (bodyOf Try.f98) Try.func98 (by kernel_rfl) (by kernel_rfl) [0, 2, 198] 6 (by kernel_rfl) (by kernel_rfl)).mg
noncomputable def k_s_l06Spot : Ctr Try.prog := (mkF Try.prog mix [] 99 Try.f99 (bodyOf Try.f99) Try.func99 (by kernel_rfl) (by kernel_rfl) [0, 1, 2, 6, 7, 8, 198] 34 (by kernel_rfl) (by kernel_rfl)).mg
noncomputable def k_s_l02Number : Ctr Try.prog := (mkF Try.prog mix [k_l01Finite] 66 Try.f66 (bodyOf Try.f66) Try.func66 (by kernel_rfl) (by kernel_rfl) [0, 2, 3, 6, 198] 8 (by kernel_rfl) (by kernel_rfl)).mg
noncomputable def k_i_within : Ctr Try.prog := (mkF Try.prog mix [] 96 Try.f96 (bodyOf Try.f96) Try.func96 (by kernel_rfl) (by kernel_rfl) [0, 1, 2, 6, 198] 15 (by kernel_rfl) (by kernel_rfl)).mg
noncomputable def k_i_isGrid : Ctr Try.prog := (mkF Try.prog mix [k_i_within] 100 Try.f100 (bodyOf Try.f100) Try.func100 (by kernel_rfl) (by kernel_rfl) [0, 1, 4, 198] 11 (by kernel_rfl) (by kernel_rfl)).mg
noncomputable def k_i_cos : Ctr Try.prog := (mkF Try.prog mix [k_SineTurns] 101 Try.f101 (bodyOf Try.f101) Try.func101 (by kernel_rfl) (by kernel_rfl) [0, 2, 198] 6 (by kernel_rfl) (by kernel_rfl)).mg
noncomputable def k_i_gridMark : Ctr Try.prog := (mkF Try.prog mix [] 102 Try.f102 (bodyOf Try.f102) Try.func102 (by kernel_rfl) (by kernel_rfl) [0, 1, 2, 3, 8, 198] 28 (by kernel_rfl) (by kernel_rfl)).mg
noncomputable def k_i_told : Ctr Try.prog := (mkF Try.prog mix [k_IsFinite] 69 Try.f69 (bodyOf Try.f69) Try.func69 (by kernel_rfl) (by kernel_rfl) [0, 2, 3, 6, 198] 8 (by kernel_rfl) (by kernel_rfl)).mg
structure Ccp where
  n : Nat
  m : Nat
  f0 : Nat → Bool
  w : Int
  h : Int
def Ccp.base (c : Ccp) : Mem := [some (.cols c.m [.bo c.f0])]
structure Vcp where
  i : Int
  a : Nat
  b : Nat
noncomputable abbrev cpRoot : Code := bodyOf Try.f41
def cp_st (c : Ccp) (v : Vcp) : FSt := ⟨[(0, .one (.su 0 1 0 c.n false)), (1, .one (.num .i64 c.w)), (2, .one (.num .i64 c.h)), (8, .one (.fl .f32 v.a)), (9, .one (.fl .f32 v.b)), (10, .one (.num .i64 v.i))], c.base ++ []⟩
noncomputable def spotC (w h : Int) (j : Nat) : Nat := sineV (fadd .f32 (fsub .f32 (fdiv .f32 (fint .f32 (IntKind.i64.wrap (IntKind.i64.wrap (2 * IntKind.i64.wrap ((j : Int).tdiv w)) + 1))) (fint .f32 (IntKind.i64.wrap (4 * h)))) (canon .f32 1048576000)) (canon .f32 1048576000))
noncomputable def coStep (f : Nat → Bool) (w h : Int) (j : Nat) (a : Nat × Nat) : Nat × Nat := (bif f j then fadd .f32 a.1 (spotC w h j) else a.1, fadd .f32 a.2 (spotC w h j))
noncomputable def coAll (n : Nat) (f : Nat → Bool) (w h : Int) : Nat × Nat := iter (coStep f w h) n 0 (0, 0)
noncomputable def cp_step (c : Ccp) (v : Vcp) : T (Nx Vcp) :=
  .ite (decide (v.1 < IntKind.i64.wrap (c.4 * c.5))) (.need (!decide (c.4 = 0)) (.need (!decide (c.4 = 0)) (.need (decide (0 ≤ v.1) && decide (v.1 < ↑c.1)) (.need (decide (v.1.toNat + 0 < c.2)) (.leaf (.go { i := IntKind.i64.wrap (v.1 + 1), a := bif c.3 (v.1.toNat + 0) then fadd FloatKind.f32 v.2 (sineV (fadd FloatKind.f32 (fsub FloatKind.f32 (fdiv FloatKind.f32 (fint FloatKind.f32 (IntKind.i64.wrap (IntKind.i64.wrap (2 * IntKind.i64.wrap (v.1.tdiv c.4)) + 1))) (fint FloatKind.f32 (IntKind.i64.wrap (4 * c.5)))) (canon FloatKind.f32 1048576000)) (canon FloatKind.f32 1048576000))) else v.2, b := fadd FloatKind.f32 v.3 (sineV (fadd FloatKind.f32 (fsub FloatKind.f32 (fdiv FloatKind.f32 (fint FloatKind.f32 (IntKind.i64.wrap (IntKind.i64.wrap (2 * IntKind.i64.wrap (v.1.tdiv c.4)) + 1))) (fint FloatKind.f32 (IntKind.i64.wrap (4 * c.5)))) (canon FloatKind.f32 1048576000)) (canon FloatKind.f32 1048576000))) })))))) (.leaf (.out (EX.exit 0) ⟨[(0, AV.one (SV.su 0 1 0 c.1 false)), (1, AV.one (SV.num IntKind.i64 c.4)), (2, AV.one (SV.num IntKind.i64 c.5)), (8, AV.one (SV.fl FloatKind.f32 v.2)), (9, AV.one (SV.fl FloatKind.f32 v.3)), (10, AV.one (SV.num IntKind.i64 v.1))], c.base ++ []⟩))
theorem cp_round (c : Ccp) (v : Vcp) : roundF Try.prog 53 [k_s_l06Spot, k_s_l06Cosine] cpRoot [] c.base [0, 1, 2, 6, 7, 8, 9, 10, 11, 23, 28, 43, 198] [0, 1, 2, 8, 9, 10] 0 (cp_st c v) = (cp_step c v).map (nxF (cp_st c)) := by kernel_rfl
noncomputable def cp_g (c : Ccp) (j : Nat) (a : Nat × Nat) : Nat × Nat := coStep c.f0 c.w c.h j a
def cp_ok (c : Ccp) (v : Vcp) : Bool := decide (c.n ≤ c.m ∧ c.n ≤ 256 ∧ 1 ≤ c.w ∧ IntKind.i64.wrap (c.w * c.h) = (c.n : Int) ∧ 0 ≤ v.i ∧ v.i ≤ ((c.n : Nat) : Int))
def cp_fin (c : Ccp) (a : Nat × Nat) : FSt := cp_st c ({ i := (c.n : Int), a := a.1, b := a.2 })
noncomputable def cp_R (x : Ccp × Vcp) : T (EX × FSt) := .need (cp_ok x.1 x.2) (.leaf (.normal, cp_fin x.1 (iter (cp_g x.1) (x.1.n - x.2.i.toNat) x.2.i.toNat (x.2.a, x.2.b))))
theorem cp_tri (x : Ccp × Vcp) : TriR Try.prog 53 x.1.base (.block 0 (.loop (bodyB cpRoot 0))) (cp_st x.1 x.2) (cp_R x) := by
  obtain ⟨c, v⟩ := x
  refine triR_of mix (root := cpRoot) (by kernel_rfl) (by kernel_rfl) [0, 1, 2, 6, 7, 8, 9, 10, 11, 23, 28, 43, 198] [0, 1, 2, 8, 9, 10] (cp_st c) (cp_step c) (cp_round c) v _ ((c.n - v.i.toNat) + 1) (fun Φ h => ?_)
  have h0 := h.1
  have h1 : Φ (.normal, cp_fin c (iter (cp_g c) (c.n - v.i.toNat) v.i.toNat (v.a, v.b))) := h.2
  simp only [cp_ok, decide_eq_true_eq] at h0
  obtain ⟨hk0, hk1, hk2, hk3, hi0, hin⟩ := h0
  have hv : v = (fun (j : Nat) (a : Nat × Nat) => ({ i := (j : Int), a := a.1, b := a.2 } : Vcp)) v.i.toNat (v.a, v.b) := by
    obtain ⟨i, a, b⟩ := v
    have hi0 : 0 ≤ i := hi0
    simp only [Int.toNat_of_nonneg hi0]
  have key := T_iter (cp_step c) (fun (j : Nat) (a : Nat × Nat) => ({ i := (j : Int), a := a.1, b := a.2 } : Vcp)) c.n (cp_g c) (fun a => (.exit 0, cp_fin c a)) (fun j a hj Ψ hΨ => ?_) (fun a Ψ hΨ => ?_) (fun a => by simp) (c.n - v.i.toNat) v.i.toNat (v.a, v.b) (by omega) (fun r => Φ (blkEx 0 r.1, r.2)) (by simpa [blkEx] using h1)
  · exact (congrArg (fun z => (loopTree (cp_step c) (c.n - v.i.toNat + 1) z).holds fun r => Φ (blkEx 0 r.1, r.2)) hv).mpr key
  · unfold cp_step
    refine (T.h_ite (fun _ => ?_) (fun hc => absurd hc (by simp <;> omega)))
    refine (T.h_need (by simp <;> omega) (T.h_need (by simp <;> omega) (T.h_need (by simp <;> omega) (T.h_need (by simp <;> omega) ?_))))
    refine T.h_leaf ?_
    rw [wrap_next (by omega)]
    exact hΨ
  · unfold cp_step
    refine (T.h_ite (fun hc => absurd hc (by simp <;> omega)) (fun _ => T.h_leaf hΨ.2))

def cp_dec (b : Mem) (f : FSt) : Option (Ccp × Vcp) :=
  match getSu 0 1 (findF 0 f.sl), getI (findF 1 f.sl), getI (findF 2 f.sl), getI (findF 10 f.sl), getF .f32 (findF 8 f.sl), getF .f32 (findF 9 f.sl), id b, f.mem with
  | some (0, n_), some w_, some h_, some q_i, some q_a, some q_b, [some (.cols m_ [.bo f0_])], [_] => some ({ n := n_, m := m_, f0 := f0_, w := w_, h := h_ }, { i := q_i, a := q_a, b := q_b })
  | _, _, _, _, _, _, _, _ => none
theorem cp_dec_ok (b : Mem) (f : FSt) (x : Ccp × Vcp) (h : cp_dec b f = some x) : b = x.1.base ∧ FLe b f (cp_st x.1 x.2) := by
  unfold cp_dec at h
  split at h
  · rename_i e0 e1 e2 e3 e4 e5 hb hm
    cases h
    have hb : b = _ := hb
    subst hb
    refine ⟨rfl, fle_of (fun p hp => ?_) (by rw [hm]; exact trivial)⟩
    simp only [List.mem_cons, List.not_mem_nil, or_false] at hp
    rcases hp with rfl | rfl | rfl | rfl | rfl | rfl
    · exact getSu_rel e0
    · exact getI_rel e1
    · exact getI_rel e2
    · exact getF_rel e4
    · exact getF_rel e5
    · exact getI_rel e3
  · cases h
noncomputable def cp_sum : SumF Try.prog 53 cpRoot :=
  sumL (pathB cpRoot 0) cp_dec (fun x => x.1.base) (fun x => cp_st x.1 x.2) cp_R cp_dec_ok (by
    intro code hc x
    have hc2 : code = .block 0 (.loop (bodyB cpRoot 0)) := by
      have h : subR cpRoot (pathB cpRoot 0) = some (.block 0 (.loop (bodyB cpRoot 0))) := by kernel_rfl
      rw [h] at hc; cases hc; rfl
    subst hc2
    exact cp_tri x)

structure Ccq where
  n : Nat
  m : Nat
  f0 : Nat → Bool
  w : Int
  h : Int
  k : Int
def Ccq.base (c : Ccq) : Mem := [some (.cols c.m [.bo c.f0])]
structure Vcq where
  i : Int
  a : Nat
  b : Nat
noncomputable abbrev cqRoot : Code := bodyOf Try.f43
def cq_st (c : Ccq) (v : Vcq) : FSt := ⟨[(1, .one (.num .i64 c.w)), (2, .one (.num .i64 c.h)), (8, .one (.fl .f32 v.a)), (9, .one (.fl .f32 v.b)), (25, .one (.su 0 1 0 c.n false)), (26, .one (.num .i64 c.k)), (27, .one (.num .i64 v.i))], c.base ++ []⟩
noncomputable def cq_step (c : Ccq) (v : Vcq) : T (Nx Vcq) :=
  .ite (decide (v.1 < c.6)) (.need (decide (0 ≤ v.1) && decide (v.1 < ↑c.1)) (.need (decide (v.1.toNat + 0 < c.2)) (.need (!decide (c.4 = 0)) (.need (!decide (c.4 = 0)) (.leaf (.go { i := IntKind.i64.wrap (v.1 + 1), a := bif c.3 (v.1.toNat + 0) then fadd FloatKind.f32 v.2 (sineV (fadd FloatKind.f32 (fsub FloatKind.f32 (fdiv FloatKind.f32 (fint FloatKind.f32 (IntKind.i64.wrap (IntKind.i64.wrap (2 * IntKind.i64.wrap (v.1.tdiv c.4)) + 1))) (fint FloatKind.f32 (IntKind.i64.wrap (4 * c.5)))) (canon FloatKind.f32 1048576000)) (canon FloatKind.f32 1048576000))) else v.2, b := fadd FloatKind.f32 v.3 (sineV (fadd FloatKind.f32 (fsub FloatKind.f32 (fdiv FloatKind.f32 (fint FloatKind.f32 (IntKind.i64.wrap (IntKind.i64.wrap (2 * IntKind.i64.wrap (v.1.tdiv c.4)) + 1))) (fint FloatKind.f32 (IntKind.i64.wrap (4 * c.5)))) (canon FloatKind.f32 1048576000)) (canon FloatKind.f32 1048576000))) })))))) (.leaf (.out (EX.exit 0) ⟨[(1, AV.one (SV.num IntKind.i64 c.4)), (2, AV.one (SV.num IntKind.i64 c.5)), (8, AV.one (SV.fl FloatKind.f32 v.2)), (9, AV.one (SV.fl FloatKind.f32 v.3)), (25, AV.one (SV.su 0 1 0 c.1 false)), (26, AV.one (SV.num IntKind.i64 c.6)), (27, AV.one (SV.num IntKind.i64 v.1))], c.base ++ []⟩))
theorem cq_round (c : Ccq) (v : Vcq) : roundF Try.prog 57 [k_i_gridMark, k_i_cos] cqRoot [] c.base [0, 1, 2, 6, 7, 8, 9, 10, 11, 12, 24, 25, 26, 27, 28, 43, 198] [1, 2, 8, 9, 25, 26, 27] 0 (cq_st c v) = (cq_step c v).map (nxF (cq_st c)) := by kernel_rfl
noncomputable def cq_g (c : Ccq) (j : Nat) (a : Nat × Nat) : Nat × Nat := coStep c.f0 c.w c.h j a
def cq_ok (c : Ccq) (v : Vcq) : Bool := decide (c.n ≤ c.m ∧ c.n ≤ 256 ∧ 1 ≤ c.w ∧ c.k = (c.n : Int) ∧ 0 ≤ v.i ∧ v.i ≤ ((c.n : Nat) : Int))
def cq_fin (c : Ccq) (a : Nat × Nat) : FSt := cq_st c ({ i := (c.n : Int), a := a.1, b := a.2 })
noncomputable def cq_R (x : Ccq × Vcq) : T (EX × FSt) := .need (cq_ok x.1 x.2) (.leaf (.normal, cq_fin x.1 (iter (cq_g x.1) (x.1.n - x.2.i.toNat) x.2.i.toNat (x.2.a, x.2.b))))
theorem cq_tri (x : Ccq × Vcq) : TriR Try.prog 57 x.1.base (.block 0 (.loop (bodyB cqRoot 0))) (cq_st x.1 x.2) (cq_R x) := by
  obtain ⟨c, v⟩ := x
  refine triR_of mix (root := cqRoot) (by kernel_rfl) (by kernel_rfl) [0, 1, 2, 6, 7, 8, 9, 10, 11, 12, 24, 25, 26, 27, 28, 43, 198] [1, 2, 8, 9, 25, 26, 27] (cq_st c) (cq_step c) (cq_round c) v _ ((c.n - v.i.toNat) + 1) (fun Φ h => ?_)
  have h0 := h.1
  have h1 : Φ (.normal, cq_fin c (iter (cq_g c) (c.n - v.i.toNat) v.i.toNat (v.a, v.b))) := h.2
  simp only [cq_ok, decide_eq_true_eq] at h0
  obtain ⟨hk0, hk1, hk2, hk3, hi0, hin⟩ := h0
  have hv : v = (fun (j : Nat) (a : Nat × Nat) => ({ i := (j : Int), a := a.1, b := a.2 } : Vcq)) v.i.toNat (v.a, v.b) := by
    obtain ⟨i, a, b⟩ := v
    have hi0 : 0 ≤ i := hi0
    simp only [Int.toNat_of_nonneg hi0]
  have key := T_iter (cq_step c) (fun (j : Nat) (a : Nat × Nat) => ({ i := (j : Int), a := a.1, b := a.2 } : Vcq)) c.n (cq_g c) (fun a => (.exit 0, cq_fin c a)) (fun j a hj Ψ hΨ => ?_) (fun a Ψ hΨ => ?_) (fun a => by simp) (c.n - v.i.toNat) v.i.toNat (v.a, v.b) (by omega) (fun r => Φ (blkEx 0 r.1, r.2)) (by simpa [blkEx] using h1)
  · exact (congrArg (fun z => (loopTree (cq_step c) (c.n - v.i.toNat + 1) z).holds fun r => Φ (blkEx 0 r.1, r.2)) hv).mpr key
  · unfold cq_step
    refine (T.h_ite (fun _ => ?_) (fun hc => absurd hc (by simp <;> omega)))
    refine (T.h_need (by simp <;> omega) (T.h_need (by simp <;> omega) (T.h_need (by simp <;> omega) (T.h_need (by simp <;> omega) ?_))))
    refine T.h_leaf ?_
    rw [wrap_next (by omega)]
    exact hΨ
  · unfold cq_step
    refine (T.h_ite (fun hc => absurd hc (by simp <;> omega)) (fun _ => T.h_leaf hΨ.2))

def cq_dec (b : Mem) (f : FSt) : Option (Ccq × Vcq) :=
  match getSu 0 1 (findF 25 f.sl), getI (findF 1 f.sl), getI (findF 2 f.sl), getI (findF 26 f.sl), getI (findF 27 f.sl), getF .f32 (findF 8 f.sl), getF .f32 (findF 9 f.sl), id b, f.mem with
  | some (0, n_), some w_, some h_, some k_, some q_i, some q_a, some q_b, [some (.cols m_ [.bo f0_])], [_] => some ({ n := n_, m := m_, f0 := f0_, w := w_, h := h_, k := k_ }, { i := q_i, a := q_a, b := q_b })
  | _, _, _, _, _, _, _, _, _ => none
theorem cq_dec_ok (b : Mem) (f : FSt) (x : Ccq × Vcq) (h : cq_dec b f = some x) : b = x.1.base ∧ FLe b f (cq_st x.1 x.2) := by
  unfold cq_dec at h
  split at h
  · rename_i e0 e1 e2 e3 e4 e5 e6 hb hm
    cases h
    have hb : b = _ := hb
    subst hb
    refine ⟨rfl, fle_of (fun p hp => ?_) (by rw [hm]; exact trivial)⟩
    simp only [List.mem_cons, List.not_mem_nil, or_false] at hp
    rcases hp with rfl | rfl | rfl | rfl | rfl | rfl | rfl
    · exact getI_rel e1
    · exact getI_rel e2
    · exact getF_rel e5
    · exact getF_rel e6
    · exact getSu_rel e0
    · exact getI_rel e3
    · exact getI_rel e4
  · cases h
noncomputable def cq_sum : SumF Try.prog 57 cqRoot :=
  sumL (pathB cqRoot 0) cq_dec (fun x => x.1.base) (fun x => cq_st x.1 x.2) cq_R cq_dec_ok (by
    intro code hc x
    have hc2 : code = .block 0 (.loop (bodyB cqRoot 0)) := by
      have h : subR cqRoot (pathB cqRoot 0) = some (.block 0 (.loop (bodyB cqRoot 0))) := by kernel_rfl
      rw [h] at hc; cases hc; rfl
    subst hc2
    exact cq_tri x)

noncomputable def k_sCo0 : Ctr Try.prog := (mkF0 Try.prog mix [k_s_l06Grid, k_s_l06Cosine, k_s_l06Spot, k_s_l02Number] 41 Try.f41 (bodyOf Try.f41) Try.func41 (by kernel_rfl) (by kernel_rfl) [0, 1, 2, 6, 7, 8, 9, 10, 11, 23, 28, 43, 198] 53 (by kernel_rfl) (by kernel_rfl) [cp_sum]).mg
noncomputable def k_iCo0 : Ctr Try.prog := (mkF0 Try.prog mix [k_i_isGrid, k_i_cos, k_i_gridMark, k_i_told] 43 Try.f43 (bodyOf Try.f43) Try.func43 (by kernel_rfl) (by kernel_rfl) [0, 1, 2, 6, 7, 8, 9, 10, 11, 12, 24, 25, 26, 27, 28, 43, 198] 57 (by kernel_rfl) (by kernel_rfl) [cq_sum]).mg
theorem co_cond {a b c d e : Bool} (h : (bif !bif bif a then b else false then bif c then d else false else false then true else !e) = false) : a = true ∧ b = true ∧ c = true ∧ d = true ∧ e = true := by
  cases a <;> cases b <;> cases c <;> cases d <;> cases e <;> simp at h ⊢
theorem co_dom {w h : Int} {n : Nat} (h1 : 1 ≤ w) (h2 : w ≤ 16) (h3 : 1 ≤ h) (h4 : h ≤ 16) (h5 : (n : Int) = IntKind.i64.wrap (w * h)) : n ≤ 256 := by
  have h6 : w * h ≤ 16 * 16 := Int.mul_le_mul h2 h4 (by omega) (by omega)
  have h7 : 1 * 1 ≤ w * h := Int.mul_le_mul h1 h3 (by omega) (by omega)
  rw [IntWalk.i64_in _ (by omega)] at h5
  omega
noncomputable def run_Co : List AV → Mem → T Res
  | [.one (.su 0 1 0 n false), .one (.num .i64 w), .one (.num .i64 h)], [some (.cols m [.bo f0])] => .need (decide (n ≤ m)) (T.leaf (AV.tup [Pt.one (SV.fl FloatKind.f32 (bif bif !bif bif decide (1 ≤ w) then decide (w ≤ 16) else false then bif decide (1 ≤ h) then decide (h ≤ 16) else false else false then true else !decide ((n : Int) = IntKind.i64.wrap (w * h)) then canon FloatKind.f32 0 else bif !fin FloatKind.f32 (fdiv FloatKind.f32 (coAll n f0 w h).1 (coAll n f0 w h).2) then canon FloatKind.f32 0 else fdiv FloatKind.f32 (coAll n f0 w h).1 (coAll n f0 w h).2)), Pt.one (SV.bo (bif bif !bif bif decide (1 ≤ w) then decide (w ≤ 16) else false then bif decide (1 ≤ h) then decide (h ≤ 16) else false else false then true else !decide ((n : Int) = IntKind.i64.wrap (w * h)) then false else !!fin FloatKind.f32 (fdiv FloatKind.f32 (coAll n f0 w h).1 (coAll n f0 w h).2)))], []))
  | _, _ => .fail
theorem sCo_ev (n m : Nat) (w h : Int) (f0 : Nat → Bool) : k_sCo0.run [.one (.su 0 1 0 n false), .one (.num .i64 w), .one (.num .i64 h)] [some (.cols m [.bo f0])] =
    T.need (bif bif !bif bif decide (1 ≤ w) then decide (w ≤ 16) else false then bif decide (1 ≤ h) then decide (h ≤ 16) else false else false then true else !decide ((n : Int) = IntKind.i64.wrap (w * h)) then true else cp_ok { n := n, m := m, f0 := f0, w := w, h := h } { i := 0, a := canon FloatKind.f32 0, b := canon FloatKind.f32 0 }) (T.leaf (AV.tup [Pt.one (SV.fl FloatKind.f32 (bif bif !bif bif decide (1 ≤ w) then decide (w ≤ 16) else false then bif decide (1 ≤ h) then decide (h ≤ 16) else false else false then true else !decide ((n : Int) = IntKind.i64.wrap (w * h)) then canon FloatKind.f32 0 else bif !fin FloatKind.f32 (fdiv FloatKind.f32 (iter (cp_g { n := n, m := m, f0 := f0, w := w, h := h }) (n - Int.toNat 0) (Int.toNat 0) (canon FloatKind.f32 0, canon FloatKind.f32 0)).1 (iter (cp_g { n := n, m := m, f0 := f0, w := w, h := h }) (n - Int.toNat 0) (Int.toNat 0) (canon FloatKind.f32 0, canon FloatKind.f32 0)).2) then canon FloatKind.f32 0 else fdiv FloatKind.f32 (iter (cp_g { n := n, m := m, f0 := f0, w := w, h := h }) (n - Int.toNat 0) (Int.toNat 0) (canon FloatKind.f32 0, canon FloatKind.f32 0)).1 (iter (cp_g { n := n, m := m, f0 := f0, w := w, h := h }) (n - Int.toNat 0) (Int.toNat 0) (canon FloatKind.f32 0, canon FloatKind.f32 0)).2)), Pt.one (SV.bo (bif bif !bif bif decide (1 ≤ w) then decide (w ≤ 16) else false then bif decide (1 ≤ h) then decide (h ≤ 16) else false else false then true else !decide ((n : Int) = IntKind.i64.wrap (w * h)) then false else !!fin FloatKind.f32 (fdiv FloatKind.f32 (iter (cp_g { n := n, m := m, f0 := f0, w := w, h := h }) (n - Int.toNat 0) (Int.toNat 0) (canon FloatKind.f32 0, canon FloatKind.f32 0)).1 (iter (cp_g { n := n, m := m, f0 := f0, w := w, h := h }) (n - Int.toNat 0) (Int.toNat 0) (canon FloatKind.f32 0, canon FloatKind.f32 0)).2)))], [])) := by kernel_rfl
noncomputable def k_sCo : Ctr Try.prog := (k_sCo0.to run_Co (by
  intro args mem _
  unfold run_Co
  split
  · rename_i n w h m f0 _
    rw [sCo_ev]
    constructor
    intro Φ hΦ h
    have hnm := of_decide_eq_true h.1
    have h2 := h.2
    refine T.h_need (needT fun hc => ?_) (T.h_leaf h2)
    obtain ⟨h3, h4, h5, h6, h7⟩ := co_cond hc
    have h3 := of_decide_eq_true h3
    have h7 := of_decide_eq_true h7
    have h8 := co_dom h3 (of_decide_eq_true h4) (of_decide_eq_true h5) (of_decide_eq_true h6) h7
    refine decide_eq_true ?_
    refine ⟨hnm, h8, h3, h7.symm, Int.le_refl 0, Int.natCast_nonneg n⟩
  · exact Weak.fail _)).su.own
theorem iCo_ev (n m : Nat) (w h : Int) (f0 : Nat → Bool) : k_iCo0.run [.one (.su 0 1 0 n false), .one (.num .i64 w), .one (.num .i64 h)] [some (.cols m [.bo f0])] =
    T.need (bif bif !bif bif decide (1 ≤ w) then decide (w ≤ 16) else false then bif decide (1 ≤ h) then decide (h ≤ 16) else false else false then true else !decide ((n : Int) = IntKind.i64.wrap (w * h)) then true else cq_ok { n := n, m := m, f0 := f0, w := w, h := h, k := (n : Int) } { i := 0, a := canon FloatKind.f32 0, b := canon FloatKind.f32 0 }) (T.leaf (AV.tup [Pt.one (SV.fl FloatKind.f32 (bif bif !bif bif decide (1 ≤ w) then decide (w ≤ 16) else false then bif decide (1 ≤ h) then decide (h ≤ 16) else false else false then true else !decide ((n : Int) = IntKind.i64.wrap (w * h)) then canon FloatKind.f32 0 else bif !fin FloatKind.f32 (fdiv FloatKind.f32 (iter (cq_g { n := n, m := m, f0 := f0, w := w, h := h, k := (n : Int) }) (n - Int.toNat 0) (Int.toNat 0) (canon FloatKind.f32 0, canon FloatKind.f32 0)).1 (iter (cq_g { n := n, m := m, f0 := f0, w := w, h := h, k := (n : Int) }) (n - Int.toNat 0) (Int.toNat 0) (canon FloatKind.f32 0, canon FloatKind.f32 0)).2) then canon FloatKind.f32 0 else fdiv FloatKind.f32 (iter (cq_g { n := n, m := m, f0 := f0, w := w, h := h, k := (n : Int) }) (n - Int.toNat 0) (Int.toNat 0) (canon FloatKind.f32 0, canon FloatKind.f32 0)).1 (iter (cq_g { n := n, m := m, f0 := f0, w := w, h := h, k := (n : Int) }) (n - Int.toNat 0) (Int.toNat 0) (canon FloatKind.f32 0, canon FloatKind.f32 0)).2)), Pt.one (SV.bo (bif bif !bif bif decide (1 ≤ w) then decide (w ≤ 16) else false then bif decide (1 ≤ h) then decide (h ≤ 16) else false else false then true else !decide ((n : Int) = IntKind.i64.wrap (w * h)) then false else !!fin FloatKind.f32 (fdiv FloatKind.f32 (iter (cq_g { n := n, m := m, f0 := f0, w := w, h := h, k := (n : Int) }) (n - Int.toNat 0) (Int.toNat 0) (canon FloatKind.f32 0, canon FloatKind.f32 0)).1 (iter (cq_g { n := n, m := m, f0 := f0, w := w, h := h, k := (n : Int) }) (n - Int.toNat 0) (Int.toNat 0) (canon FloatKind.f32 0, canon FloatKind.f32 0)).2)))], [])) := by kernel_rfl
noncomputable def k_iCo : Ctr Try.prog := (k_iCo0.to run_Co (by
  intro args mem _
  unfold run_Co
  split
  · rename_i n w h m f0 _
    rw [iCo_ev]
    constructor
    intro Φ hΦ h
    have hnm := of_decide_eq_true h.1
    have h2 := h.2
    refine T.h_need (needT fun hc => ?_) (T.h_leaf h2)
    obtain ⟨h3, h4, h5, h6, h7⟩ := co_cond hc
    have h3 := of_decide_eq_true h3
    have h7 := of_decide_eq_true h7
    have h8 := co_dom h3 (of_decide_eq_true h4) (of_decide_eq_true h5) (of_decide_eq_true h6) h7
    refine decide_eq_true ?_
    refine ⟨hnm, h8, h3, rfl, Int.le_refl 0, Int.natCast_nonneg n⟩
  · exact Weak.fail _)).su.own

end Go.Proofs.Ytkjggmfblkkopaa
