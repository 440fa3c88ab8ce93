/-
  SameEntries: both functions in the same words. No conditions.
-/
import Derived.Test.YtdlamanfolijlaaEs
namespace Go.Proofs.Ytdlamanfolijlaa
set_option linter.unusedVariables false
set_option linter.unusedSimpArgs false
open Go.RowKit

noncomputable def k_eg_s_SameOrbit : Ctr Try.prog := (mkF Try.prog mix [k_l01Same] 65 Try.f65 (bodyOf Try.f65) Try.func65 (by kernel_rfl) (by kernel_rfl) [0, 1, 2, 3, 4] 45 (by kernel_rfl) (by kernel_rfl)).mg
noncomputable def k_eg_g_slices_EqualFunc_float32_i_sameNumbers : Ctr Try.prog := (mkF Try.prog mix [k_SameNumber] 120 Try.f120 (bodyOf Try.f120) Try.func120 (by kernel_rfl) (by kernel_rfl) [0, 1, 2, 6, 7, 8, 9, 14, 15, 16, 17, 18, 30] 32 (by kernel_rfl) (by kernel_rfl)).mg
noncomputable def k_eg_i_sameNumbers : Ctr Try.prog := (mkF Try.prog mix [k_SameNumber, k_eg_g_slices_EqualFunc_float32_i_sameNumbers] 97 Try.f97 (bodyOf Try.f97) Try.func97 (by kernel_rfl) (by kernel_rfl) [0, 1, 4] 8 (by kernel_rfl) (by kernel_rfl)).mg
noncomputable def k_eg_i_SameOrbit : Ctr Try.prog := (mkF Try.prog mix [k_eg_i_sameNumbers] 69 Try.f69 (bodyOf Try.f69) Try.func69 (by kernel_rfl) (by kernel_rfl) [0, 1, 2, 3, 4] 32 (by kernel_rfl) (by kernel_rfl)).mg
noncomputable def k_eg_i_SameEntriesD1 : Ctr Try.prog := (mkF Try.prog mix [k_SameNumber, k_eg_i_SameOrbit] 67 Try.f67 (bodyOf Try.f67) Try.func67 (by kernel_rfl) (by kernel_rfl) [0, 1, 2, 3, 4] 24 (by kernel_rfl) (by kernel_rfl)).mg
def seB (f0 : Nat → ByteArray) (f1 f2 f3 f4 f5 f6 f7 : Nat → Nat) (g0 : Nat → ByteArray) (g1 g2 g3 g4 g5 g6 g7 : Nat → Nat) (j : Nat) : Bool := bif !((f0 j).toList == (g0 j).toList) then true else bif !decide (f1 j = g1 j) then true else !(bif decide (f2 j = g2 j) then bif decide (f3 j = g3 j) then bif decide (f4 j = g4 j) then bif decide (f5 j = g5 j) then bif decide (f6 j = g6 j) then decide (f7 j = g7 j) else false else false else false else false else false)
def siB (f0 : Nat → ByteArray) (f1 f2 f3 f4 f5 f6 f7 : Nat → Nat) (g0 : Nat → ByteArray) (g1 g2 g3 g4 g5 g6 g7 : Nat → Nat) (j : Nat) : Bool := !(bif (f0 j).toList == (g0 j).toList then bif decide (f1 j = g1 j) then bif !decide (f2 j = g2 j) then false else bif !decide (f3 j = g3 j) then false else bif !decide (f4 j = g4 j) then false else bif !decide (f5 j = g5 j) then false else bif !decide (f6 j = g6 j) then false else !!decide (f7 j = g7 j) else false else false)
theorem si_taut (N a b c d e f g : Bool) : (!(bif N then bif a then bif !b then false else bif !c then false else bif !d then false else bif !e then false else bif !f then false else !!g else false else false)) = (bif !N then true else bif !a then true else !(bif b then bif c then bif d then bif e then bif f then g else false else false else false else false else false)) := by
  cases N <;> cases a <;> cases b <;> cases c <;> cases d <;> cases e <;> cases f <;> cases g <;> rfl
theorem siB_eq (f0 : Nat → ByteArray) (f1 f2 f3 f4 f5 f6 f7 : Nat → Nat) (g0 : Nat → ByteArray) (g1 g2 g3 g4 g5 g6 g7 : Nat → Nat) (j : Nat) : siB f0 f1 f2 f3 f4 f5 f6 f7 g0 g1 g2 g3 g4 g5 g6 g7 j = seB f0 f1 f2 f3 f4 f5 f6 f7 g0 g1 g2 g3 g4 g5 g6 g7 j := si_taut _ _ _ _ _ _ _ _
structure Cse where
  m : Nat
  f0 : Nat → ByteArray
  f1 : Nat → Nat
  f2 : Nat → Nat
  f3 : Nat → Nat
  f4 : Nat → Nat
  f5 : Nat → Nat
  f6 : Nat → Nat
  f7 : Nat → Nat
  m2 : Nat
  g0 : Nat → ByteArray
  g1 : Nat → Nat
  g2 : Nat → Nat
  g3 : Nat → Nat
  g4 : Nat → Nat
  g5 : Nat → Nat
  g6 : Nat → Nat
  g7 : Nat → Nat
  n : Nat
  n2 : Nat
  l : Int
def Cse.base (c : Cse) : Mem := [some (.cols c.m [.str c.f0, .fl .f32 c.f1, .fl .f32 c.f2, .fl .f32 c.f3, .fl .f32 c.f4, .fl .f32 c.f5, .fl .f32 c.f6, .fl .f32 c.f7]), some (.cols c.m2 [.str c.g0, .fl .f32 c.g1, .fl .f32 c.g2, .fl .f32 c.g3, .fl .f32 c.g4, .fl .f32 c.g5, .fl .f32 c.g6, .fl .f32 c.g7])]
structure Vse where
  i : Int
noncomputable abbrev seRoot : Code := bodyOf Try.f30
def se_st (c : Cse) (v : Vse) : FSt := ⟨[(0, .one (.su 0 8 0 c.n false)), (1, .one (.su 1 8 0 c.n2 false)), (4, .one (.tt false)), (12, .one (.num .i64 c.l)), (13, .one (.num .i64 v.i))], c.base ++ []⟩
def se_step (c : Cse) (v : Vse) : T (Nx Vse) :=
  .ite (decide (v.1 < c.21)) (.need (decide (0 ≤ v.1) && decide (v.1 < ((c.19 : Nat) : Int))) (.need (decide (v.1.toNat + 0 < c.1)) (.need (decide (0 ≤ v.1) && decide (v.1 < ((c.20 : Nat) : Int))) (.need (decide (v.1.toNat + 0 < c.10)) (.need (bif !(c.2 (v.1.toNat + 0)).toList == (c.11 (v.1.toNat + 0)).toList then true else decide (0 ≤ v.1) && decide (v.1 < ((c.19 : Nat) : Int))) (.need (bif !(c.2 (v.1.toNat + 0)).toList == (c.11 (v.1.toNat + 0)).toList then true else decide (v.1.toNat + 0 < c.1)) (.need (bif !(c.2 (v.1.toNat + 0)).toList == (c.11 (v.1.toNat + 0)).toList then true else decide (0 ≤ v.1) && decide (v.1 < ((c.20 : Nat) : Int))) (.need (bif !(c.2 (v.1.toNat + 0)).toList == (c.11 (v.1.toNat + 0)).toList then true else decide (v.1.toNat + 0 < c.10)) (.need (bif !(c.2 (v.1.toNat + 0)).toList == (c.11 (v.1.toNat + 0)).toList then true else bif !decide (c.3 (v.1.toNat + 0) = c.12 (v.1.toNat + 0)) then true else decide (0 ≤ v.1) && decide (v.1 < ((c.19 : Nat) : Int))) (.need (bif !(c.2 (v.1.toNat + 0)).toList == (c.11 (v.1.toNat + 0)).toList then true else bif !decide (c.3 (v.1.toNat + 0) = c.12 (v.1.toNat + 0)) then true else decide (v.1.toNat + 0 < c.1)) (.need (bif !(c.2 (v.1.toNat + 0)).toList == (c.11 (v.1.toNat + 0)).toList then true else bif !decide (c.3 (v.1.toNat + 0) = c.12 (v.1.toNat + 0)) then true else decide (0 ≤ v.1) && decide (v.1 < ((c.20 : Nat) : Int))) (.need (bif !(c.2 (v.1.toNat + 0)).toList == (c.11 (v.1.toNat + 0)).toList then true else bif !decide (c.3 (v.1.toNat + 0) = c.12 (v.1.toNat + 0)) then true else decide (v.1.toNat + 0 < c.10)) (.ite (bif !(c.2 (v.1.toNat + 0)).toList == (c.11 (v.1.toNat + 0)).toList then true else bif !decide (c.3 (v.1.toNat + 0) = c.12 (v.1.toNat + 0)) then true else !bif decide (c.4 (v.1.toNat + 0) = c.13 (v.1.toNat + 0)) then bif decide (c.5 (v.1.toNat + 0) = c.14 (v.1.toNat + 0)) then bif decide (c.6 (v.1.toNat + 0) = c.15 (v.1.toNat + 0)) then bif decide (c.7 (v.1.toNat + 0) = c.16 (v.1.toNat + 0)) then bif decide (c.8 (v.1.toNat + 0) = c.17 (v.1.toNat + 0)) then decide (c.9 (v.1.toNat + 0) = c.18 (v.1.toNat + 0)) else false else false else false else false else false) (.leaf (.out (EX.ret) ⟨[(0, AV.one (SV.su 0 8 0 c.19 false)), (1, AV.one (SV.su 1 8 0 c.20 false)), (4, AV.one (SV.tt false)), (12, AV.one (SV.num IntKind.i64 c.21)), (13, AV.one (SV.num IntKind.i64 v.1))], c.base ++ []⟩)) (.leaf (.go { i := IntKind.i64.wrap (v.1 + 1) }))))))))))))))) (.leaf (.out (EX.exit 0) ⟨[(0, AV.one (SV.su 0 8 0 c.19 false)), (1, AV.one (SV.su 1 8 0 c.20 false)), (4, AV.one (SV.tt false)), (12, AV.one (SV.num IntKind.i64 c.21)), (13, AV.one (SV.num IntKind.i64 v.1))], c.base ++ []⟩))
theorem se_round (c : Cse) (v : Vse) : roundF Try.prog 56 [k_l01Same, k_eg_s_SameOrbit] seRoot [] c.base [0, 1, 4, 5, 10, 12, 13, 14, 54, 198] [0, 1, 4, 12, 13] 0 (se_st c v) = (se_step c v).map (nxF (se_st c)) := by kernel_rfl
def se_g (c : Cse) (j : Nat) (a : Unit) : Unit := a
def se_ok (c : Cse) (v : Vse) : Bool := decide (c.n ≤ c.m ∧ c.n2 ≤ c.m2 ∧ c.n ≤ 1048576 ∧ c.n2 = c.n ∧ c.l = (c.n : Int) ∧ 0 ≤ v.i ∧ v.i ≤ ((c.n : Nat) : Int))
def se_fin (c : Cse) (a : Unit) : FSt := se_st c ({ i := ((c.n : Nat) : Int) })
def se_osv (c : Cse) (v : Vse) : FSt := ⟨[(0, AV.one (SV.su 0 8 0 c.19 false)), (1, AV.one (SV.su 1 8 0 c.20 false)), (4, AV.one (SV.tt false)), (12, AV.one (SV.num IntKind.i64 c.21)), (13, AV.one (SV.num IntKind.i64 v.1))], c.base ++ []⟩
def se_ost (c : Cse) (o : (Nat × (Unit))) : FSt := se_osv c ((fun (j : Nat) (a : Unit) => ({ i := ((j : Nat) : Int) } : Vse)) o.1 o.2)
def se_it (c : Cse) (k s : Nat) (a : Unit) : (Unit) ⊕ (Nat × (Unit)) := iterX (exitAt (seB c.f0 c.f1 c.f2 c.f3 c.f4 c.f5 c.f6 c.f7 c.g0 c.g1 c.g2 c.g3 c.g4 c.g5 c.g6 c.g7) (se_g c)) k s a
noncomputable def se_R (x : Cse × Vse) : T (EX × FSt) := .need (se_ok x.1 x.2) (.ite (isL (se_it x.1 (x.1.n - x.2.i.toNat) x.2.i.toNat ())) (.leaf (.normal, se_fin x.1 (valL () (se_it x.1 (x.1.n - x.2.i.toNat) x.2.i.toNat ())))) (.leaf (.ret, se_ost x.1 (valR (0, ()) (se_it x.1 (x.1.n - x.2.i.toNat) x.2.i.toNat ())))))
theorem se_tri (x : Cse × Vse) : TriR Try.prog 56 x.1.base (.block 0 (.loop (bodyB seRoot 0))) (se_st x.1 x.2) (se_R x) := by
  obtain ⟨c, v⟩ := x
  refine triR_of mix (root := seRoot) (by kernel_rfl) (by kernel_rfl) [0, 1, 4, 5, 10, 12, 13, 14, 54, 198] [0, 1, 4, 12, 13] (se_st c) (se_step c) (se_round c) v _ ((c.n - v.i.toNat) + 1) (fun Φ h => ?_)
  have h0 := h.1
  have h3 : (isL (se_it c (c.n - v.i.toNat) v.i.toNat ()) = true → Φ (.normal, se_fin c (valL () (se_it c (c.n - v.i.toNat) v.i.toNat ())))) ∧ (isL (se_it c (c.n - v.i.toNat) v.i.toNat ()) = false → Φ (.ret, se_ost c (valR (0, ()) (se_it c (c.n - v.i.toNat) v.i.toNat ())))) := h.2
  simp only [se_ok, decide_eq_true_eq] at h0
  obtain ⟨hk0, hk1, hk2, hk3, hk4, hi0, hin⟩ := h0
  have hv : v = (fun (j : Nat) (a : Unit) => ({ i := ((j : Nat) : Int) } : Vse)) v.i.toNat () := by
    obtain ⟨i⟩ := v
    have hi0 : 0 ≤ i := hi0
    simp only [Int.toNat_of_nonneg hi0]
  have key := T_iterX (se_step c) (fun (j : Nat) (a : Unit) => ({ i := ((j : Nat) : Int) } : Vse)) c.n (exitAt (seB c.f0 c.f1 c.f2 c.f3 c.f4 c.f5 c.f6 c.f7 c.g0 c.g1 c.g2 c.g3 c.g4 c.g5 c.g6 c.g7) (se_g c)) (fun a => (.exit 0, se_fin c a)) (fun o => (.ret, se_ost c o)) (fun j a hj Ψ h1 h2 => ?_) (fun a Ψ hΨ => ?_) (fun a => by simp) (fun o => by simp) (c.n - v.i.toNat) v.i.toNat () (by omega) (fun r => Φ (blkEx 0 r.1, r.2)) (fun b hb => ?_) (fun o ho => ?_)
  · exact (congrArg (fun z => (loopTree (se_step c) (c.n - v.i.toNat + 1) z).holds fun r => Φ (blkEx 0 r.1, r.2)) hv).mpr key
  · unfold se_step
    refine (T.h_ite (fun _ => ?_) (fun hc => absurd hc (by simp <;> omega)))
    refine (T.h_need (by simp <;> omega) (T.h_need (by simp <;> omega) (T.h_need (by simp <;> omega) (T.h_need (by simp <;> omega) (T.h_need (needT fun c0 => (by simp <;> omega)) (T.h_need (needT fun c0 => (by simp <;> omega)) (T.h_need (needT fun c0 => (by simp <;> omega)) (T.h_need (needT fun c0 => (by simp <;> omega)) (T.h_need (needT fun c0 => (needT fun c1 => (by simp <;> omega))) (T.h_need (needT fun c0 => (needT fun c1 => (by simp <;> omega))) (T.h_need (needT fun c0 => (needT fun c1 => (by simp <;> omega))) (T.h_need (needT fun c0 => (needT fun c1 => (by simp <;> omega))) (T.h_ite (fun hc => (T.h_leaf (h2 (j, a) (by unfold exitAt; rw [show (seB c.f0 c.f1 c.f2 c.f3 c.f4 c.f5 c.f6 c.f7 c.g0 c.g1 c.g2 c.g3 c.g4 c.g5 c.g6 c.g7) j = true from hc])))) (fun hc => ?_))))))))))))))
    refine T.h_leaf ?_
    rw [wrap_next (by omega)]
    exact h1 (se_g c j a) (by unfold exitAt; rw [show (seB c.f0 c.f1 c.f2 c.f3 c.f4 c.f5 c.f6 c.f7 c.g0 c.g1 c.g2 c.g3 c.g4 c.g5 c.g6 c.g7) j = false from hc])
  · unfold se_step
    refine (T.h_ite (fun hc => absurd hc (by simp <;> omega)) (fun _ => T.h_leaf hΨ))
  · have hb : se_it c (c.n - v.i.toNat) v.i.toNat () = .inl b := hb
    have h4 := h3.1 (by rw [hb]; rfl)
    rw [hb] at h4
    simpa [blkEx, valL] using h4
  · have ho : se_it c (c.n - v.i.toNat) v.i.toNat () = .inr o := ho
    have h4 := h3.2 (by rw [ho]; rfl)
    rw [ho] at h4
    simpa [blkEx, valR] using h4

def se_dec (b : Mem) (f : FSt) : Option (Cse × Vse) :=
  match getSu 0 8 (findF 0 f.sl), getSu 1 8 (findF 1 f.sl), getFf (findF 4 f.sl), getI (findF 12 f.sl), getI (findF 13 f.sl), id b, f.mem with
  | some (0, n_), some (0, n2_), some (), some l_, some q_i, [some (.cols m_ [.str f0_, .fl .f32 f1_, .fl .f32 f2_, .fl .f32 f3_, .fl .f32 f4_, .fl .f32 f5_, .fl .f32 f6_, .fl .f32 f7_]), some (.cols m2_ [.str g0_, .fl .f32 g1_, .fl .f32 g2_, .fl .f32 g3_, .fl .f32 g4_, .fl .f32 g5_, .fl .f32 g6_, .fl .f32 g7_])], [_, _] => some ({ m := m_, f0 := f0_, f1 := f1_, f2 := f2_, f3 := f3_, f4 := f4_, f5 := f5_, f6 := f6_, f7 := f7_, m2 := m2_, g0 := g0_, g1 := g1_, g2 := g2_, g3 := g3_, g4 := g4_, g5 := g5_, g6 := g6_, g7 := g7_, n := n_, n2 := n2_, l := l_ }, { i := q_i })
  | _, _, _, _, _, _, _ => none
theorem se_dec_ok (b : Mem) (f : FSt) (x : Cse × Vse) (h : se_dec b f = some x) : b = x.1.base ∧ FLe b f (se_st x.1 x.2) := by
  unfold se_dec at h
  split at h
  · rename_i e0 e1 e2 e3 e4 hb hm
    cases h
    have hb : b = _ := hb
    subst hb
    refine ⟨rfl, fle_of (fun p hp => ?_) (by rw [hm]; exact trivial)⟩
    simp only [List.mem_cons, List.not_mem_nil, or_false] at hp
    rcases hp with rfl | rfl | rfl | rfl | rfl
    · exact getSu_rel e0
    · exact getSu_rel e1
    · exact getFf_rel e2
    · exact getI_rel e3
    · exact getI_rel e4
  · cases h
noncomputable def se_sum : SumF Try.prog 56 seRoot :=
  sumL (pathB seRoot 0) se_dec (fun x => x.1.base) (fun x => se_st x.1 x.2) se_R se_dec_ok (by
    intro code hc x
    have hc2 : code = .block 0 (.loop (bodyB seRoot 0)) := by
      have h : subR seRoot (pathB seRoot 0) = some (.block 0 (.loop (bodyB seRoot 0))) := by kernel_rfl
      rw [h] at hc; cases hc; rfl
    subst hc2
    exact se_tri x)

structure Csi where
  m : Nat
  f0 : Nat → ByteArray
  f1 : Nat → Nat
  f2 : Nat → Nat
  f3 : Nat → Nat
  f4 : Nat → Nat
  f5 : Nat → Nat
  f6 : Nat → Nat
  f7 : Nat → Nat
  m2 : Nat
  g0 : Nat → ByteArray
  g1 : Nat → Nat
  g2 : Nat → Nat
  g3 : Nat → Nat
  g4 : Nat → Nat
  g5 : Nat → Nat
  g6 : Nat → Nat
  g7 : Nat → Nat
  n2 : Nat
  n : Nat
  l : Int
def Csi.base (c : Csi) : Mem := [some (.cols c.m [.str c.f0, .fl .f32 c.f1, .fl .f32 c.f2, .fl .f32 c.f3, .fl .f32 c.f4, .fl .f32 c.f5, .fl .f32 c.f6, .fl .f32 c.f7]), some (.cols c.m2 [.str c.g0, .fl .f32 c.g1, .fl .f32 c.g2, .fl .f32 c.g3, .fl .f32 c.g4, .fl .f32 c.g5, .fl .f32 c.g6, .fl .f32 c.g7])]
structure Vsi where
  i : Int
noncomputable abbrev siRoot : Code := bodyOf Try.f66
def si_st (c : Csi) (v : Vsi) : FSt := ⟨[(1, .one (.su 1 8 0 c.n2 false)), (2, .one (.fn 67 [])), (6, .one (.tt false)), (15, .one (.su 0 8 0 c.n false)), (16, .one (.num .i64 c.l)), (17, .one (.num .i64 v.i))], c.base ++ []⟩
def si_step (c : Csi) (v : Vsi) : T (Nx Vsi) :=
  .ite (decide (v.1 < c.21)) (.need (decide (0 ≤ v.1) && decide (v.1 < ((c.20 : Nat) : Int))) (.need (decide (v.1.toNat + 0 < c.1)) (.need (decide (0 ≤ v.1) && decide (v.1 < ((c.19 : Nat) : Int))) (.need (decide (v.1.toNat + 0 < c.10)) (.ite (!bif (c.2 (v.1.toNat + 0)).toList == (c.11 (v.1.toNat + 0)).toList then bif decide (c.3 (v.1.toNat + 0) = c.12 (v.1.toNat + 0)) then bif !decide (c.4 (v.1.toNat + 0) = c.13 (v.1.toNat + 0)) then false else bif !decide (c.5 (v.1.toNat + 0) = c.14 (v.1.toNat + 0)) then false else bif !decide (c.6 (v.1.toNat + 0) = c.15 (v.1.toNat + 0)) then false else bif !decide (c.7 (v.1.toNat + 0) = c.16 (v.1.toNat + 0)) then false else bif !decide (c.8 (v.1.toNat + 0) = c.17 (v.1.toNat + 0)) then false else !!decide (c.9 (v.1.toNat + 0) = c.18 (v.1.toNat + 0)) else false else false) (.leaf (.out (EX.ret) ⟨[(1, AV.one (SV.su 1 8 0 c.19 false)), (2, AV.one (SV.fn 67 [])), (6, AV.one (SV.tt false)), (15, AV.one (SV.su 0 8 0 c.20 false)), (16, AV.one (SV.num IntKind.i64 c.21)), (17, AV.one (SV.num IntKind.i64 v.1))], c.base ++ []⟩)) (.leaf (.go { i := IntKind.i64.wrap (v.1 + 1) }))))))) (.leaf (.out (EX.exit 0) ⟨[(1, AV.one (SV.su 1 8 0 c.19 false)), (2, AV.one (SV.fn 67 [])), (6, AV.one (SV.tt false)), (15, AV.one (SV.su 0 8 0 c.20 false)), (16, AV.one (SV.num IntKind.i64 c.21)), (17, AV.one (SV.num IntKind.i64 v.1))], c.base ++ []⟩))
theorem si_round (c : Csi) (v : Vsi) : roundF Try.prog 32 [k_eg_i_SameEntriesD1] siRoot [] c.base [0, 1, 2, 6, 7, 8, 9, 14, 15, 16, 17, 18, 30, 198] [1, 2, 6, 15, 16, 17] 0 (si_st c v) = (si_step c v).map (nxF (si_st c)) := by kernel_rfl
def si_g (c : Csi) (j : Nat) (a : Unit) : Unit := a
def si_ok (c : Csi) (v : Vsi) : Bool := decide (c.n ≤ c.m ∧ c.n2 ≤ c.m2 ∧ c.n ≤ 1048576 ∧ c.n2 = c.n ∧ c.l = (c.n : Int) ∧ 0 ≤ v.i ∧ v.i ≤ ((c.n : Nat) : Int))
def si_fin (c : Csi) (a : Unit) : FSt := si_st c ({ i := ((c.n : Nat) : Int) })
def si_osv (c : Csi) (v : Vsi) : FSt := ⟨[(1, AV.one (SV.su 1 8 0 c.19 false)), (2, AV.one (SV.fn 67 [])), (6, AV.one (SV.tt false)), (15, AV.one (SV.su 0 8 0 c.20 false)), (16, AV.one (SV.num IntKind.i64 c.21)), (17, AV.one (SV.num IntKind.i64 v.1))], c.base ++ []⟩
def si_ost (c : Csi) (o : (Nat × (Unit))) : FSt := si_osv c ((fun (j : Nat) (a : Unit) => ({ i := ((j : Nat) : Int) } : Vsi)) o.1 o.2)
def si_it (c : Csi) (k s : Nat) (a : Unit) : (Unit) ⊕ (Nat × (Unit)) := iterX (exitAt (siB c.f0 c.f1 c.f2 c.f3 c.f4 c.f5 c.f6 c.f7 c.g0 c.g1 c.g2 c.g3 c.g4 c.g5 c.g6 c.g7) (si_g c)) k s a
noncomputable def si_R (x : Csi × Vsi) : T (EX × FSt) := .need (si_ok x.1 x.2) (.ite (isL (si_it x.1 (x.1.n - x.2.i.toNat) x.2.i.toNat ())) (.leaf (.normal, si_fin x.1 (valL () (si_it x.1 (x.1.n - x.2.i.toNat) x.2.i.toNat ())))) (.leaf (.ret, si_ost x.1 (valR (0, ()) (si_it x.1 (x.1.n - x.2.i.toNat) x.2.i.toNat ())))))
theorem si_tri (x : Csi × Vsi) : TriR Try.prog 32 x.1.base (.block 0 (.loop (bodyB siRoot 0))) (si_st x.1 x.2) (si_R x) := by
  obtain ⟨c, v⟩ := x
  refine triR_of mix (root := siRoot) (by kernel_rfl) (by kernel_rfl) [0, 1, 2, 6, 7, 8, 9, 14, 15, 16, 17, 18, 30, 198] [1, 2, 6, 15, 16, 17] (si_st c) (si_step c) (si_round c) v _ ((c.n - v.i.toNat) + 1) (fun Φ h => ?_)
  have h0 := h.1
  have h3 : (isL (si_it c (c.n - v.i.toNat) v.i.toNat ()) = true → Φ (.normal, si_fin c (valL () (si_it c (c.n - v.i.toNat) v.i.toNat ())))) ∧ (isL (si_it c (c.n - v.i.toNat) v.i.toNat ()) = false → Φ (.ret, si_ost c (valR (0, ()) (si_it c (c.n - v.i.toNat) v.i.toNat ())))) := h.2
  simp only [si_ok, decide_eq_true_eq] at h0
  obtain ⟨hk0, hk1, hk2, hk3, hk4, hi0, hin⟩ := h0
  have hv : v = (fun (j : Nat) (a : Unit) => ({ i := ((j : Nat) : Int) } : Vsi)) v.i.toNat () := by
    obtain ⟨i⟩ := v
    have hi0 : 0 ≤ i := hi0
    simp only [Int.toNat_of_nonneg hi0]
  have key := T_iterX (si_step c) (fun (j : Nat) (a : Unit) => ({ i := ((j : Nat) : Int) } : Vsi)) c.n (exitAt (siB c.f0 c.f1 c.f2 c.f3 c.f4 c.f5 c.f6 c.f7 c.g0 c.g1 c.g2 c.g3 c.g4 c.g5 c.g6 c.g7) (si_g c)) (fun a => (.exit 0, si_fin c a)) (fun o => (.ret, si_ost c o)) (fun j a hj Ψ h1 h2 => ?_) (fun a Ψ hΨ => ?_) (fun a => by simp) (fun o => by simp) (c.n - v.i.toNat) v.i.toNat () (by omega) (fun r => Φ (blkEx 0 r.1, r.2)) (fun b hb => ?_) (fun o ho => ?_)
  · exact (congrArg (fun z => (loopTree (si_step c) (c.n - v.i.toNat + 1) z).holds fun r => Φ (blkEx 0 r.1, r.2)) hv).mpr key
  · unfold si_step
    refine (T.h_ite (fun _ => ?_) (fun hc => absurd hc (by simp <;> omega)))
    refine (T.h_need (by simp <;> omega) (T.h_need (by simp <;> omega) (T.h_need (by simp <;> omega) (T.h_need (by simp <;> omega) (T.h_ite (fun hc => (T.h_leaf (h2 (j, a) (by unfold exitAt; rw [show (siB c.f0 c.f1 c.f2 c.f3 c.f4 c.f5 c.f6 c.f7 c.g0 c.g1 c.g2 c.g3 c.g4 c.g5 c.g6 c.g7) j = true from hc])))) (fun hc => ?_))))))
    refine T.h_leaf ?_
    rw [wrap_next (by omega)]
    exact h1 (si_g c j a) (by unfold exitAt; rw [show (siB c.f0 c.f1 c.f2 c.f3 c.f4 c.f5 c.f6 c.f7 c.g0 c.g1 c.g2 c.g3 c.g4 c.g5 c.g6 c.g7) j = false from hc])
  · unfold si_step
    refine (T.h_ite (fun hc => absurd hc (by simp <;> omega)) (fun _ => T.h_leaf hΨ))
  · have hb : si_it c (c.n - v.i.toNat) v.i.toNat () = .inl b := hb
    have h4 := h3.1 (by rw [hb]; rfl)
    rw [hb] at h4
    simpa [blkEx, valL] using h4
  · have ho : si_it c (c.n - v.i.toNat) v.i.toNat () = .inr o := ho
    have h4 := h3.2 (by rw [ho]; rfl)
    rw [ho] at h4
    simpa [blkEx, valR] using h4

def si_dec (b : Mem) (f : FSt) : Option (Csi × Vsi) :=
  match getSu 1 8 (findF 1 f.sl), getFn 67 (findF 2 f.sl), getFf (findF 6 f.sl), getSu 0 8 (findF 15 f.sl), getI (findF 16 f.sl), getI (findF 17 f.sl), id b, f.mem with
  | some (0, n2_), some (), some (), some (0, n_), some l_, some q_i, [some (.cols m_ [.str f0_, .fl .f32 f1_, .fl .f32 f2_, .fl .f32 f3_, .fl .f32 f4_, .fl .f32 f5_, .fl .f32 f6_, .fl .f32 f7_]), some (.cols m2_ [.str g0_, .fl .f32 g1_, .fl .f32 g2_, .fl .f32 g3_, .fl .f32 g4_, .fl .f32 g5_, .fl .f32 g6_, .fl .f32 g7_])], [_, _] => some ({ m := m_, f0 := f0_, f1 := f1_, f2 := f2_, f3 := f3_, f4 := f4_, f5 := f5_, f6 := f6_, f7 := f7_, m2 := m2_, g0 := g0_, g1 := g1_, g2 := g2_, g3 := g3_, g4 := g4_, g5 := g5_, g6 := g6_, g7 := g7_, n2 := n2_, n := n_, l := l_ }, { i := q_i })
  | _, _, _, _, _, _, _, _ => none
theorem si_dec_ok (b : Mem) (f : FSt) (x : Csi × Vsi) (h : si_dec b f = some x) : b = x.1.base ∧ FLe b f (si_st x.1 x.2) := by
  unfold si_dec at h
  split at h
  · rename_i e0 e1 e2 e3 e4 e5 hb hm
    cases h
    have hb : b = _ := hb
    subst hb
    refine ⟨rfl, fle_of (fun p hp => ?_) (by rw [hm]; exact trivial)⟩
    simp only [List.mem_cons, List.not_mem_nil, or_false] at hp
    rcases hp with rfl | rfl | rfl | rfl | rfl | rfl
    · exact getSu_rel e0
    · exact getFn_rel e1
    · exact getFf_rel e2
    · exact getSu_rel e3
    · exact getI_rel e4
    · exact getI_rel e5
  · cases h
noncomputable def si_sum : SumF Try.prog 32 siRoot :=
  sumL (pathB siRoot 0) si_dec (fun x => x.1.base) (fun x => si_st x.1 x.2) si_R si_dec_ok (by
    intro code hc x
    have hc2 : code = .block 0 (.loop (bodyB siRoot 0)) := by
      have h : subR siRoot (pathB siRoot 0) = some (.block 0 (.loop (bodyB siRoot 0))) := by kernel_rfl
      rw [h] at hc; cases hc; rfl
    subst hc2
    exact si_tri x)

noncomputable def k_sSa0 : Ctr Try.prog := (mkF0 Try.prog mix [k_l01Same, k_eg_s_SameOrbit] 30 Try.f30 (bodyOf Try.f30) Try.func30 (by kernel_rfl) (by kernel_rfl) [0, 1, 4, 5, 10, 12, 13, 14, 54, 198] 56 (by kernel_rfl) (by kernel_rfl) [se_sum]).mg
noncomputable def k_iEq0 : Ctr Try.prog := (mkF0 Try.prog mix [k_eg_i_SameEntriesD1] 66 Try.f66 (bodyOf Try.f66) Try.func66 (by kernel_rfl) (by kernel_rfl) [0, 1, 2, 6, 7, 8, 9, 14, 15, 16, 17, 18, 30, 198] 32 (by kernel_rfl) (by kernel_rfl) [si_sum]).mg
noncomputable def k_iSa0 : Ctr Try.prog := (mkF0 Try.prog mix [k_iEq0] 32 Try.f32 (bodyOf Try.f32) Try.func32 (by kernel_rfl) (by kernel_rfl) [0, 1, 4, 198] 8 (by kernel_rfl) (by kernel_rfl) []).mg
def smE (n n2 : Nat) (f0 : Nat → ByteArray) (f1 f2 f3 f4 f5 f6 f7 : Nat → Nat) (g0 : Nat → ByteArray) (g1 g2 g3 g4 g5 g6 g7 : Nat → Nat) : Bool := bif !decide ((n : Int) = (n2 : Int)) then false else noneIn (seB f0 f1 f2 f3 f4 f5 f6 f7 g0 g1 g2 g3 g4 g5 g6 g7) n 0
def run_sa : List AV → Mem → T Res
  | [.one (.su 0 8 0 n false), .one (.su 1 8 0 n2 false)], [some (.cols m [.str f0, .fl .f32 f1, .fl .f32 f2, .fl .f32 f3, .fl .f32 f4, .fl .f32 f5, .fl .f32 f6, .fl .f32 f7]), some (.cols m2 [.str g0, .fl .f32 g1, .fl .f32 g2, .fl .f32 g3, .fl .f32 g4, .fl .f32 g5, .fl .f32 g6, .fl .f32 g7])] => .need (decide (n ≤ m)) (.need (decide (n2 ≤ m2)) (.need (decide (n ≤ 1048576)) (.leaf (.one (.bo (smE n n2 f0 f1 f2 f3 f4 f5 f6 f7 g0 g1 g2 g3 g4 g5 g6 g7)), []))))
  | _, _ => .fail
theorem sSa0_ev (n m n2 m2 : Nat) (f0 : Nat → ByteArray) (f1 f2 f3 f4 f5 f6 f7 : Nat → Nat) (g0 : Nat → ByteArray) (g1 g2 g3 g4 g5 g6 g7 : Nat → Nat) : k_sSa0.run [.one (.su 0 8 0 n false), .one (.su 1 8 0 n2 false)] [some (.cols m [.str f0, .fl .f32 f1, .fl .f32 f2, .fl .f32 f3, .fl .f32 f4, .fl .f32 f5, .fl .f32 f6, .fl .f32 f7]), some (.cols m2 [.str g0, .fl .f32 g1, .fl .f32 g2, .fl .f32 g3, .fl .f32 g4, .fl .f32 g5, .fl .f32 g6, .fl .f32 g7])] =
    .need (bif !decide ((n : Int) = (n2 : Int)) then true else se_ok { m := m, f0 := f0, f1 := f1, f2 := f2, f3 := f3, f4 := f4, f5 := f5, f6 := f6, f7 := f7, m2 := m2, g0 := g0, g1 := g1, g2 := g2, g3 := g3, g4 := g4, g5 := g5, g6 := g6, g7 := g7, n2 := n2, n := n, l := (n : Int) } { i := 0 }) (.leaf (.one (.bo (bif !decide ((n : Int) = (n2 : Int)) then false else isL (se_it { m := m, f0 := f0, f1 := f1, f2 := f2, f3 := f3, f4 := f4, f5 := f5, f6 := f6, f7 := f7, m2 := m2, g0 := g0, g1 := g1, g2 := g2, g3 := g3, g4 := g4, g5 := g5, g6 := g6, g7 := g7, n2 := n2, n := n, l := (n : Int) } n 0 ()))), [])) := by kernel_rfl
noncomputable def k_sSa : Ctr Try.prog := (k_sSa0.to run_sa (by
  intro args mem _
  unfold run_sa
  split
  · rename_i n n2 m f0 f1 f2 f3 f4 f5 f6 f7 m2 g0 g1 g2 g3 g4 g5 g6 g7 _
    rw [sSa0_ev]
    constructor
    intro Φ hΦ h
    have hm := of_decide_eq_true h.1
    have hm2 := of_decide_eq_true h.2.1
    have hn := of_decide_eq_true h.2.2.1
    have e : isL (se_it { m := m, f0 := f0, f1 := f1, f2 := f2, f3 := f3, f4 := f4, f5 := f5, f6 := f6, f7 := f7, m2 := m2, g0 := g0, g1 := g1, g2 := g2, g3 := g3, g4 := g4, g5 := g5, g6 := g6, g7 := g7, n2 := n2, n := n, l := (n : Int) } n 0 ()) = noneIn (seB f0 f1 f2 f3 f4 f5 f6 f7 g0 g1 g2 g3 g4 g5 g6 g7) n 0 := (exitAt_iter _ (se_g { m := m, f0 := f0, f1 := f1, f2 := f2, f3 := f3, f4 := f4, f5 := f5, f6 := f6, f7 := f7, m2 := m2, g0 := g0, g1 := g1, g2 := g2, g3 := g3, g4 := g4, g5 := g5, g6 := g6, g7 := g7, n2 := n2, n := n, l := (n : Int) }) () n 0 ()).1
    rw [e]
    refine T.h_need (needT fun hA => decide_eq_true ⟨hm, hm2, hn, ?_, rfl, Int.le_refl 0, Int.natCast_nonneg _⟩) (T.h_leaf h.2.2.2)
    have : (n : Int) = (n2 : Int) := by simpa using hA
    show n2 = n
    omega
  · exact Weak.fail _)).su.own
theorem iSa0_ev (n m n2 m2 : Nat) (f0 : Nat → ByteArray) (f1 f2 f3 f4 f5 f6 f7 : Nat → Nat) (g0 : Nat → ByteArray) (g1 g2 g3 g4 g5 g6 g7 : Nat → Nat) : k_iSa0.run [.one (.su 0 8 0 n false), .one (.su 1 8 0 n2 false)] [some (.cols m [.str f0, .fl .f32 f1, .fl .f32 f2, .fl .f32 f3, .fl .f32 f4, .fl .f32 f5, .fl .f32 f6, .fl .f32 f7]), some (.cols m2 [.str g0, .fl .f32 g1, .fl .f32 g2, .fl .f32 g3, .fl .f32 g4, .fl .f32 g5, .fl .f32 g6, .fl .f32 g7])] =
    .need (bif !decide ((n : Int) = (n2 : Int)) then true else si_ok { m := m, f0 := f0, f1 := f1, f2 := f2, f3 := f3, f4 := f4, f5 := f5, f6 := f6, f7 := f7, m2 := m2, g0 := g0, g1 := g1, g2 := g2, g3 := g3, g4 := g4, g5 := g5, g6 := g6, g7 := g7, n2 := n2, n := n, l := (n : Int) } { i := 0 }) (.leaf (.one (.bo (bif !decide ((n : Int) = (n2 : Int)) then false else isL (si_it { m := m, f0 := f0, f1 := f1, f2 := f2, f3 := f3, f4 := f4, f5 := f5, f6 := f6, f7 := f7, m2 := m2, g0 := g0, g1 := g1, g2 := g2, g3 := g3, g4 := g4, g5 := g5, g6 := g6, g7 := g7, n2 := n2, n := n, l := (n : Int) } n 0 ()))), [])) := by kernel_rfl
noncomputable def k_iSa : Ctr Try.prog := (k_iSa0.to run_sa (by
  intro args mem _
  unfold run_sa
  split
  · rename_i n n2 m f0 f1 f2 f3 f4 f5 f6 f7 m2 g0 g1 g2 g3 g4 g5 g6 g7 _
    rw [iSa0_ev]
    constructor
    intro Φ hΦ h
    have hm := of_decide_eq_true h.1
    have hm2 := of_decide_eq_true h.2.1
    have hn := of_decide_eq_true h.2.2.1
    have e : isL (si_it { m := m, f0 := f0, f1 := f1, f2 := f2, f3 := f3, f4 := f4, f5 := f5, f6 := f6, f7 := f7, m2 := m2, g0 := g0, g1 := g1, g2 := g2, g3 := g3, g4 := g4, g5 := g5, g6 := g6, g7 := g7, n2 := n2, n := n, l := (n : Int) } n 0 ()) = noneIn (siB f0 f1 f2 f3 f4 f5 f6 f7 g0 g1 g2 g3 g4 g5 g6 g7) n 0 := (exitAt_iter _ (si_g { m := m, f0 := f0, f1 := f1, f2 := f2, f3 := f3, f4 := f4, f5 := f5, f6 := f6, f7 := f7, m2 := m2, g0 := g0, g1 := g1, g2 := g2, g3 := g3, g4 := g4, g5 := g5, g6 := g6, g7 := g7, n2 := n2, n := n, l := (n : Int) }) () n 0 ()).1
    rw [e, noneIn_congr n 0 (fun j _ _ => siB_eq f0 f1 f2 f3 f4 f5 f6 f7 g0 g1 g2 g3 g4 g5 g6 g7 j)]
    refine T.h_need (needT fun hA => decide_eq_true ⟨hm, hm2, hn, ?_, rfl, Int.le_refl 0, Int.natCast_nonneg _⟩) (T.h_leaf h.2.2.2)
    have : (n : Int) = (n2 : Int) := by simpa using hA
    show n2 = n
    omega
  · exact Weak.fail _)).su.own

end Go.Proofs.Ytdlamanfolijlaa
