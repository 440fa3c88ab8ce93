/-
  Marks in rows, rows compared: Entry. No conditions.
-/
import Derived.Test.YtjaohecdhnhhbaaRw
import Derived.Test.YtjaohecdhnhhbaaMt
import Derived.Test.YtjaohecdhnhhbaaEr
namespace Go.Proofs.Ytjaohecdhnhhbaa
set_option linter.unusedVariables false
set_option linter.unusedSimpArgs false
open Go.RowKit

def mkYf (c : Nat) (i : Nat) :  Nat := fint .f32 ((8 * i + c + 1 : Nat) : Int)
def mkYs (c : Nat) (i : Nat) :  ByteArray := mkT ((8 * i + c + 1 : Nat) : Int)
structure CmkY where
  n : Nat
  m : Nat
def CmkY.base (c : CmkY) : Mem := [none]
structure VmkY where
  i : Int
  k : Int
  a0 : Nat → ByteArray
  a1 : Nat → Nat
  a2 : Nat → Nat
  a3 : Nat → Nat
  a4 : Nat → Nat
  a5 : Nat → Nat
  a6 : Nat → Nat
  a7 : Nat → Nat
noncomputable abbrev mkYRoot : Code := bodyOf Try.f21
def mkY_st (c : CmkY) (v : VmkY) : FSt := ⟨[(0, .one (.su 1 8 0 c.n false)), (1, .one (.num .i64 v.k)), (5, .one (.num .i64 v.i)), (999, .tie 0 1)], c.base ++ [some (.cols c.m [.str v.a0, .fl .f32 v.a1, .fl .f32 v.a2, .fl .f32 v.a3, .fl .f32 v.a4, .fl .f32 v.a5, .fl .f32 v.a6, .fl .f32 v.a7])]⟩
def mkY_step (c : CmkY) (v : VmkY) : T (Nx VmkY) :=
  .ite (decide (v.1 < ((c.1 : Nat) : Int))) (.need (decide (0 < v.2 ∧ v.2 ≤ 16777216)) (.need (decide (0 ≤ v.1) && decide (v.1 < ((c.1 : Nat) : Int))) (.need (decide (v.1.toNat + 0 < c.2)) (.need (decide (0 ≤ v.1) && decide (v.1 < ((c.1 : Nat) : Int))) (.need (decide (v.1.toNat + 0 < c.2)) (.need (decide (0 ≤ v.1) && decide (v.1 < ((c.1 : Nat) : Int))) (.need (decide (v.1.toNat + 0 < c.2)) (.need (decide (0 ≤ v.1) && decide (v.1 < ((c.1 : Nat) : Int))) (.need (decide (v.1.toNat + 0 < c.2)) (.need (decide (0 ≤ v.1) && decide (v.1 < ((c.1 : Nat) : Int))) (.need (decide (v.1.toNat + 0 < c.2)) (.need (decide (0 ≤ v.1) && decide (v.1 < ((c.1 : Nat) : Int))) (.need (decide (v.1.toNat + 0 < c.2)) (.need (decide (0 ≤ v.1) && decide (v.1 < ((c.1 : Nat) : Int))) (.need (decide (v.1.toNat + 0 < c.2)) (.need (decide (0 ≤ v.1) && decide (v.1 < ((c.1 : Nat) : Int))) (.need (decide (v.1.toNat + 0 < c.2)) (.leaf (.go { i := IntKind.i64.wrap (v.1 + 1), k := IntKind.i64.wrap (IntKind.i64.wrap (IntKind.i64.wrap (IntKind.i64.wrap (IntKind.i64.wrap (IntKind.i64.wrap (IntKind.i64.wrap (IntKind.i64.wrap (v.2 + 1) + 1) + 1) + 1) + 1) + 1) + 1) + 1), a0 := fun q => if q = v.i.toNat + 0 then mkT v.k else v.a0 q, a1 := fun q => if q = v.i.toNat + 0 then fint FloatKind.f32 (IntKind.i64.wrap (v.k + 1)) else v.a1 q, a2 := fun q => if q = v.i.toNat + 0 then fint FloatKind.f32 (IntKind.i64.wrap (IntKind.i64.wrap (v.k + 1) + 1)) else v.a2 q, a3 := fun q => if q = v.i.toNat + 0 then fint FloatKind.f32 (IntKind.i64.wrap (IntKind.i64.wrap (IntKind.i64.wrap (v.k + 1) + 1) + 1)) else v.a3 q, a4 := fun q => if q = v.i.toNat + 0 then fint FloatKind.f32 (IntKind.i64.wrap (IntKind.i64.wrap (IntKind.i64.wrap (IntKind.i64.wrap (v.k + 1) + 1) + 1) + 1)) else v.a4 q, a5 := fun q => if q = v.i.toNat + 0 then fint FloatKind.f32 (IntKind.i64.wrap (IntKind.i64.wrap (IntKind.i64.wrap (IntKind.i64.wrap (IntKind.i64.wrap (v.k + 1) + 1) + 1) + 1) + 1)) else v.a5 q, a6 := fun q => if q = v.i.toNat + 0 then fint FloatKind.f32 (IntKind.i64.wrap (IntKind.i64.wrap (IntKind.i64.wrap (IntKind.i64.wrap (IntKind.i64.wrap (IntKind.i64.wrap (v.k + 1) + 1) + 1) + 1) + 1) + 1)) else v.a6 q, a7 := fun q => if q = v.i.toNat + 0 then fint FloatKind.f32 (IntKind.i64.wrap (IntKind.i64.wrap (IntKind.i64.wrap (IntKind.i64.wrap (IntKind.i64.wrap (IntKind.i64.wrap (IntKind.i64.wrap (v.k + 1) + 1) + 1) + 1) + 1) + 1) + 1)) else v.a7 q }))))))))))))))))))) (.leaf (.out (EX.exit 0) ⟨[(0, AV.one (SV.su 1 8 0 c.1 false)), (1, AV.one (SV.num IntKind.i64 v.2)), (5, AV.one (SV.num IntKind.i64 v.1)), (999, AV.tie 0 1)], c.base ++ [some (.cols c.m [.str v.a0, .fl .f32 v.a1, .fl .f32 v.a2, .fl .f32 v.a3, .fl .f32 v.a4, .fl .f32 v.a5, .fl .f32 v.a6, .fl .f32 v.a7])]⟩))
theorem mkY_round (c : CmkY) (v : VmkY) : roundF Try.prog 83 [k_markText] mkYRoot [] c.base [0, 1, 4, 5, 9, 198, 999] [0, 1, 5, 999] 0 (mkY_st c v) = (mkY_step c v).map (nxF (mkY_st c)) := by kernel_rfl
def mkY_g (c : CmkY) (j : Nat) (a : (Nat → ByteArray) × (Nat → Nat) × (Nat → Nat) × (Nat → Nat) × (Nat → Nat) × (Nat → Nat) × (Nat → Nat) × (Nat → Nat)) : (Nat → ByteArray) × (Nat → Nat) × (Nat → Nat) × (Nat → Nat) × (Nat → Nat) × (Nat → Nat) × (Nat → Nat) × (Nat → Nat) := (fun q => if q = j then mkYs 0 j else a.1 q, fun q => if q = j then mkYf 1 j else a.2.1 q, fun q => if q = j then mkYf 2 j else a.2.2.1 q, fun q => if q = j then mkYf 3 j else a.2.2.2.1 q, fun q => if q = j then mkYf 4 j else a.2.2.2.2.1 q, fun q => if q = j then mkYf 5 j else a.2.2.2.2.2.1 q, fun q => if q = j then mkYf 6 j else a.2.2.2.2.2.2.1 q, fun q => if q = j then mkYf 7 j else a.2.2.2.2.2.2.2 q)
def mkY_ok (c : CmkY) (v : VmkY) : Bool := decide (c.n ≤ c.m ∧ c.n ≤ 1048576 ∧ v.k = 8 * v.i + 1 ∧ 0 ≤ v.i ∧ v.i ≤ ((c.n : Nat) : Int))
def mkY_fin (c : CmkY) (a : (Nat → ByteArray) × (Nat → Nat) × (Nat → Nat) × (Nat → Nat) × (Nat → Nat) × (Nat → Nat) × (Nat → Nat) × (Nat → Nat)) : FSt := mkY_st c ({ i := (c.n : Int), k := 8 * (c.n : Int) + 1, a0 := a.1, a1 := a.2.1, a2 := a.2.2.1, a3 := a.2.2.2.1, a4 := a.2.2.2.2.1, a5 := a.2.2.2.2.2.1, a6 := a.2.2.2.2.2.2.1, a7 := a.2.2.2.2.2.2.2 })
noncomputable def mkY_R (x : CmkY × VmkY) : T (EX × FSt) := .need (mkY_ok x.1 x.2) (.leaf (.normal, mkY_fin x.1 (iter (mkY_g x.1) (x.1.n - x.2.i.toNat) x.2.i.toNat (x.2.a0, x.2.a1, x.2.a2, x.2.a3, x.2.a4, x.2.a5, x.2.a6, x.2.a7))))
theorem mkY_tri (x : CmkY × VmkY) : TriR Try.prog 83 x.1.base (.block 0 (.loop (bodyB mkYRoot 0))) (mkY_st x.1 x.2) (mkY_R x) := by
  obtain ⟨c, v⟩ := x
  refine triR_of mix (root := mkYRoot) (by kernel_rfl) (by kernel_rfl) [0, 1, 4, 5, 9, 198, 999] [0, 1, 5, 999] (mkY_st c) (mkY_step c) (mkY_round c) v _ ((c.n - v.i.toNat) + 1) (fun Φ h => ?_)
  have h0 := h.1
  have h1 : Φ (.normal, mkY_fin c (iter (mkY_g c) (c.n - v.i.toNat) v.i.toNat (v.a0, v.a1, v.a2, v.a3, v.a4, v.a5, v.a6, v.a7))) := h.2
  simp only [mkY_ok, decide_eq_true_eq] at h0
  obtain ⟨hk0, hk1, hk2, hi0, hin⟩ := h0
  have hv : v = (fun (j : Nat) (a : (Nat → ByteArray) × (Nat → Nat) × (Nat → Nat) × (Nat → Nat) × (Nat → Nat) × (Nat → Nat) × (Nat → Nat) × (Nat → Nat)) => ({ i := (j : Int), k := 8 * (j : Int) + 1, a0 := a.1, a1 := a.2.1, a2 := a.2.2.1, a3 := a.2.2.2.1, a4 := a.2.2.2.2.1, a5 := a.2.2.2.2.2.1, a6 := a.2.2.2.2.2.2.1, a7 := a.2.2.2.2.2.2.2 } : VmkY)) v.i.toNat (v.a0, v.a1, v.a2, v.a3, v.a4, v.a5, v.a6, v.a7) := by
    obtain ⟨i, k, a0, a1, a2, a3, a4, a5, a6, a7⟩ := v
    have hi0 : 0 ≤ i := hi0
    have hk2 : k = 8 * i + 1 := hk2
    subst hk2
    simp only [Int.toNat_of_nonneg hi0]
  have key := T_iter (mkY_step c) (fun (j : Nat) (a : (Nat → ByteArray) × (Nat → Nat) × (Nat → Nat) × (Nat → Nat) × (Nat → Nat) × (Nat → Nat) × (Nat → Nat) × (Nat → Nat)) => ({ i := (j : Int), k := 8 * (j : Int) + 1, a0 := a.1, a1 := a.2.1, a2 := a.2.2.1, a3 := a.2.2.2.1, a4 := a.2.2.2.2.1, a5 := a.2.2.2.2.2.1, a6 := a.2.2.2.2.2.2.1, a7 := a.2.2.2.2.2.2.2 } : VmkY)) c.n (mkY_g c) (fun a => (.exit 0, mkY_fin c a)) (fun j a hj Ψ hΨ => ?_) (fun a Ψ hΨ => ?_) (fun a => by simp) (c.n - v.i.toNat) v.i.toNat (v.a0, v.a1, v.a2, v.a3, v.a4, v.a5, v.a6, v.a7) (by omega) (fun r => Φ (blkEx 0 r.1, r.2)) (by simpa [blkEx] using h1)
  · exact (congrArg (fun z => (loopTree (mkY_step c) (c.n - v.i.toNat + 1) z).holds fun r => Φ (blkEx 0 r.1, r.2)) hv).mpr key
  · unfold mkY_step
    refine (T.h_ite (fun _ => ?_) (fun hc => absurd hc (by simp <;> omega)))
    refine (T.h_need (by simp <;> omega) (T.h_need (by simp <;> omega) (T.h_need (by simp <;> omega) (T.h_need (by simp <;> omega) (T.h_need (by simp <;> omega) (T.h_need (by simp <;> omega) (T.h_need (by simp <;> omega) (T.h_need (by simp <;> omega) (T.h_need (by simp <;> omega) (T.h_need (by simp <;> omega) (T.h_need (by simp <;> omega) (T.h_need (by simp <;> omega) (T.h_need (by simp <;> omega) (T.h_need (by simp <;> omega) (T.h_need (by simp <;> omega) (T.h_need (by simp <;> omega) (T.h_need (by simp <;> omega) ?_)))))))))))))))))
    refine T.h_leaf ?_
    rw [wrap_next (by omega)]
    have e1 : IntKind.i64.wrap (8 * (j : Int) + 1 + 1) = ((8 * j + 1 + 1 : Nat) : Int) := by rw [IntWalk.i64_in _ (by omega)]; omega
    have e2 : IntKind.i64.wrap (((8 * j + 1 + 1 : Nat) : Int) + 1) = ((8 * j + 2 + 1 : Nat) : Int) := by rw [IntWalk.i64_in _ (by omega)]; omega
    have e3 : IntKind.i64.wrap (((8 * j + 2 + 1 : Nat) : Int) + 1) = ((8 * j + 3 + 1 : Nat) : Int) := by rw [IntWalk.i64_in _ (by omega)]; omega
    have e4 : IntKind.i64.wrap (((8 * j + 3 + 1 : Nat) : Int) + 1) = ((8 * j + 4 + 1 : Nat) : Int) := by rw [IntWalk.i64_in _ (by omega)]; omega
    have e5 : IntKind.i64.wrap (((8 * j + 4 + 1 : Nat) : Int) + 1) = ((8 * j + 5 + 1 : Nat) : Int) := by rw [IntWalk.i64_in _ (by omega)]; omega
    have e6 : IntKind.i64.wrap (((8 * j + 5 + 1 : Nat) : Int) + 1) = ((8 * j + 6 + 1 : Nat) : Int) := by rw [IntWalk.i64_in _ (by omega)]; omega
    have e7 : IntKind.i64.wrap (((8 * j + 6 + 1 : Nat) : Int) + 1) = ((8 * j + 7 + 1 : Nat) : Int) := by rw [IntWalk.i64_in _ (by omega)]; omega
    have e8 : IntKind.i64.wrap (((8 * j + 7 + 1 : Nat) : Int) + 1) = 8 * ((j + 1 : Nat) : Int) + 1 := by rw [IntWalk.i64_in _ (by omega)]; omega
    have e0 : 8 * (j : Int) + 1 = ((8 * j + 0 + 1 : Nat) : Int) := by omega
    rw [e1, e2, e3, e4, e5, e6, e7, e8, e0]
    exact hΨ
  · unfold mkY_step
    refine (T.h_ite (fun hc => absurd hc (by simp <;> omega)) (fun _ => T.h_leaf hΨ.2))

def mkY_dec (b : Mem) (f : FSt) : Option (CmkY × VmkY) :=
  match getSu 1 8 (findF 0 f.sl), getTie (findF 999 f.sl), getI (findF 5 f.sl), getI (findF 1 f.sl), id b, f.mem with
  | some (0, n_), some (), some q_i, some q_k, [none], [_, some (.cols m_ [.str q_a0, .fl .f32 q_a1, .fl .f32 q_a2, .fl .f32 q_a3, .fl .f32 q_a4, .fl .f32 q_a5, .fl .f32 q_a6, .fl .f32 q_a7])] => some ({ n := n_, m := m_ }, { i := q_i, k := q_k, a0 := q_a0, a1 := q_a1, a2 := q_a2, a3 := q_a3, a4 := q_a4, a5 := q_a5, a6 := q_a6, a7 := q_a7 })
  | _, _, _, _, _, _ => none
theorem mkY_dec_ok (b : Mem) (f : FSt) (x : CmkY × VmkY) (h : mkY_dec b f = some x) : b = x.1.base ∧ FLe b f (mkY_st x.1 x.2) := by
  unfold mkY_dec at h
  split at h
  · rename_i e0 e1 e2 e3 hb hm
    cases h
    have hb : b = _ := hb
    subst hb
    refine ⟨rfl, fle_of (fun p hp => ?_) (by rw [hm]; exact memLe_refl _)⟩
    simp only [List.mem_cons, List.not_mem_nil, or_false] at hp
    rcases hp with rfl | rfl | rfl | rfl
    · exact getSu_rel e0
    · exact getI_rel e3
    · exact getI_rel e2
    · exact getTie_rel e1
  · cases h
noncomputable def mkY_sum : SumF Try.prog 83 mkYRoot :=
  sumL (pathB mkYRoot 0) mkY_dec (fun x => x.1.base) (fun x => mkY_st x.1 x.2) mkY_R mkY_dec_ok (by
    intro code hc x
    have hc2 : code = .block 0 (.loop (bodyB mkYRoot 0)) := by
      have h : subR mkYRoot (pathB mkYRoot 0) = some (.block 0 (.loop (bodyB mkYRoot 0))) := by kernel_rfl
      rw [h] at hc; cases hc; rfl
    subst hc2
    exact mkY_tri x)

noncomputable def w_mkY0 : Wr Try.prog 21 := mkW Try.prog mix [k_markText] 21 Try.f21 (bodyOf Try.f21) Try.func21 (by kernel_rfl) (by kernel_rfl) [0, 1, 4, 5, 9, 198, 999] 83 (by kernel_rfl) (by kernel_rfl) [mkY_sum]
theorem mkY_fill (n m : Nat) (a : (Nat → ByteArray) × (Nat → Nat) × (Nat → Nat) × (Nat → Nat) × (Nat → Nat) × (Nat → Nat) × (Nat → Nat) × (Nat → Nat)) (i : Nat) (hi : i < n) : (iter (mkY_g { n := n, m := m }) n 0 a).1 i = mkYs 0 i ∧ (iter (mkY_g { n := n, m := m }) n 0 a).2.1 i = mkYf 1 i ∧ (iter (mkY_g { n := n, m := m }) n 0 a).2.2.1 i = mkYf 2 i ∧ (iter (mkY_g { n := n, m := m }) n 0 a).2.2.2.1 i = mkYf 3 i ∧ (iter (mkY_g { n := n, m := m }) n 0 a).2.2.2.2.1 i = mkYf 4 i ∧ (iter (mkY_g { n := n, m := m }) n 0 a).2.2.2.2.2.1 i = mkYf 5 i ∧ (iter (mkY_g { n := n, m := m }) n 0 a).2.2.2.2.2.2.1 i = mkYf 6 i ∧ (iter (mkY_g { n := n, m := m }) n 0 a).2.2.2.2.2.2.2 i = mkYf 7 i :=
  ⟨fillG (mkY_g { n := n, m := m }) (fun a => a.1) (mkYs 0) (fun j a q h => if_neg h) (fun j a => if_pos rfl) n 0 a i (Nat.zero_le i) (by omega),
   fillG (mkY_g { n := n, m := m }) (fun a => a.2.1) (mkYf 1) (fun j a q h => if_neg h) (fun j a => if_pos rfl) n 0 a i (Nat.zero_le i) (by omega),
   fillG (mkY_g { n := n, m := m }) (fun a => a.2.2.1) (mkYf 2) (fun j a q h => if_neg h) (fun j a => if_pos rfl) n 0 a i (Nat.zero_le i) (by omega),
   fillG (mkY_g { n := n, m := m }) (fun a => a.2.2.2.1) (mkYf 3) (fun j a q h => if_neg h) (fun j a => if_pos rfl) n 0 a i (Nat.zero_le i) (by omega),
   fillG (mkY_g { n := n, m := m }) (fun a => a.2.2.2.2.1) (mkYf 4) (fun j a q h => if_neg h) (fun j a => if_pos rfl) n 0 a i (Nat.zero_le i) (by omega),
   fillG (mkY_g { n := n, m := m }) (fun a => a.2.2.2.2.2.1) (mkYf 5) (fun j a q h => if_neg h) (fun j a => if_pos rfl) n 0 a i (Nat.zero_le i) (by omega),
   fillG (mkY_g { n := n, m := m }) (fun a => a.2.2.2.2.2.2.1) (mkYf 6) (fun j a q h => if_neg h) (fun j a => if_pos rfl) n 0 a i (Nat.zero_le i) (by omega),
   fillG (mkY_g { n := n, m := m }) (fun a => a.2.2.2.2.2.2.2) (mkYf 7) (fun j a q h => if_neg h) (fun j a => if_pos rfl) n 0 a i (Nat.zero_le i) (by omega)⟩
def run_markY : List AV → Blk → T (AV × Blk)
  | [.one (.sl 1 8 0 n cap kn), .one (.int .i64 k)], .cols m [.str f0, .fl .f32 f1, .fl .f32 f2, .fl .f32 f3, .fl .f32 f4, .fl .f32 f5, .fl .f32 f6, .fl .f32 f7] => .need (decide (n ≤ cap)) (.need (decide (n ≤ m)) (.need (decide (n ≤ 1048576)) (.need (decide (k = 1)) (.leaf ((.one (.num .i64 (8 * (n : Int) + 1))), .cols n [.str (mkYs 0), .fl .f32 (mkYf 1), .fl .f32 (mkYf 2), .fl .f32 (mkYf 3), .fl .f32 (mkYf 4), .fl .f32 (mkYf 5), .fl .f32 (mkYf 6), .fl .f32 (mkYf 7)])))))
  | [.one (.su 1 8 0 n kn), .one (.int .i64 k)], .cols m [.str f0, .fl .f32 f1, .fl .f32 f2, .fl .f32 f3, .fl .f32 f4, .fl .f32 f5, .fl .f32 f6, .fl .f32 f7] => .need (decide (n ≤ m)) (.need (decide (n ≤ 1048576)) (.need (decide (k = 1)) (.leaf ((.one (.num .i64 (8 * (n : Int) + 1))), .cols n [.str (mkYs 0), .fl .f32 (mkYf 1), .fl .f32 (mkYf 2), .fl .f32 (mkYf 3), .fl .f32 (mkYf 4), .fl .f32 (mkYf 5), .fl .f32 (mkYf 6), .fl .f32 (mkYf 7)]))))
  | _, _ => .fail
theorem w_mkY0_ev (n m : Nat) (f0 : Nat → ByteArray) (f1 : Nat → Nat) (f2 : Nat → Nat) (f3 : Nat → Nat) (f4 : Nat → Nat) (f5 : Nat → Nat) (f6 : Nat → Nat) (f7 : Nat → Nat) : w_mkY0.run [.one (.su 1 8 0 n false), .one (.num .i64 1)] (.cols m [.str f0, .fl .f32 f1, .fl .f32 f2, .fl .f32 f3, .fl .f32 f4, .fl .f32 f5, .fl .f32 f6, .fl .f32 f7]) =
    .need (mkY_ok { n := n, m := m } { i := 0, k := 1, a0 := f0, a1 := f1, a2 := f2, a3 := f3, a4 := f4, a5 := f5, a6 := f6, a7 := f7 }) (.leaf ((.one (.num .i64 (8 * (n : Int) + 1))), .cols m [.str (iter (mkY_g { n := n, m := m }) n 0 (f0, f1, f2, f3, f4, f5, f6, f7)).1, .fl .f32 (iter (mkY_g { n := n, m := m }) n 0 (f0, f1, f2, f3, f4, f5, f6, f7)).2.1, .fl .f32 (iter (mkY_g { n := n, m := m }) n 0 (f0, f1, f2, f3, f4, f5, f6, f7)).2.2.1, .fl .f32 (iter (mkY_g { n := n, m := m }) n 0 (f0, f1, f2, f3, f4, f5, f6, f7)).2.2.2.1, .fl .f32 (iter (mkY_g { n := n, m := m }) n 0 (f0, f1, f2, f3, f4, f5, f6, f7)).2.2.2.2.1, .fl .f32 (iter (mkY_g { n := n, m := m }) n 0 (f0, f1, f2, f3, f4, f5, f6, f7)).2.2.2.2.2.1, .fl .f32 (iter (mkY_g { n := n, m := m }) n 0 (f0, f1, f2, f3, f4, f5, f6, f7)).2.2.2.2.2.2.1, .fl .f32 (iter (mkY_g { n := n, m := m }) n 0 (f0, f1, f2, f3, f4, f5, f6, f7)).2.2.2.2.2.2.2])) := by kernel_rfl
theorem w_mkY_in (n m : Nat) (f0 : Nat → ByteArray) (f1 : Nat → Nat) (f2 : Nat → Nat) (f3 : Nat → Nat) (f4 : Nat → Nat) (f5 : Nat → Nat) (f6 : Nat → Nat) (f7 : Nat → Nat) (hm : n ≤ m) (hn : n ≤ 1048576) (Φ : AV × Blk → Prop) (hΦ : ∀ r s : AV × Blk, (∀ ρ v, r.1.rel ρ v → s.1.rel ρ v) → BlLe r.2 s.2 → Φ s → Φ r) (h : Φ ((.one (.num .i64 (8 * (n : Int) + 1))), .cols n [.str (mkYs 0), .fl .f32 (mkYf 1), .fl .f32 (mkYf 2), .fl .f32 (mkYf 3), .fl .f32 (mkYf 4), .fl .f32 (mkYf 5), .fl .f32 (mkYf 6), .fl .f32 (mkYf 7)])) :
    (w_mkY0.run [.one (.su 1 8 0 n false), .one (.num .i64 1)] (.cols m [.str f0, .fl .f32 f1, .fl .f32 f2, .fl .f32 f3, .fl .f32 f4, .fl .f32 f5, .fl .f32 f6, .fl .f32 f7])).holds Φ := by
  rw [w_mkY0_ev]
  have hbl : BlLe (.cols n [.str (iter (mkY_g { n := n, m := m }) n 0 (f0, f1, f2, f3, f4, f5, f6, f7)).1, .fl .f32 (iter (mkY_g { n := n, m := m }) n 0 (f0, f1, f2, f3, f4, f5, f6, f7)).2.1, .fl .f32 (iter (mkY_g { n := n, m := m }) n 0 (f0, f1, f2, f3, f4, f5, f6, f7)).2.2.1, .fl .f32 (iter (mkY_g { n := n, m := m }) n 0 (f0, f1, f2, f3, f4, f5, f6, f7)).2.2.2.1, .fl .f32 (iter (mkY_g { n := n, m := m }) n 0 (f0, f1, f2, f3, f4, f5, f6, f7)).2.2.2.2.1, .fl .f32 (iter (mkY_g { n := n, m := m }) n 0 (f0, f1, f2, f3, f4, f5, f6, f7)).2.2.2.2.2.1, .fl .f32 (iter (mkY_g { n := n, m := m }) n 0 (f0, f1, f2, f3, f4, f5, f6, f7)).2.2.2.2.2.2.1, .fl .f32 (iter (mkY_g { n := n, m := m }) n 0 (f0, f1, f2, f3, f4, f5, f6, f7)).2.2.2.2.2.2.2]) (.cols n [.str (mkYs 0), .fl .f32 (mkYf 1), .fl .f32 (mkYf 2), .fl .f32 (mkYf 3), .fl .f32 (mkYf 4), .fl .f32 (mkYf 5), .fl .f32 (mkYf 6), .fl .f32 (mkYf 7)]) := by
    refine BlLe.cols_eq (fun i hi => ?_) (by simp only [List.length_cons, List.length_nil])
    obtain ⟨h0, h1, h2, h3, h4, h5, h6, h7⟩ := mkY_fill n m (f0, f1, f2, f3, f4, f5, f6, f7) i hi
    simp only [colsAt, Col.at, h0, h1, h2, h3, h4, h5, h6, h7]
  have hbl2 : BlLe (.cols m [.str (iter (mkY_g { n := n, m := m }) n 0 (f0, f1, f2, f3, f4, f5, f6, f7)).1, .fl .f32 (iter (mkY_g { n := n, m := m }) n 0 (f0, f1, f2, f3, f4, f5, f6, f7)).2.1, .fl .f32 (iter (mkY_g { n := n, m := m }) n 0 (f0, f1, f2, f3, f4, f5, f6, f7)).2.2.1, .fl .f32 (iter (mkY_g { n := n, m := m }) n 0 (f0, f1, f2, f3, f4, f5, f6, f7)).2.2.2.1, .fl .f32 (iter (mkY_g { n := n, m := m }) n 0 (f0, f1, f2, f3, f4, f5, f6, f7)).2.2.2.2.1, .fl .f32 (iter (mkY_g { n := n, m := m }) n 0 (f0, f1, f2, f3, f4, f5, f6, f7)).2.2.2.2.2.1, .fl .f32 (iter (mkY_g { n := n, m := m }) n 0 (f0, f1, f2, f3, f4, f5, f6, f7)).2.2.2.2.2.2.1, .fl .f32 (iter (mkY_g { n := n, m := m }) n 0 (f0, f1, f2, f3, f4, f5, f6, f7)).2.2.2.2.2.2.2]) (.cols n [.str (iter (mkY_g { n := n, m := m }) n 0 (f0, f1, f2, f3, f4, f5, f6, f7)).1, .fl .f32 (iter (mkY_g { n := n, m := m }) n 0 (f0, f1, f2, f3, f4, f5, f6, f7)).2.1, .fl .f32 (iter (mkY_g { n := n, m := m }) n 0 (f0, f1, f2, f3, f4, f5, f6, f7)).2.2.1, .fl .f32 (iter (mkY_g { n := n, m := m }) n 0 (f0, f1, f2, f3, f4, f5, f6, f7)).2.2.2.1, .fl .f32 (iter (mkY_g { n := n, m := m }) n 0 (f0, f1, f2, f3, f4, f5, f6, f7)).2.2.2.2.1, .fl .f32 (iter (mkY_g { n := n, m := m }) n 0 (f0, f1, f2, f3, f4, f5, f6, f7)).2.2.2.2.2.1, .fl .f32 (iter (mkY_g { n := n, m := m }) n 0 (f0, f1, f2, f3, f4, f5, f6, f7)).2.2.2.2.2.2.1, .fl .f32 (iter (mkY_g { n := n, m := m }) n 0 (f0, f1, f2, f3, f4, f5, f6, f7)).2.2.2.2.2.2.2]) := BlLe.cols_le hm
  have hok : mkY_ok { n := n, m := m } { i := 0, k := 1, a0 := f0, a1 := f1, a2 := f2, a3 := f3, a4 := f4, a5 := f5, a6 := f6, a7 := f7 } = true := by
    unfold mkY_ok
    refine decide_eq_true ⟨hm, hn, ?_, Int.le_refl 0, Int.natCast_nonneg n⟩
    show (1 : Int) = 8 * 0 + 1
    omega
  exact T.h_need hok (T.h_leaf (hΦ _ ((.one (.num .i64 (8 * (n : Int) + 1))), .cols n [.str (mkYs 0), .fl .f32 (mkYf 1), .fl .f32 (mkYf 2), .fl .f32 (mkYf 3), .fl .f32 (mkYf 4), .fl .f32 (mkYf 5), .fl .f32 (mkYf 6), .fl .f32 (mkYf 7)]) (fun _ _ hv => hv) (fun ρ w b o hb => hbl ρ w b o (hbl2 ρ w b o hb)) h))
set_option maxHeartbeats 4000000 in
noncomputable def w_markY : Wr Try.prog 21 := w_mkY0.re run_markY (by
  intro args C Φ hΦ h
  unfold run_markY at h
  split at h
  · rename_i n cap kn k m f0 f1 f2 f3 f4 f5 f6 f7
    have hk : k = 1 := of_decide_eq_true h.2.2.2.1
    have h0 : n ≤ cap := of_decide_eq_true h.1
    subst hk
    have hm : n ≤ m := of_decide_eq_true h.2.1
    have hn : n ≤ 1048576 := of_decide_eq_true h.2.2.1
    have hl : Φ ((.one (.num .i64 (8 * (n : Int) + 1))), .cols n [.str (mkYs 0), .fl .f32 (mkYf 1), .fl .f32 (mkYf 2), .fl .f32 (mkYf 3), .fl .f32 (mkYf 4), .fl .f32 (mkYf 5), .fl .f32 (mkYf 6), .fl .f32 (mkYf 7)]) := h.2.2.2.2
    have key := w_mkY_in n m f0 f1 f2 f3 f4 f5 f6 f7 hm hn Φ hΦ hl
    refine Exists.intro [.one (.su 1 8 0 n false), .one (.num .i64 1)] (And.intro ?_ ?_)
    · intro ρ vals hv
      exact slargs h0 hv
    · exact key
  · rename_i n kn k m f0 f1 f2 f3 f4 f5 f6 f7
    have hk : k = 1 := of_decide_eq_true h.2.2.1
    subst hk
    have hm : n ≤ m := of_decide_eq_true h.1
    have hn : n ≤ 1048576 := of_decide_eq_true h.2.1
    have hl : Φ ((.one (.num .i64 (8 * (n : Int) + 1))), .cols n [.str (mkYs 0), .fl .f32 (mkYf 1), .fl .f32 (mkYf 2), .fl .f32 (mkYf 3), .fl .f32 (mkYf 4), .fl .f32 (mkYf 5), .fl .f32 (mkYf 6), .fl .f32 (mkYf 7)]) := h.2.2.2
    have key := w_mkY_in n m f0 f1 f2 f3 f4 f5 f6 f7 hm hn Φ hΦ hl
    refine Exists.intro [.one (.su 1 8 0 n false), .one (.num .i64 1)] (And.intro ?_ ?_)
    · intro ρ vals hv
      exact suargs hv
    · exact key
  · exact h.elim)
noncomputable def k_markYN : Ctr Try.prog := mkF Try.prog mix [k_markText] 21 Try.f21 (bodyOf Try.f21) Try.func21 (by kernel_rfl) (by kernel_rfl) [0, 1, 4, 5, 9] 83 (by kernel_rfl) (by kernel_rfl)
noncomputable def k_markY : Ctr Try.prog := k_markYN.withW w_markY
structure CheY where
  n : Nat
  m : Nat
  f0 : Nat → ByteArray
  f1 : Nat → Nat
  f2 : Nat → Nat
  f3 : Nat → Nat
  f4 : Nat → Nat
  f5 : Nat → Nat
  f6 : Nat → Nat
  f7 : Nat → Nat
def CheY.base (c : CheY) : Mem := [some (.cols c.m [.str c.f0, .fl .f32 c.f1, .fl .f32 c.f2, .fl .f32 c.f3, .fl .f32 c.f4, .fl .f32 c.f5, .fl .f32 c.f6, .fl .f32 c.f7])]
structure VheY where
  i : Int
  k : Int
noncomputable abbrev heYRoot : Code := bodyOf Try.f22
def heY_st (c : CheY) (v : VheY) : FSt := ⟨[(0, .one (.su 0 8 0 c.n false)), (1, .one (.num .i64 v.k)), (5, .one (.num .i64 v.i))], c.base ++ []⟩
def heY_step (c : CheY) (v : VheY) : T (Nx VheY) :=
  .ite (decide (v.1 < ((c.1 : Nat) : Int))) (.need (decide (0 ≤ v.1) && decide (v.1 < ((c.1 : Nat) : Int))) (.need (decide (v.1.toNat + 0 < c.2)) (.need (decide (0 < v.2 ∧ v.2 ≤ 16777216)) (.need (bif !(c.3 (v.1.toNat + 0)).toList == (mkT v.2).toList then true else decide (0 ≤ v.1) && decide (v.1 < ((c.1 : Nat) : Int))) (.need (bif !(c.3 (v.1.toNat + 0)).toList == (mkT v.2).toList then true else decide (v.1.toNat + 0 < c.2)) (.need (bif !(c.3 (v.1.toNat + 0)).toList == (mkT v.2).toList then true else bif !feq FloatKind.f32 (c.4 (v.1.toNat + 0)) (fint FloatKind.f32 (IntKind.i64.wrap (v.2 + 1))) then true else decide (0 ≤ v.1) && decide (v.1 < ((c.1 : Nat) : Int))) (.need (bif !(c.3 (v.1.toNat + 0)).toList == (mkT v.2).toList then true else bif !feq FloatKind.f32 (c.4 (v.1.toNat + 0)) (fint FloatKind.f32 (IntKind.i64.wrap (v.2 + 1))) then true else decide (v.1.toNat + 0 < c.2)) (.need (bif !(c.3 (v.1.toNat + 0)).toList == (mkT v.2).toList then true else bif !feq FloatKind.f32 (c.4 (v.1.toNat + 0)) (fint FloatKind.f32 (IntKind.i64.wrap (v.2 + 1))) then true else bif !feq FloatKind.f32 (c.5 (v.1.toNat + 0)) (fint FloatKind.f32 (IntKind.i64.wrap (IntKind.i64.wrap (v.2 + 1) + 1))) then true else decide (0 ≤ v.1) && decide (v.1 < ((c.1 : Nat) : Int))) (.need (bif !(c.3 (v.1.toNat + 0)).toList == (mkT v.2).toList then true else bif !feq FloatKind.f32 (c.4 (v.1.toNat + 0)) (fint FloatKind.f32 (IntKind.i64.wrap (v.2 + 1))) then true else bif !feq FloatKind.f32 (c.5 (v.1.toNat + 0)) (fint FloatKind.f32 (IntKind.i64.wrap (IntKind.i64.wrap (v.2 + 1) + 1))) then true else decide (v.1.toNat + 0 < c.2)) (.need (bif !(c.3 (v.1.toNat + 0)).toList == (mkT v.2).toList then true else bif !feq FloatKind.f32 (c.4 (v.1.toNat + 0)) (fint FloatKind.f32 (IntKind.i64.wrap (v.2 + 1))) then true else bif !feq FloatKind.f32 (c.5 (v.1.toNat + 0)) (fint FloatKind.f32 (IntKind.i64.wrap (IntKind.i64.wrap (v.2 + 1) + 1))) then true else bif !feq FloatKind.f32 (c.6 (v.1.toNat + 0)) (fint FloatKind.f32 (IntKind.i64.wrap (IntKind.i64.wrap (IntKind.i64.wrap (v.2 + 1) + 1) + 1))) then true else decide (0 ≤ v.1) && decide (v.1 < ((c.1 : Nat) : Int))) (.need (bif !(c.3 (v.1.toNat + 0)).toList == (mkT v.2).toList then true else bif !feq FloatKind.f32 (c.4 (v.1.toNat + 0)) (fint FloatKind.f32 (IntKind.i64.wrap (v.2 + 1))) then true else bif !feq FloatKind.f32 (c.5 (v.1.toNat + 0)) (fint FloatKind.f32 (IntKind.i64.wrap (IntKind.i64.wrap (v.2 + 1) + 1))) then true else bif !feq FloatKind.f32 (c.6 (v.1.toNat + 0)) (fint FloatKind.f32 (IntKind.i64.wrap (IntKind.i64.wrap (IntKind.i64.wrap (v.2 + 1) + 1) + 1))) then true else decide (v.1.toNat + 0 < c.2)) (.need (bif !(c.3 (v.1.toNat + 0)).toList == (mkT v.2).toList then true else bif !feq FloatKind.f32 (c.4 (v.1.toNat + 0)) (fint FloatKind.f32 (IntKind.i64.wrap (v.2 + 1))) then true else bif !feq FloatKind.f32 (c.5 (v.1.toNat + 0)) (fint FloatKind.f32 (IntKind.i64.wrap (IntKind.i64.wrap (v.2 + 1) + 1))) then true else bif !feq FloatKind.f32 (c.6 (v.1.toNat + 0)) (fint FloatKind.f32 (IntKind.i64.wrap (IntKind.i64.wrap (IntKind.i64.wrap (v.2 + 1) + 1) + 1))) then true else bif !feq FloatKind.f32 (c.7 (v.1.toNat + 0)) (fint FloatKind.f32 (IntKind.i64.wrap (IntKind.i64.wrap (IntKind.i64.wrap (IntKind.i64.wrap (v.2 + 1) + 1) + 1) + 1))) then true else decide (0 ≤ v.1) && decide (v.1 < ((c.1 : Nat) : Int))) (.need (bif !(c.3 (v.1.toNat + 0)).toList == (mkT v.2).toList then true else bif !feq FloatKind.f32 (c.4 (v.1.toNat + 0)) (fint FloatKind.f32 (IntKind.i64.wrap (v.2 + 1))) then true else bif !feq FloatKind.f32 (c.5 (v.1.toNat + 0)) (fint FloatKind.f32 (IntKind.i64.wrap (IntKind.i64.wrap (v.2 + 1) + 1))) then true else bif !feq FloatKind.f32 (c.6 (v.1.toNat + 0)) (fint FloatKind.f32 (IntKind.i64.wrap (IntKind.i64.wrap (IntKind.i64.wrap (v.2 + 1) + 1) + 1))) then true else bif !feq FloatKind.f32 (c.7 (v.1.toNat + 0)) (fint FloatKind.f32 (IntKind.i64.wrap (IntKind.i64.wrap (IntKind.i64.wrap (IntKind.i64.wrap (v.2 + 1) + 1) + 1) + 1))) then true else decide (v.1.toNat + 0 < c.2)) (.need (bif !(c.3 (v.1.toNat + 0)).toList == (mkT v.2).toList then true else bif !feq FloatKind.f32 (c.4 (v.1.toNat + 0)) (fint FloatKind.f32 (IntKind.i64.wrap (v.2 + 1))) then true else bif !feq FloatKind.f32 (c.5 (v.1.toNat + 0)) (fint FloatKind.f32 (IntKind.i64.wrap (IntKind.i64.wrap (v.2 + 1) + 1))) then true else bif !feq FloatKind.f32 (c.6 (v.1.toNat + 0)) (fint FloatKind.f32 (IntKind.i64.wrap (IntKind.i64.wrap (IntKind.i64.wrap (v.2 + 1) + 1) + 1))) then true else bif !feq FloatKind.f32 (c.7 (v.1.toNat + 0)) (fint FloatKind.f32 (IntKind.i64.wrap (IntKind.i64.wrap (IntKind.i64.wrap (IntKind.i64.wrap (v.2 + 1) + 1) + 1) + 1))) then true else bif !feq FloatKind.f32 (c.8 (v.1.toNat + 0)) (fint FloatKind.f32 (IntKind.i64.wrap (IntKind.i64.wrap (IntKind.i64.wrap (IntKind.i64.wrap (IntKind.i64.wrap (v.2 + 1) + 1) + 1) + 1) + 1))) then true else decide (0 ≤ v.1) && decide (v.1 < ((c.1 : Nat) : Int))) (.need (bif !(c.3 (v.1.toNat + 0)).toList == (mkT v.2).toList then true else bif !feq FloatKind.f32 (c.4 (v.1.toNat + 0)) (fint FloatKind.f32 (IntKind.i64.wrap (v.2 + 1))) then true else bif !feq FloatKind.f32 (c.5 (v.1.toNat + 0)) (fint FloatKind.f32 (IntKind.i64.wrap (IntKind.i64.wrap (v.2 + 1) + 1))) then true else bif !feq FloatKind.f32 (c.6 (v.1.toNat + 0)) (fint FloatKind.f32 (IntKind.i64.wrap (IntKind.i64.wrap (IntKind.i64.wrap (v.2 + 1) + 1) + 1))) then true else bif !feq FloatKind.f32 (c.7 (v.1.toNat + 0)) (fint FloatKind.f32 (IntKind.i64.wrap (IntKind.i64.wrap (IntKind.i64.wrap (IntKind.i64.wrap (v.2 + 1) + 1) + 1) + 1))) then true else bif !feq FloatKind.f32 (c.8 (v.1.toNat + 0)) (fint FloatKind.f32 (IntKind.i64.wrap (IntKind.i64.wrap (IntKind.i64.wrap (IntKind.i64.wrap (IntKind.i64.wrap (v.2 + 1) + 1) + 1) + 1) + 1))) then true else decide (v.1.toNat + 0 < c.2)) (.need (bif !(c.3 (v.1.toNat + 0)).toList == (mkT v.2).toList then true else bif !feq FloatKind.f32 (c.4 (v.1.toNat + 0)) (fint FloatKind.f32 (IntKind.i64.wrap (v.2 + 1))) then true else bif !feq FloatKind.f32 (c.5 (v.1.toNat + 0)) (fint FloatKind.f32 (IntKind.i64.wrap (IntKind.i64.wrap (v.2 + 1) + 1))) then true else bif !feq FloatKind.f32 (c.6 (v.1.toNat + 0)) (fint FloatKind.f32 (IntKind.i64.wrap (IntKind.i64.wrap (IntKind.i64.wrap (v.2 + 1) + 1) + 1))) then true else bif !feq FloatKind.f32 (c.7 (v.1.toNat + 0)) (fint FloatKind.f32 (IntKind.i64.wrap (IntKind.i64.wrap (IntKind.i64.wrap (IntKind.i64.wrap (v.2 + 1) + 1) + 1) + 1))) then true else bif !feq FloatKind.f32 (c.8 (v.1.toNat + 0)) (fint FloatKind.f32 (IntKind.i64.wrap (IntKind.i64.wrap (IntKind.i64.wrap (IntKind.i64.wrap (IntKind.i64.wrap (v.2 + 1) + 1) + 1) + 1) + 1))) then true else bif !feq FloatKind.f32 (c.9 (v.1.toNat + 0)) (fint FloatKind.f32 (IntKind.i64.wrap (IntKind.i64.wrap (IntKind.i64.wrap (IntKind.i64.wrap (IntKind.i64.wrap (IntKind.i64.wrap (v.2 + 1) + 1) + 1) + 1) + 1) + 1))) then true else decide (0 ≤ v.1) && decide (v.1 < ((c.1 : Nat) : Int))) (.need (bif !(c.3 (v.1.toNat + 0)).toList == (mkT v.2).toList then true else bif !feq FloatKind.f32 (c.4 (v.1.toNat + 0)) (fint FloatKind.f32 (IntKind.i64.wrap (v.2 + 1))) then true else bif !feq FloatKind.f32 (c.5 (v.1.toNat + 0)) (fint FloatKind.f32 (IntKind.i64.wrap (IntKind.i64.wrap (v.2 + 1) + 1))) then true else bif !feq FloatKind.f32 (c.6 (v.1.toNat + 0)) (fint FloatKind.f32 (IntKind.i64.wrap (IntKind.i64.wrap (IntKind.i64.wrap (v.2 + 1) + 1) + 1))) then true else bif !feq FloatKind.f32 (c.7 (v.1.toNat + 0)) (fint FloatKind.f32 (IntKind.i64.wrap (IntKind.i64.wrap (IntKind.i64.wrap (IntKind.i64.wrap (v.2 + 1) + 1) + 1) + 1))) then true else bif !feq FloatKind.f32 (c.8 (v.1.toNat + 0)) (fint FloatKind.f32 (IntKind.i64.wrap (IntKind.i64.wrap (IntKind.i64.wrap (IntKind.i64.wrap (IntKind.i64.wrap (v.2 + 1) + 1) + 1) + 1) + 1))) then true else bif !feq FloatKind.f32 (c.9 (v.1.toNat + 0)) (fint FloatKind.f32 (IntKind.i64.wrap (IntKind.i64.wrap (IntKind.i64.wrap (IntKind.i64.wrap (IntKind.i64.wrap (IntKind.i64.wrap (v.2 + 1) + 1) + 1) + 1) + 1) + 1))) then true else decide (v.1.toNat + 0 < c.2)) (.ite (!(c.3 (v.1.toNat + 0)).toList == (mkT v.2).toList) (.leaf (.out (EX.ret) ⟨[(0, AV.one (SV.su 0 8 0 c.1 false)), (1, AV.one (SV.num IntKind.i64 v.2)), (5, AV.one (SV.num IntKind.i64 v.1))], c.base ++ []⟩)) (.ite (!feq FloatKind.f32 (c.4 (v.1.toNat + 0)) (fint FloatKind.f32 (IntKind.i64.wrap (v.2 + 1)))) (.leaf (.out (EX.ret) ⟨[(0, AV.one (SV.su 0 8 0 c.1 false)), (1, AV.one (SV.num IntKind.i64 (IntKind.i64.wrap (v.2 + 1)))), (5, AV.one (SV.num IntKind.i64 v.1))], c.base ++ []⟩)) (.ite (!feq FloatKind.f32 (c.5 (v.1.toNat + 0)) (fint FloatKind.f32 (IntKind.i64.wrap (IntKind.i64.wrap (v.2 + 1) + 1)))) (.leaf (.out (EX.ret) ⟨[(0, AV.one (SV.su 0 8 0 c.1 false)), (1, AV.one (SV.num IntKind.i64 (IntKind.i64.wrap (IntKind.i64.wrap (v.2 + 1) + 1)))), (5, AV.one (SV.num IntKind.i64 v.1))], c.base ++ []⟩)) (.ite (!feq FloatKind.f32 (c.6 (v.1.toNat + 0)) (fint FloatKind.f32 (IntKind.i64.wrap (IntKind.i64.wrap (IntKind.i64.wrap (v.2 + 1) + 1) + 1)))) (.leaf (.out (EX.ret) ⟨[(0, AV.one (SV.su 0 8 0 c.1 false)), (1, AV.one (SV.num IntKind.i64 (IntKind.i64.wrap (IntKind.i64.wrap (IntKind.i64.wrap (v.2 + 1) + 1) + 1)))), (5, AV.one (SV.num IntKind.i64 v.1))], c.base ++ []⟩)) (.ite (!feq FloatKind.f32 (c.7 (v.1.toNat + 0)) (fint FloatKind.f32 (IntKind.i64.wrap (IntKind.i64.wrap (IntKind.i64.wrap (IntKind.i64.wrap (v.2 + 1) + 1) + 1) + 1)))) (.leaf (.out (EX.ret) ⟨[(0, AV.one (SV.su 0 8 0 c.1 false)), (1, AV.one (SV.num IntKind.i64 (IntKind.i64.wrap (IntKind.i64.wrap (IntKind.i64.wrap (IntKind.i64.wrap (v.2 + 1) + 1) + 1) + 1)))), (5, AV.one (SV.num IntKind.i64 v.1))], c.base ++ []⟩)) (.ite (!feq FloatKind.f32 (c.8 (v.1.toNat + 0)) (fint FloatKind.f32 (IntKind.i64.wrap (IntKind.i64.wrap (IntKind.i64.wrap (IntKind.i64.wrap (IntKind.i64.wrap (v.2 + 1) + 1) + 1) + 1) + 1)))) (.leaf (.out (EX.ret) ⟨[(0, AV.one (SV.su 0 8 0 c.1 false)), (1, AV.one (SV.num IntKind.i64 (IntKind.i64.wrap (IntKind.i64.wrap (IntKind.i64.wrap (IntKind.i64.wrap (IntKind.i64.wrap (v.2 + 1) + 1) + 1) + 1) + 1)))), (5, AV.one (SV.num IntKind.i64 v.1))], c.base ++ []⟩)) (.ite (!feq FloatKind.f32 (c.9 (v.1.toNat + 0)) (fint FloatKind.f32 (IntKind.i64.wrap (IntKind.i64.wrap (IntKind.i64.wrap (IntKind.i64.wrap (IntKind.i64.wrap (IntKind.i64.wrap (v.2 + 1) + 1) + 1) + 1) + 1) + 1)))) (.leaf (.out (EX.ret) ⟨[(0, AV.one (SV.su 0 8 0 c.1 false)), (1, AV.one (SV.num IntKind.i64 (IntKind.i64.wrap (IntKind.i64.wrap (IntKind.i64.wrap (IntKind.i64.wrap (IntKind.i64.wrap (IntKind.i64.wrap (v.2 + 1) + 1) + 1) + 1) + 1) + 1)))), (5, AV.one (SV.num IntKind.i64 v.1))], c.base ++ []⟩)) (.ite (!feq FloatKind.f32 (c.10 (v.1.toNat + 0)) (fint FloatKind.f32 (IntKind.i64.wrap (IntKind.i64.wrap (IntKind.i64.wrap (IntKind.i64.wrap (IntKind.i64.wrap (IntKind.i64.wrap (IntKind.i64.wrap (v.2 + 1) + 1) + 1) + 1) + 1) + 1) + 1)))) (.leaf (.out (EX.ret) ⟨[(0, AV.one (SV.su 0 8 0 c.1 false)), (1, AV.one (SV.num IntKind.i64 (IntKind.i64.wrap (IntKind.i64.wrap (IntKind.i64.wrap (IntKind.i64.wrap (IntKind.i64.wrap (IntKind.i64.wrap (IntKind.i64.wrap (v.2 + 1) + 1) + 1) + 1) + 1) + 1) + 1)))), (5, AV.one (SV.num IntKind.i64 v.1))], c.base ++ []⟩)) (.leaf (.go { i := IntKind.i64.wrap (v.1 + 1), k := IntKind.i64.wrap (IntKind.i64.wrap (IntKind.i64.wrap (IntKind.i64.wrap (IntKind.i64.wrap (IntKind.i64.wrap (IntKind.i64.wrap (IntKind.i64.wrap (v.2 + 1) + 1) + 1) + 1) + 1) + 1) + 1) + 1) }))))))))))))))))))))))))))) (.leaf (.out (EX.exit 0) ⟨[(0, AV.one (SV.su 0 8 0 c.1 false)), (1, AV.one (SV.num IntKind.i64 v.2)), (5, AV.one (SV.num IntKind.i64 v.1))], c.base ++ []⟩))
theorem heY_round (c : CheY) (v : VheY) : roundF Try.prog 99 [k_markText] heYRoot [] c.base [0, 1, 4, 5, 9, 19, 29, 40, 51, 62, 73, 84, 95, 198] [0, 1, 5] 0 (heY_st c v) = (heY_step c v).map (nxF (heY_st c)) := by kernel_rfl
def heY_g (c : CheY) (j : Nat) (a : Unit) : Unit := a
def heY_ok (c : CheY) (v : VheY) : Bool := decide (c.n ≤ c.m ∧ c.n ≤ 1048576 ∧ v.k = 8 * v.i + 1 ∧ (∀ i, i < c.n → c.f0 i = mkYs 0 i) ∧ (∀ i, i < c.n → c.f1 i = mkYf 1 i) ∧ (∀ i, i < c.n → c.f2 i = mkYf 2 i) ∧ (∀ i, i < c.n → c.f3 i = mkYf 3 i) ∧ (∀ i, i < c.n → c.f4 i = mkYf 4 i) ∧ (∀ i, i < c.n → c.f5 i = mkYf 5 i) ∧ (∀ i, i < c.n → c.f6 i = mkYf 6 i) ∧ (∀ i, i < c.n → c.f7 i = mkYf 7 i) ∧ 0 ≤ v.i ∧ v.i ≤ ((c.n : Nat) : Int))
def heY_fin (c : CheY) (a : Unit) : FSt := heY_st c ({ i := (c.n : Int), k := 8 * (c.n : Int) + 1 })
noncomputable def heY_R (x : CheY × VheY) : T (EX × FSt) := .need (heY_ok x.1 x.2) (.leaf (.normal, heY_fin x.1 (iter (heY_g x.1) (x.1.n - x.2.i.toNat) x.2.i.toNat ())))
theorem heY_tri (x : CheY × VheY) : TriR Try.prog 99 x.1.base (.block 0 (.loop (bodyB heYRoot 0))) (heY_st x.1 x.2) (heY_R x) := by
  obtain ⟨c, v⟩ := x
  refine triR_of mix (root := heYRoot) (by kernel_rfl) (by kernel_rfl) [0, 1, 4, 5, 9, 19, 29, 40, 51, 62, 73, 84, 95, 198] [0, 1, 5] (heY_st c) (heY_step c) (heY_round c) v _ ((c.n - v.i.toNat) + 1) (fun Φ h => ?_)
  have h0 := h.1
  have h1 : Φ (.normal, heY_fin c (iter (heY_g c) (c.n - v.i.toNat) v.i.toNat ())) := h.2
  simp only [heY_ok, decide_eq_true_eq] at h0
  obtain ⟨hk0, hk1, hk2, hk3, hk4, hk5, hk6, hk7, hk8, hk9, hk10, hi0, hin⟩ := h0
  have hv : v = (fun (j : Nat) (a : Unit) => ({ i := (j : Int), k := 8 * (j : Int) + 1 } : VheY)) v.i.toNat () := by
    obtain ⟨i, k⟩ := v
    have hi0 : 0 ≤ i := hi0
    have hk2 : k = 8 * i + 1 := hk2
    subst hk2
    simp only [Int.toNat_of_nonneg hi0]
  have key := T_iter (heY_step c) (fun (j : Nat) (a : Unit) => ({ i := (j : Int), k := 8 * (j : Int) + 1 } : VheY)) c.n (heY_g c) (fun a => (.exit 0, heY_fin c a)) (fun j a hj Ψ hΨ => ?_) (fun a Ψ hΨ => ?_) (fun a => by simp) (c.n - v.i.toNat) v.i.toNat () (by omega) (fun r => Φ (blkEx 0 r.1, r.2)) (by simpa [blkEx] using h1)
  · exact (congrArg (fun z => (loopTree (heY_step c) (c.n - v.i.toNat + 1) z).holds fun r => Φ (blkEx 0 r.1, r.2)) hv).mpr key
  · unfold heY_step
    have e1 : IntKind.i64.wrap (8 * (j : Int) + 1 + 1) = ((8 * j + 1 + 1 : Nat) : Int) := by rw [IntWalk.i64_in _ (by omega)]; omega
    have e2 : IntKind.i64.wrap (((8 * j + 1 + 1 : Nat) : Int) + 1) = ((8 * j + 2 + 1 : Nat) : Int) := by rw [IntWalk.i64_in _ (by omega)]; omega
    have e3 : IntKind.i64.wrap (((8 * j + 2 + 1 : Nat) : Int) + 1) = ((8 * j + 3 + 1 : Nat) : Int) := by rw [IntWalk.i64_in _ (by omega)]; omega
    have e4 : IntKind.i64.wrap (((8 * j + 3 + 1 : Nat) : Int) + 1) = ((8 * j + 4 + 1 : Nat) : Int) := by rw [IntWalk.i64_in _ (by omega)]; omega
    have e5 : IntKind.i64.wrap (((8 * j + 4 + 1 : Nat) : Int) + 1) = ((8 * j + 5 + 1 : Nat) : Int) := by rw [IntWalk.i64_in _ (by omega)]; omega
    have e6 : IntKind.i64.wrap (((8 * j + 5 + 1 : Nat) : Int) + 1) = ((8 * j + 6 + 1 : Nat) : Int) := by rw [IntWalk.i64_in _ (by omega)]; omega
    have e7 : IntKind.i64.wrap (((8 * j + 6 + 1 : Nat) : Int) + 1) = ((8 * j + 7 + 1 : Nat) : Int) := by rw [IntWalk.i64_in _ (by omega)]; omega
    have e8 : IntKind.i64.wrap (((8 * j + 7 + 1 : Nat) : Int) + 1) = 8 * ((j + 1 : Nat) : Int) + 1 := by rw [IntWalk.i64_in _ (by omega)]; omega
    have e0 : 8 * (j : Int) + 1 = ((8 * j + 0 + 1 : Nat) : Int) := by omega
    refine (T.h_ite (fun _ => ?_) (fun hc => absurd hc (by simp <;> omega)))
    refine (T.h_need (by simp <;> omega) (T.h_need (by simp <;> omega) (T.h_need (by simp <;> omega) (T.h_need (needT fun c0 => (by simp <;> omega)) (T.h_need (needT fun c0 => (by simp <;> omega)) (T.h_need (needT fun c0 => (needT fun c1 => (by simp <;> omega))) (T.h_need (needT fun c0 => (needT fun c1 => (by simp <;> omega))) (T.h_need (needT fun c0 => (needT fun c1 => (needT fun c2 => (by simp <;> omega)))) (T.h_need (needT fun c0 => (needT fun c1 => (needT fun c2 => (by simp <;> omega)))) (T.h_need (needT fun c0 => (needT fun c1 => (needT fun c2 => (needT fun c3 => (by simp <;> omega))))) (T.h_need (needT fun c0 => (needT fun c1 => (needT fun c2 => (needT fun c3 => (by simp <;> omega))))) (T.h_need (needT fun c0 => (needT fun c1 => (needT fun c2 => (needT fun c3 => (needT fun c4 => (by simp <;> omega)))))) (T.h_need (needT fun c0 => (needT fun c1 => (needT fun c2 => (needT fun c3 => (needT fun c4 => (by simp <;> omega)))))) (T.h_need (needT fun c0 => (needT fun c1 => (needT fun c2 => (needT fun c3 => (needT fun c4 => (needT fun c5 => (by simp <;> omega))))))) (T.h_need (needT fun c0 => (needT fun c1 => (needT fun c2 => (needT fun c3 => (needT fun c4 => (needT fun c5 => (by simp <;> omega))))))) (T.h_need (needT fun c0 => (needT fun c1 => (needT fun c2 => (needT fun c3 => (needT fun c4 => (needT fun c5 => (needT fun c6 => (by simp <;> omega)))))))) (T.h_need (needT fun c0 => (needT fun c1 => (needT fun c2 => (needT fun c3 => (needT fun c4 => (needT fun c5 => (needT fun c6 => (by simp <;> omega)))))))) (T.h_ite (fun hc => absurd hc (by have h9 := hk3 j (by omega); rw [e0]; simp [h9, mkYs])) (fun _ => (T.h_ite (fun hc => absurd hc (held_fl (hk4 j (by omega)) (by rw [e1]))) (fun _ => (T.h_ite (fun hc => absurd hc (held_fl (hk5 j (by omega)) (by rw [e1, e2]))) (fun _ => (T.h_ite (fun hc => absurd hc (held_fl (hk6 j (by omega)) (by rw [e1, e2, e3]))) (fun _ => (T.h_ite (fun hc => absurd hc (held_fl (hk7 j (by omega)) (by rw [e1, e2, e3, e4]))) (fun _ => (T.h_ite (fun hc => absurd hc (held_fl (hk8 j (by omega)) (by rw [e1, e2, e3, e4, e5]))) (fun _ => (T.h_ite (fun hc => absurd hc (held_fl (hk9 j (by omega)) (by rw [e1, e2, e3, e4, e5, e6]))) (fun _ => (T.h_ite (fun hc => absurd hc (held_fl (hk10 j (by omega)) (by rw [e1, e2, e3, e4, e5, e6, e7]))) (fun _ => ?_)))))))))))))))))))))))))))))))))
    refine T.h_leaf ?_
    rw [wrap_next (by omega)]
    rw [e1, e2, e3, e4, e5, e6, e7, e8]
    exact hΨ
  · unfold heY_step
    refine (T.h_ite (fun hc => absurd hc (by simp <;> omega)) (fun _ => T.h_leaf hΨ.2))

def heY_dec (b : Mem) (f : FSt) : Option (CheY × VheY) :=
  match getSu 0 8 (findF 0 f.sl), getI (findF 5 f.sl), getI (findF 1 f.sl), id b, f.mem with
  | some (0, n_), some q_i, some q_k, [some (.cols m_ [.str f0_, .fl .f32 f1_, .fl .f32 f2_, .fl .f32 f3_, .fl .f32 f4_, .fl .f32 f5_, .fl .f32 f6_, .fl .f32 f7_])], [_] => some ({ n := n_, m := m_, f0 := f0_, f1 := f1_, f2 := f2_, f3 := f3_, f4 := f4_, f5 := f5_, f6 := f6_, f7 := f7_ }, { i := q_i, k := q_k })
  | _, _, _, _, _ => none
theorem heY_dec_ok (b : Mem) (f : FSt) (x : CheY × VheY) (h : heY_dec b f = some x) : b = x.1.base ∧ FLe b f (heY_st x.1 x.2) := by
  unfold heY_dec at h
  split at h
  · rename_i e0 e1 e2 hb hm
    cases h
    have hb : b = _ := hb
    subst hb
    refine ⟨rfl, fle_of (fun p hp => ?_) (by rw [hm]; exact trivial)⟩
    simp only [List.mem_cons, List.not_mem_nil, or_false] at hp
    rcases hp with rfl | rfl | rfl
    · exact getSu_rel e0
    · exact getI_rel e2
    · exact getI_rel e1
  · cases h
noncomputable def heY_sum : SumF Try.prog 99 heYRoot :=
  sumL (pathB heYRoot 0) heY_dec (fun x => x.1.base) (fun x => heY_st x.1 x.2) heY_R heY_dec_ok (by
    intro code hc x
    have hc2 : code = .block 0 (.loop (bodyB heYRoot 0)) := by
      have h : subR heYRoot (pathB heYRoot 0) = some (.block 0 (.loop (bodyB heYRoot 0))) := by kernel_rfl
      rw [h] at hc; cases hc; rfl
    subst hc2
    exact heY_tri x)

noncomputable def k_heldY0 : Ctr Try.prog := (mkF0 Try.prog mix [k_markText] 22 Try.f22 (bodyOf Try.f22) Try.func22 (by kernel_rfl) (by kernel_rfl) [0, 1, 4, 5, 9, 19, 29, 40, 51, 62, 73, 84, 95, 198] 99 (by kernel_rfl) (by kernel_rfl) [heY_sum]).mg
noncomputable def k_heldYN : Ctr Try.prog := mkF Try.prog mix [k_markText] 22 Try.f22 (bodyOf Try.f22) Try.func22 (by kernel_rfl) (by kernel_rfl) [0, 1, 4, 5, 9, 19, 29, 40, 51, 62, 73, 84, 95] 99 (by kernel_rfl) (by kernel_rfl)
def cmkYf (n : Nat) (f : Nat → Nat) (c : Nat) : Bool := decide (∀ i, i < n → f i = mkYf c i)
theorem cmkYf_mk (n c : Nat) : cmkYf n (mkYf c) c = true := decide_eq_true fun _ _ => rfl
theorem cmkYf_out {n c : Nat} {f : Nat → Nat} (h : cmkYf n f c = true) : ∀ i, i < n → f i = mkYf c i := of_decide_eq_true h
def cmkYs (n : Nat) (f : Nat → ByteArray) (c : Nat) : Bool := decide (∀ i, i < n → f i = mkYs c i)
theorem cmkYs_mk (n c : Nat) : cmkYs n (mkYs c) c = true := decide_eq_true fun _ _ => rfl
theorem cmkYs_out {n c : Nat} {f : Nat → ByteArray} (h : cmkYs n f c = true) : ∀ i, i < n → f i = mkYs c i := of_decide_eq_true h
def run_heldY : List AV → Mem → T Res
  | [.one (.su 0 8 0 n false), .one (.int .i64 k)], [some (.cols m [.str f0, .fl .f32 f1, .fl .f32 f2, .fl .f32 f3, .fl .f32 f4, .fl .f32 f5, .fl .f32 f6, .fl .f32 f7])] => .need (decide (k = 1)) (.need (decide (n ≤ m)) (.need (decide (n ≤ 1048576)) (.need (cmkYs n f0 0 && cmkYf n f1 1 && cmkYf n f2 2 && cmkYf n f3 3 && cmkYf n f4 4 && cmkYf n f5 5 && cmkYf n f6 6 && cmkYf n f7 7) (.leaf ((.one (.num .i64 (8 * (n : Int) + 1))), [])))))
  | _, _ => .fail
theorem heldY0_ev (n m : Nat) (f0 : Nat → ByteArray) (f1 : Nat → Nat) (f2 : Nat → Nat) (f3 : Nat → Nat) (f4 : Nat → Nat) (f5 : Nat → Nat) (f6 : Nat → Nat) (f7 : Nat → Nat) : k_heldY0.run [.one (.su 0 8 0 n false), .one (.num .i64 1)] [some (.cols m [.str f0, .fl .f32 f1, .fl .f32 f2, .fl .f32 f3, .fl .f32 f4, .fl .f32 f5, .fl .f32 f6, .fl .f32 f7])] =
    .need (heY_ok { n := n, m := m, f0 := f0, f1 := f1, f2 := f2, f3 := f3, f4 := f4, f5 := f5, f6 := f6, f7 := f7 } { i := 0, k := 1 }) (.leaf ((.one (.num .i64 (8 * (n : Int) + 1))), [])) := by kernel_rfl
noncomputable def k_heldY : Ctr Try.prog := ((k_heldY0.re run_heldY (by
  intro args mem hfine Φ hΦ h
  unfold run_heldY at h
  split at h
  · rename_i n k m f0 f1 f2 f3 f4 f5 f6 f7
    have hk : k = 1 := of_decide_eq_true h.1
    have hm : n ≤ m := of_decide_eq_true h.2.1
    have hn : n ≤ 1048576 := of_decide_eq_true h.2.2.1
    have hc := h.2.2.2.1
    have hl := h.2.2.2.2
    subst hk
    simp only [Bool.and_eq_true] at hc
    refine Exists.intro [.one (.su 0 8 0 n false), .one (.num .i64 1)] (Exists.intro _ (And.intro ?_ (And.intro (MemLe.refl _) ?_)))
    · intro ρ vals hv
      exact suargs hv
    · rw [heldY0_ev]
      refine T.h_need (decide_eq_true ⟨hm, hn, ?_, cmkYs_out hc.1.1.1.1.1.1.1, cmkYf_out hc.1.1.1.1.1.1.2, cmkYf_out hc.1.1.1.1.1.2, cmkYf_out hc.1.1.1.1.2, cmkYf_out hc.1.1.1.2, cmkYf_out hc.1.1.2, cmkYf_out hc.1.2, cmkYf_out hc.2, Int.le_refl 0, Int.natCast_nonneg n⟩) (T.h_leaf hl)
      show (1 : Int) = 8 * 0 + 1
      omega
  · exact h.elim)).su.own).pick k_heldYN (by kernel_rfl) nilArg

end Go.Proofs.Ytjaohecdhnhhbaa
