/-
  Marks in rows, rows compared: Entry. No conditions.
-/
import Derived.Test.YtdmcpgbnomhahaaEe
namespace Go.Proofs.Ytdmcpgbnomhahaa
set_option linter.unusedVariables false
set_option linter.unusedSimpArgs false
open Go.RowKit

def mkEf (c : Nat) (i : Nat) :  Nat := fint .f32 ((8 * i + c + 1 : Nat) : Int)
def mkEs (c : Nat) (i : Nat) :  ByteArray := ⟨#[]⟩
structure CeqrE where
  n : Nat
  m : Nat
  n2 : Nat
  m2 : Nat
  f0 : Nat → ByteArray
  f1 : Nat → Nat
  f2 : Nat → Nat
  f3 : Nat → Nat
  f4 : Nat → Nat
  f5 : Nat → Nat
  f6 : Nat → Nat
  f7 : Nat → Nat
  g0 : Nat → ByteArray
  g1 : Nat → Nat
  g2 : Nat → Nat
  g3 : Nat → Nat
  g4 : Nat → Nat
  g5 : Nat → Nat
  g6 : Nat → Nat
  g7 : Nat → Nat
def CeqrE.base (c : CeqrE) : Mem := [some (.cols c.m [.str c.f0, .fl .f32 c.f1, .fl .f32 c.f2, .fl .f32 c.f3, .fl .f32 c.f4, .fl .f32 c.f5, .fl .f32 c.f6, .fl .f32 c.f7]), some (.cols c.m2 [.str c.g0, .fl .f32 c.g1, .fl .f32 c.g2, .fl .f32 c.g3, .fl .f32 c.g4, .fl .f32 c.g5, .fl .f32 c.g6, .fl .f32 c.g7])]
structure VeqrE where
  i : Int
noncomputable abbrev eqrERoot : Code := bodyOf Try.f20
def eqrE_st (c : CeqrE) (v : VeqrE) : FSt := ⟨[(0, .one (.su 0 8 0 c.n false)), (1, .one (.su 1 8 0 c.n2 false)), (5, .one (.num .i64 v.i))], c.base ++ []⟩
def eqrE_step (c : CeqrE) (v : VeqrE) : T (Nx VeqrE) :=
  .ite (decide (v.1 < ((c.1 : Nat) : Int))) (.need (decide (0 ≤ v.1) && decide (v.1 < ((c.1 : Nat) : Int))) (.need (decide (v.1.toNat + 0 < c.2)) (.need (decide (0 ≤ v.1) && decide (v.1 < ((c.3 : Nat) : Int))) (.need (decide (v.1.toNat + 0 < c.4)) (.need (decide (c.5 (v.1.toNat + 0) = c.13 (v.1.toNat + 0))) (.need (decide (c.6 (v.1.toNat + 0) = c.14 (v.1.toNat + 0) ∧ c.7 (v.1.toNat + 0) = c.15 (v.1.toNat + 0) ∧ c.8 (v.1.toNat + 0) = c.16 (v.1.toNat + 0) ∧ c.9 (v.1.toNat + 0) = c.17 (v.1.toNat + 0) ∧ c.10 (v.1.toNat + 0) = c.18 (v.1.toNat + 0) ∧ c.11 (v.1.toNat + 0) = c.19 (v.1.toNat + 0) ∧ c.12 (v.1.toNat + 0) = c.20 (v.1.toNat + 0))) (.leaf (.go { i := IntKind.i64.wrap (v.1 + 1) })))))))) (.leaf (.out (EX.exit 0) ⟨[(0, AV.one (SV.su 0 8 0 c.1 false)), (1, AV.one (SV.su 1 8 0 c.3 false)), (5, AV.one (SV.num IntKind.i64 v.1))], c.base ++ []⟩))
theorem eqrE_round (c : CeqrE) (v : VeqrE) : roundF Try.prog 27 [k_eqEntry] eqrERoot [] c.base [0, 1, 4, 5, 10, 14, 26, 198] [0, 1, 5] 0 (eqrE_st c v) = (eqrE_step c v).map (nxF (eqrE_st c)) := by kernel_rfl
def eqrE_g (c : CeqrE) (j : Nat) (a : Unit) : Unit := a
def eqrE_ok (c : CeqrE) (v : VeqrE) : Bool := decide (c.n ≤ c.m ∧ c.n2 = c.n ∧ c.n ≤ c.m2 ∧ c.n ≤ 1048576 ∧ (∀ i, i < c.n → c.f0 i = c.g0 i) ∧ (∀ i, i < c.n → c.f1 i = c.g1 i) ∧ (∀ i, i < c.n → c.f2 i = c.g2 i) ∧ (∀ i, i < c.n → c.f3 i = c.g3 i) ∧ (∀ i, i < c.n → c.f4 i = c.g4 i) ∧ (∀ i, i < c.n → c.f5 i = c.g5 i) ∧ (∀ i, i < c.n → c.f6 i = c.g6 i) ∧ (∀ i, i < c.n → c.f7 i = c.g7 i) ∧ 0 ≤ v.i ∧ v.i ≤ ((c.n : Nat) : Int))
def eqrE_fin (c : CeqrE) (a : Unit) : FSt := eqrE_st c ({ i := (c.n : Int) })
noncomputable def eqrE_R (x : CeqrE × VeqrE) : T (EX × FSt) := .need (eqrE_ok x.1 x.2) (.leaf (.normal, eqrE_fin x.1 (iter (eqrE_g x.1) (x.1.n - x.2.i.toNat) x.2.i.toNat ())))
theorem eqrE_tri (x : CeqrE × VeqrE) : TriR Try.prog 27 x.1.base (.block 0 (.loop (bodyB eqrERoot 0))) (eqrE_st x.1 x.2) (eqrE_R x) := by
  obtain ⟨c, v⟩ := x
  refine triR_of mix (root := eqrERoot) (by kernel_rfl) (by kernel_rfl) [0, 1, 4, 5, 10, 14, 26, 198] [0, 1, 5] (eqrE_st c) (eqrE_step c) (eqrE_round c) v _ ((c.n - v.i.toNat) + 1) (fun Φ h => ?_)
  have h0 := h.1
  have h1 : Φ (.normal, eqrE_fin c (iter (eqrE_g c) (c.n - v.i.toNat) v.i.toNat ())) := h.2
  simp only [eqrE_ok, decide_eq_true_eq] at h0
  obtain ⟨hk0, hk1, hk2, hk3, hk4, hk5, hk6, hk7, hk8, hk9, hk10, hk11, hi0, hin⟩ := h0
  have hv : v = (fun (j : Nat) (a : Unit) => ({ i := (j : Int) } : VeqrE)) v.i.toNat () := by
    obtain ⟨i⟩ := v
    have hi0 : 0 ≤ i := hi0
    simp only [Int.toNat_of_nonneg hi0]
  have key := T_iter (eqrE_step c) (fun (j : Nat) (a : Unit) => ({ i := (j : Int) } : VeqrE)) c.n (eqrE_g c) (fun a => (.exit 0, eqrE_fin c a)) (fun j a hj Ψ hΨ => ?_) (fun a Ψ hΨ => ?_) (fun a => by simp) (c.n - v.i.toNat) v.i.toNat () (by omega) (fun r => Φ (blkEx 0 r.1, r.2)) (by simpa [blkEx] using h1)
  · exact (congrArg (fun z => (loopTree (eqrE_step c) (c.n - v.i.toNat + 1) z).holds fun r => Φ (blkEx 0 r.1, r.2)) hv).mpr key
  · unfold eqrE_step
    refine (T.h_ite (fun _ => ?_) (fun hc => absurd hc (by simp <;> omega)))
    refine (T.h_need (by simp <;> omega) (T.h_need (by simp <;> omega) (T.h_need (by simp <;> omega) (T.h_need (by simp <;> omega) (T.h_need (decide_eq_true (hk4 j (by omega))) (T.h_need (decide_eq_true ⟨hk5 j (by omega), hk6 j (by omega), hk7 j (by omega), hk8 j (by omega), hk9 j (by omega), hk10 j (by omega), hk11 j (by omega)⟩) ?_))))))
    refine T.h_leaf ?_
    rw [wrap_next (by omega)]
    exact hΨ
  · unfold eqrE_step
    refine (T.h_ite (fun hc => absurd hc (by simp <;> omega)) (fun _ => T.h_leaf hΨ.2))

def eqrE_dec (b : Mem) (f : FSt) : Option (CeqrE × VeqrE) :=
  match getSu 0 8 (findF 0 f.sl), getSu 1 8 (findF 1 f.sl), getI (findF 5 f.sl), id b, f.mem with
  | some (0, n_), some (0, n2_), some q_i, [some (.cols m_ [.str f0_, .fl .f32 f1_, .fl .f32 f2_, .fl .f32 f3_, .fl .f32 f4_, .fl .f32 f5_, .fl .f32 f6_, .fl .f32 f7_]), some (.cols m2_ [.str g0_, .fl .f32 g1_, .fl .f32 g2_, .fl .f32 g3_, .fl .f32 g4_, .fl .f32 g5_, .fl .f32 g6_, .fl .f32 g7_])], [_, _] => some ({ n := n_, m := m_, n2 := n2_, m2 := m2_, f0 := f0_, f1 := f1_, f2 := f2_, f3 := f3_, f4 := f4_, f5 := f5_, f6 := f6_, f7 := f7_, g0 := g0_, g1 := g1_, g2 := g2_, g3 := g3_, g4 := g4_, g5 := g5_, g6 := g6_, g7 := g7_ }, { i := q_i })
  | _, _, _, _, _ => none
theorem eqrE_dec_ok (b : Mem) (f : FSt) (x : CeqrE × VeqrE) (h : eqrE_dec b f = some x) : b = x.1.base ∧ FLe b f (eqrE_st x.1 x.2) := by
  unfold eqrE_dec at h
  split at h
  · rename_i e0 e1 e2 hb hm
    cases h
    have hb : b = _ := hb
    subst hb
    refine ⟨rfl, fle_of (fun p hp => ?_) (by rw [hm]; exact trivial)⟩
    simp only [List.mem_cons, List.not_mem_nil, or_false] at hp
    rcases hp with rfl | rfl | rfl
    · exact getSu_rel e0
    · exact getSu_rel e1
    · exact getI_rel e2
  · cases h
noncomputable def eqrE_sum : SumF Try.prog 27 eqrERoot :=
  sumL (pathB eqrERoot 0) eqrE_dec (fun x => x.1.base) (fun x => eqrE_st x.1 x.2) eqrE_R eqrE_dec_ok (by
    intro code hc x
    have hc2 : code = .block 0 (.loop (bodyB eqrERoot 0)) := by
      have h : subR eqrERoot (pathB eqrERoot 0) = some (.block 0 (.loop (bodyB eqrERoot 0))) := by kernel_rfl
      rw [h] at hc; cases hc; rfl
    subst hc2
    exact eqrE_tri x)

noncomputable def k_eqE0 : Ctr Try.prog := (mkF0 Try.prog mix [k_eqEntry] 20 Try.f20 (bodyOf Try.f20) Try.func20 (by kernel_rfl) (by kernel_rfl) [0, 1, 4, 5, 10, 14, 26, 198] 27 (by kernel_rfl) (by kernel_rfl) [eqrE_sum]).mg
noncomputable def k_eqEN : Ctr Try.prog := mkF Try.prog mix [] 20 Try.f20 (bodyOf Try.f20) Try.func20 (by kernel_rfl) (by kernel_rfl) [0, 1, 4, 5, 10, 14, 26] 27 (by kernel_rfl) (by kernel_rfl)
def sameCEf (n : Nat) (f g : Nat → Nat) : Bool := decide (∀ i, i < n → f i = g i)
theorem sameCEf_mk (n : Nat) (f : Nat → Nat) : sameCEf n f f = true := decide_eq_true fun _ _ => rfl
theorem sameCEf_out {n : Nat} {f g : Nat → Nat} (h : sameCEf n f g = true) : ∀ i, i < n → f i = g i := of_decide_eq_true h
def sameCEs (n : Nat) (f g : Nat → ByteArray) : Bool := decide (∀ i, i < n → f i = g i)
theorem sameCEs_mk (n : Nat) (f : Nat → ByteArray) : sameCEs n f f = true := decide_eq_true fun _ _ => rfl
theorem sameCEs_out {n : Nat} {f g : Nat → ByteArray} (h : sameCEs n f g = true) : ∀ i, i < n → f i = g i := of_decide_eq_true h
def run_eqE : List AV → Mem → T Res
  | [.one (.su 0 8 0 n false), .one (.su 1 8 0 n2 false)], [some (.cols m [.str f0, .fl .f32 f1, .fl .f32 f2, .fl .f32 f3, .fl .f32 f4, .fl .f32 f5, .fl .f32 f6, .fl .f32 f7]), some (.cols m2 [.str g0, .fl .f32 g1, .fl .f32 g2, .fl .f32 g3, .fl .f32 g4, .fl .f32 g5, .fl .f32 g6, .fl .f32 g7])] => .need (decide (n2 = n)) (.need (decide (n ≤ m)) (.need (decide (n ≤ m2)) (.need (decide (n ≤ 1048576)) (.need (sameCEs n f0 g0 && sameCEf n f1 g1 && sameCEf n f2 g2 && sameCEf n f3 g3 && sameCEf n f4 g4 && sameCEf n f5 g5 && sameCEf n f6 g6 && sameCEf n f7 g7) (.leaf (.one (.tt true), []))))))
  | _, _ => .fail
theorem eqE0_ev (n m n2 m2 : Nat) (f0 : Nat → ByteArray) (f1 : Nat → Nat) (f2 : Nat → Nat) (f3 : Nat → Nat) (f4 : Nat → Nat) (f5 : Nat → Nat) (f6 : Nat → Nat) (f7 : Nat → Nat) (g0 : Nat → ByteArray) (g1 : Nat → Nat) (g2 : Nat → Nat) (g3 : Nat → Nat) (g4 : Nat → Nat) (g5 : Nat → Nat) (g6 : Nat → Nat) (g7 : Nat → Nat) : k_eqE0.run [.one (.su 0 8 0 n false), .one (.su 1 8 0 n2 false)] [some (.cols m [.str f0, .fl .f32 f1, .fl .f32 f2, .fl .f32 f3, .fl .f32 f4, .fl .f32 f5, .fl .f32 f6, .fl .f32 f7]), some (.cols m2 [.str g0, .fl .f32 g1, .fl .f32 g2, .fl .f32 g3, .fl .f32 g4, .fl .f32 g5, .fl .f32 g6, .fl .f32 g7])] =
    T.need (bif !decide ((n : Int) = (n2 : Int)) then true else eqrE_ok { n := n, m := m, n2 := n2, m2 := m2, f0 := f0, f1 := f1, f2 := f2, f3 := f3, f4 := f4, f5 := f5, f6 := f6, f7 := f7, g0 := g0, g1 := g1, g2 := g2, g3 := g3, g4 := g4, g5 := g5, g6 := g6, g7 := g7 } { i := 0 }) (T.leaf (AV.one (SV.bo !!decide ((n : Int) = (n2 : Int))), [])) := by kernel_rfl
noncomputable def k_eqE : Ctr Try.prog := ((k_eqE0.to run_eqE (by
  intro args mem _
  unfold run_eqE
  split
  · rename_i n n2 m f0 f1 f2 f3 f4 f5 f6 f7 m2 g0 g1 g2 g3 g4 g5 g6 g7 _
    rw [eqE0_ev]
    constructor
    intro Φ hΦ h
    have hn2 : n2 = n := of_decide_eq_true h.1
    have hm : n ≤ m := of_decide_eq_true h.2.1
    have hm2 : n ≤ m2 := of_decide_eq_true h.2.2.1
    have hn : n ≤ 1048576 := of_decide_eq_true h.2.2.2.1
    have hc := h.2.2.2.2.1
    have hl : Φ (.one (.tt true), []) := h.2.2.2.2.2
    subst hn2
    simp only [Bool.and_eq_true] at hc
    refine T.h_need (needT fun _ => decide_eq_true ⟨hm, rfl, hm2, hn, sameCEs_out hc.1.1.1.1.1.1.1, sameCEf_out hc.1.1.1.1.1.1.2, sameCEf_out hc.1.1.1.1.1.2, sameCEf_out hc.1.1.1.1.2, sameCEf_out hc.1.1.1.2, sameCEf_out hc.1.1.2, sameCEf_out hc.1.2, sameCEf_out hc.2, Int.le_refl 0, Int.natCast_nonneg _⟩) (T.h_leaf (hΦ _ _ (le2_tb ?_) hl))
    simp
  · exact Weak.fail _)).su.own).pick k_eqEN (by kernel_rfl) nilArg

end Go.Proofs.Ytdmcpgbnomhahaa
