/-
  PutEntry: loops. No conditions.
-/
import Derived.Test.YtjaohecdhnhhbaaEa
import Derived.Test.YtjaohecdhnhhbaaRw
import Derived.Test.YtjaohecdhnhhbaaCa
import Derived.Test.YtjaohecdhnhhbaaPl
namespace Go.Proofs.Ytjaohecdhnhhbaa
set_option linter.unusedVariables false
set_option linter.unusedSimpArgs false
open Go.RowKit

def getT : AV → Option Bool
  | .one (.tt b) => some b
  | _ => none
theorem getT_rel {a : AV} {b : Bool} (h : getT a = some b) (ρ : Rho) (v : Value) (hv : a.rel ρ v) : (AV.one (.tt b)).rel ρ v := by
  unfold getT at h
  split at h
  · cases h; exact hv
  · cases h
abbrev PeA := Nat × (Nat → ByteArray) × (Nat → Nat) × (Nat → Nat) × (Nat → Nat) × (Nat → Nat) × (Nat → Nat) × (Nat → Nat) × (Nat → Nat)
def peI (f0 : Nat → ByteArray) (f1 f2 f3 f4 f5 f6 f7 : Nat → Nat) (j : Nat) (a : PeA) : PeA := (a.1 + 1, fun q => if q = a.1 then f0 (j + 0) else a.2.1 q, fun q => if q = a.1 then f1 (j + 0) else a.2.2.1 q, fun q => if q = a.1 then f2 (j + 0) else a.2.2.2.1 q, fun q => if q = a.1 then f3 (j + 0) else a.2.2.2.2.1 q, fun q => if q = a.1 then f4 (j + 0) else a.2.2.2.2.2.1 q, fun q => if q = a.1 then f5 (j + 0) else a.2.2.2.2.2.2.1 q, fun q => if q = a.1 then f6 (j + 0) else a.2.2.2.2.2.2.2.1 q, fun q => if q = a.1 then f7 (j + 0) else a.2.2.2.2.2.2.2.2 q)
def peE (e0 : ByteArray) (e1 e2 e3 e4 e5 e6 e7 : Nat) (a : PeA) : PeA := (a.1 + 1, fun q => if q = a.1 then e0 else a.2.1 q, fun q => if q = a.1 then e1 else a.2.2.1 q, fun q => if q = a.1 then e2 else a.2.2.2.1 q, fun q => if q = a.1 then e3 else a.2.2.2.2.1 q, fun q => if q = a.1 then e4 else a.2.2.2.2.2.1 q, fun q => if q = a.1 then e5 else a.2.2.2.2.2.2.1 q, fun q => if q = a.1 then e6 else a.2.2.2.2.2.2.2.1 q, fun q => if q = a.1 then e7 else a.2.2.2.2.2.2.2.2 q)
def peL (f0 : Nat → ByteArray) (e0 : ByteArray) (j : Nat) : Bool := Op.bytesLess (f0 (j + 0)).toList e0.toList
def peQ (f0 : Nat → ByteArray) (e0 : ByteArray) (j : Nat) : Bool := (f0 (j + 0)).toList == e0.toList
structure Cps where
  n : Nat
  m : Nat
  f0 : Nat → ByteArray
  f1 : Nat → Nat
  f2 : Nat → Nat
  f3 : Nat → Nat
  f4 : Nat → Nat
  f5 : Nat → Nat
  f6 : Nat → Nat
  f7 : Nat → Nat
  e0 : ByteArray
  e1 : Nat
  e2 : Nat
  e3 : Nat
  e4 : Nat
  e5 : Nat
  e6 : Nat
  e7 : Nat
  l : Int
def Cps.base (c : Cps) : Mem := [some (.cols c.m [.str c.f0, .fl .f32 c.f1, .fl .f32 c.f2, .fl .f32 c.f3, .fl .f32 c.f4, .fl .f32 c.f5, .fl .f32 c.f6, .fl .f32 c.f7])]
structure Vps where
  i : Int
  n : Nat
  put : Bool
  a0 : Nat → ByteArray
  a1 : Nat → Nat
  a2 : Nat → Nat
  a3 : Nat → Nat
  a4 : Nat → Nat
  a5 : Nat → Nat
  a6 : Nat → Nat
  a7 : Nat → Nat
noncomputable abbrev psRoot : Code := bodyOf Try.f24
def ps_st (c : Cps) (v : Vps) : FSt := ⟨[(0, .one (.su 0 8 0 c.n false)), (3, .one (.ptr 1 8 0 0)), (4, .one (.val (.slice none 0 0))), (5, .one (.tt false)), (6, .one (.so 2 8 v.n 3)), (7, .one (.tt v.put)), (18, .one (.num .i64 c.l)), (19, .one (.num .i64 v.i))], c.base ++ [some (.box [.str c.e0, .fl .f32 c.e1, .fl .f32 c.e2, .fl .f32 c.e3, .fl .f32 c.e4, .fl .f32 c.e5, .fl .f32 c.e6, .fl .f32 c.e7]), some (.grow v.n [.str v.a0, .fl .f32 v.a1, .fl .f32 v.a2, .fl .f32 v.a3, .fl .f32 v.a4, .fl .f32 v.a5, .fl .f32 v.a6, .fl .f32 v.a7] 3 49), none]⟩
structure Cpa where
  n : Nat
  m : Nat
  f0 : Nat → ByteArray
  f1 : Nat → Nat
  f2 : Nat → Nat
  f3 : Nat → Nat
  f4 : Nat → Nat
  f5 : Nat → Nat
  f6 : Nat → Nat
  f7 : Nat → Nat
  e0 : ByteArray
  e1 : Nat
  e2 : Nat
  e3 : Nat
  e4 : Nat
  e5 : Nat
  e6 : Nat
  e7 : Nat
  l : Int
  n2 : Nat
def Cpa.base (c : Cpa) : Mem := [some (.cols c.m [.str c.f0, .fl .f32 c.f1, .fl .f32 c.f2, .fl .f32 c.f3, .fl .f32 c.f4, .fl .f32 c.f5, .fl .f32 c.f6, .fl .f32 c.f7])]
structure Vpa where
  i : Int
  n : Nat
  a0 : Nat → ByteArray
  a1 : Nat → Nat
  a2 : Nat → Nat
  a3 : Nat → Nat
  a4 : Nat → Nat
  a5 : Nat → Nat
  a6 : Nat → Nat
  a7 : Nat → Nat
noncomputable abbrev paRoot : Code := bodyOf Try.f26
def pa_st (c : Cpa) (v : Vpa) : FSt := ⟨[(0, .one (.su 0 8 0 c.n2 false)), (3, .one (.ptr 1 8 0 0)), (4, .one (.val (.slice none 0 0))), (5, .one (.tt false)), (6, .one (.so 2 8 v.n 3)), (20, .one (.su 0 8 0 c.n false)), (21, .one (.num .i64 c.l)), (22, .one (.num .i64 v.i))], c.base ++ [some (.box [.str c.e0, .fl .f32 c.e1, .fl .f32 c.e2, .fl .f32 c.e3, .fl .f32 c.e4, .fl .f32 c.e5, .fl .f32 c.e6, .fl .f32 c.e7]), some (.grow v.n [.str v.a0, .fl .f32 v.a1, .fl .f32 v.a2, .fl .f32 v.a3, .fl .f32 v.a4, .fl .f32 v.a5, .fl .f32 v.a6, .fl .f32 v.a7] 3 49), none]⟩
structure Cpb where
  n : Nat
  m : Nat
  f0 : Nat → ByteArray
  f1 : Nat → Nat
  f2 : Nat → Nat
  f3 : Nat → Nat
  f4 : Nat → Nat
  f5 : Nat → Nat
  f6 : Nat → Nat
  f7 : Nat → Nat
  e0 : ByteArray
  e1 : Nat
  e2 : Nat
  e3 : Nat
  e4 : Nat
  e5 : Nat
  e6 : Nat
  e7 : Nat
  l : Int
def Cpb.base (c : Cpb) : Mem := [some (.cols c.m [.str c.f0, .fl .f32 c.f1, .fl .f32 c.f2, .fl .f32 c.f3, .fl .f32 c.f4, .fl .f32 c.f5, .fl .f32 c.f6, .fl .f32 c.f7])]
structure Vpb where
  i : Int
  n : Nat
  r : Nat
  a0 : Nat → ByteArray
  a1 : Nat → Nat
  a2 : Nat → Nat
  a3 : Nat → Nat
  a4 : Nat → Nat
  a5 : Nat → Nat
  a6 : Nat → Nat
  a7 : Nat → Nat
noncomputable abbrev pbRoot : Code := bodyOf Try.f26
def pb_st (c : Cpb) (v : Vpb) : FSt := ⟨[(3, .one (.ptr 1 8 0 0)), (4, .one (.val (.slice none 0 0))), (5, .one (.tt false)), (6, .one (.so 2 8 v.n 3)), (40, .one (.su 0 8 0 c.n false)), (41, .one (.num .i64 c.l)), (42, .one (.num .i64 v.i))], c.base ++ [some (.box [.str c.e0, .fl .f32 c.e1, .fl .f32 c.e2, .fl .f32 c.e3, .fl .f32 c.e4, .fl .f32 c.e5, .fl .f32 c.e6, .fl .f32 c.e7]), some (.grow v.r [.str v.a0, .fl .f32 v.a1, .fl .f32 v.a2, .fl .f32 v.a3, .fl .f32 v.a4, .fl .f32 v.a5, .fl .f32 v.a6, .fl .f32 v.a7] 3 49), none]⟩
def pa_step (c : Cpa) (v : Vpa) : T (Nx Vpa) :=
  .ite (decide (v.1 < c.19)) (.need (decide (0 ≤ v.1) && decide (v.1 < ((c.1 : Nat) : Int))) (.need (decide (v.1.toNat + 0 < c.2)) (.need (bif Op.bytesLess (c.3 (v.1.toNat + 0)).toList c.11.toList then decide (v.2 ≤ v.2) else true) (.need (bif Op.bytesLess (c.3 (v.1.toNat + 0)).toList c.11.toList then decide (0 < 1) else true) (.need (bif Op.bytesLess (c.3 (v.1.toNat + 0)).toList c.11.toList then decide (v.2 + 1 ≤ 1073741824) else true) (.ite (Op.bytesLess (c.3 (v.1.toNat + 0)).toList c.11.toList) (.leaf (.go { i := IntKind.i64.wrap (v.1 + 1), n := v.2 + 1, a0 := fun q => if q = v.n then c.f0 (v.i.toNat + 0) else v.a0 q, a1 := fun q => if q = v.n then c.f1 (v.i.toNat + 0) else v.a1 q, a2 := fun q => if q = v.n then c.f2 (v.i.toNat + 0) else v.a2 q, a3 := fun q => if q = v.n then c.f3 (v.i.toNat + 0) else v.a3 q, a4 := fun q => if q = v.n then c.f4 (v.i.toNat + 0) else v.a4 q, a5 := fun q => if q = v.n then c.f5 (v.i.toNat + 0) else v.a5 q, a6 := fun q => if q = v.n then c.f6 (v.i.toNat + 0) else v.a6 q, a7 := fun q => if q = v.n then c.f7 (v.i.toNat + 0) else v.a7 q })) (.leaf (.go { i := IntKind.i64.wrap (v.1 + 1), n := v.2, a0 := v.a0, a1 := v.a1, a2 := v.a2, a3 := v.a3, a4 := v.a4, a5 := v.a5, a6 := v.a6, a7 := v.a7 })))))))) (.leaf (.out (EX.exit 0) ⟨[(0, AV.one (SV.su 0 8 0 c.20 false)), (3, AV.one (SV.ptr 1 8 0 0)), (4, AV.one (SV.val (Value.slice none 0 0))), (5, AV.one (SV.tt false)), (6, AV.one (SV.so 2 8 v.2 3)), (20, AV.one (SV.su 0 8 0 c.1 false)), (21, AV.one (SV.num IntKind.i64 c.19)), (22, AV.one (SV.num IntKind.i64 v.1))], c.base ++ [some (.box [.str c.e0, .fl .f32 c.e1, .fl .f32 c.e2, .fl .f32 c.e3, .fl .f32 c.e4, .fl .f32 c.e5, .fl .f32 c.e6, .fl .f32 c.e7]), some (.grow v.n [.str v.a0, .fl .f32 v.a1, .fl .f32 v.a2, .fl .f32 v.a3, .fl .f32 v.a4, .fl .f32 v.a5, .fl .f32 v.a6, .fl .f32 v.a7] 3 49), none]⟩))
theorem pa_round (c : Cpa) (v : Vpa) : roundF Try.prog 60 [] paRoot [] c.base [0, 1, 3, 4, 5, 6, 8, 10, 18, 20, 21, 22, 23, 30, 40, 41, 42, 43, 50, 58, 198] [0, 3, 4, 5, 6, 20, 21, 22] 0 (pa_st c v) = (pa_step c v).map (nxF (pa_st c)) := by kernel_rfl
def pa_g (c : Cpa) (j : Nat) (a : PeA) : PeA := gA (peI c.f0 c.f1 c.f2 c.f3 c.f4 c.f5 c.f6 c.f7) (peL c.f0 c.e0) j a
theorem pa_g_t {c : Cpa} {j : Nat} {a : PeA} (h : (peL c.f0 c.e0 j) = true) : pa_g c j a = peI c.f0 c.f1 c.f2 c.f3 c.f4 c.f5 c.f6 c.f7 j a := by unfold pa_g gA; rw [h]; rfl
theorem pa_g_f {c : Cpa} {j : Nat} {a : PeA} (h : (peL c.f0 c.e0 j) = false) : pa_g c j a = a := by unfold pa_g gA; rw [h]; rfl
theorem pa_g_le {c : Cpa} {j : Nat} {a : PeA} (h : a.1 ≤ 1048577 + j) : (pa_g c j a).1 ≤ 1048577 + (j + 1) := by
  cases hc : (peL c.f0 c.e0 j) with
  | true => rw [pa_g_t hc]; show a.1 + 1 ≤ _; omega
  | false => rw [pa_g_f hc]; omega
def pa_ok (c : Cpa) (v : Vpa) : Bool := decide (c.n ≤ c.m ∧ c.n ≤ 1048576 ∧ c.l = (c.n : Int) ∧ v.n ≤ 1048577 + v.i.toNat ∧ 0 ≤ v.i ∧ v.i ≤ ((c.n : Nat) : Int))
def pa_fin (c : Cpa) (a : PeA) : FSt := pa_st c ({ i := (c.n : Int), n := a.1, a0 := a.2.1, a1 := a.2.2.1, a2 := a.2.2.2.1, a3 := a.2.2.2.2.1, a4 := a.2.2.2.2.2.1, a5 := a.2.2.2.2.2.2.1, a6 := a.2.2.2.2.2.2.2.1, a7 := a.2.2.2.2.2.2.2.2 })
noncomputable def pa_R (x : Cpa × Vpa) : T (EX × FSt) := .need (pa_ok x.1 x.2) (.leaf (.normal, pa_fin x.1 (iter (pa_g x.1) (x.1.n - x.2.i.toNat) x.2.i.toNat (x.2.n, x.2.a0, x.2.a1, x.2.a2, x.2.a3, x.2.a4, x.2.a5, x.2.a6, x.2.a7))))
theorem pa_tri (x : Cpa × Vpa) : TriR Try.prog 60 x.1.base (.block 0 (.loop (bodyB paRoot 0))) (pa_st x.1 x.2) (pa_R x) := by
  obtain ⟨c, v⟩ := x
  refine triR_of mix (root := paRoot) (by kernel_rfl) (by kernel_rfl) [0, 1, 3, 4, 5, 6, 8, 10, 18, 20, 21, 22, 23, 30, 40, 41, 42, 43, 50, 58, 198] [0, 3, 4, 5, 6, 20, 21, 22] (pa_st c) (pa_step c) (pa_round c) v _ ((c.n - v.i.toNat) + 1) (fun Φ h => ?_)
  have h0 := h.1
  have h1 : Φ (.normal, pa_fin c (iter (pa_g c) (c.n - v.i.toNat) v.i.toNat (v.n, v.a0, v.a1, v.a2, v.a3, v.a4, v.a5, v.a6, v.a7))) := h.2
  simp only [pa_ok, decide_eq_true_eq] at h0
  obtain ⟨hk0, hk1, hk2, hk3, hi0, hin⟩ := h0
  have hv : v = (fun (j : Nat) (a : PeA) => ({ i := (j : Int), n := a.1, a0 := a.2.1, a1 := a.2.2.1, a2 := a.2.2.2.1, a3 := a.2.2.2.2.1, a4 := a.2.2.2.2.2.1, a5 := a.2.2.2.2.2.2.1, a6 := a.2.2.2.2.2.2.2.1, a7 := a.2.2.2.2.2.2.2.2 } : Vpa)) v.i.toNat (v.n, v.a0, v.a1, v.a2, v.a3, v.a4, v.a5, v.a6, v.a7) := by
    obtain ⟨i, n, a0, a1, a2, a3, a4, a5, a6, a7⟩ := v
    have hi0 : 0 ≤ i := hi0
    simp only [Int.toNat_of_nonneg hi0]
  have key := T_iterI (pa_step c) (fun (j : Nat) (a : PeA) => ({ i := (j : Int), n := a.1, a0 := a.2.1, a1 := a.2.2.1, a2 := a.2.2.2.1, a3 := a.2.2.2.2.1, a4 := a.2.2.2.2.2.1, a5 := a.2.2.2.2.2.2.1, a6 := a.2.2.2.2.2.2.2.1, a7 := a.2.2.2.2.2.2.2.2 } : Vpa)) c.n (pa_g c) (fun a => (.exit 0, pa_fin c a)) (fun (j : Nat) (a : PeA) => a.1 ≤ 1048577 + j) (fun j a hj hI => ?_) (fun j a hj hI Ψ hΨ => ?_) (fun a Ψ hΨ => ?_) (fun a => by simp) (c.n - v.i.toNat) v.i.toNat (v.n, v.a0, v.a1, v.a2, v.a3, v.a4, v.a5, v.a6, v.a7) (by omega) ?_ (fun r => Φ (blkEx 0 r.1, r.2)) (by simpa [blkEx] using h1)
  · exact (congrArg (fun z => (loopTree (pa_step c) (c.n - v.i.toNat + 1) z).holds fun r => Φ (blkEx 0 r.1, r.2)) hv).mpr key
  · exact pa_g_le hI
  · unfold pa_step
    refine (T.h_ite (fun _ => ?_) (fun hc => absurd hc (by simp <;> omega)))
    refine (T.h_need (by simp <;> omega) (T.h_need (by simp <;> omega) (T.h_need (needE fun c0 => (by simp <;> omega)) (T.h_need (needE fun c0 => (by simp <;> omega)) (T.h_need (needE fun c0 => (by simp <;> omega)) (T.h_ite (fun hc => (T.h_leaf ?_)) (fun hc => (T.h_leaf ?_))))))))
    · rw [wrap_next (by omega)]
      rw [pa_g_t (c := c) (j := j) (a := a) hc] at hΨ; exact hΨ
    · rw [wrap_next (by omega)]
      rw [pa_g_f (c := c) (j := j) (a := a) hc] at hΨ; exact hΨ
  · unfold pa_step
    refine (T.h_ite (fun hc => absurd hc (by simp <;> omega)) (fun _ => T.h_leaf hΨ))
  · exact hk3

def pa_dec (b : Mem) (f : FSt) : Option (Cpa × Vpa) :=
  match getSu 0 8 (findF 0 f.sl), getSu 0 8 (findF 20 f.sl), getPtr 1 8 (findF 3 f.sl), getI (findF 21 f.sl), getNil (findF 4 f.sl), getFf (findF 5 f.sl), getI (findF 22 f.sl), getSo 2 8 3 (findF 6 f.sl), id b, f.mem with
  | some (0, n2_), some (0, n_), some (), some l_, some (), some (), some q_i, some q_n, [some (.cols m_ [.str f0_, .fl .f32 f1_, .fl .f32 f2_, .fl .f32 f3_, .fl .f32 f4_, .fl .f32 f5_, .fl .f32 f6_, .fl .f32 f7_])], [_, some (.box [.str e0_, .fl .f32 e1_, .fl .f32 e2_, .fl .f32 e3_, .fl .f32 e4_, .fl .f32 e5_, .fl .f32 e6_, .fl .f32 e7_]), some (.grow r_n [.str q_a0, .fl .f32 q_a1, .fl .f32 q_a2, .fl .f32 q_a3, .fl .f32 q_a4, .fl .f32 q_a5, .fl .f32 q_a6, .fl .f32 q_a7] 3 49), none] => if q_n = r_n then some ({ n := n_, m := m_, f0 := f0_, f1 := f1_, f2 := f2_, f3 := f3_, f4 := f4_, f5 := f5_, f6 := f6_, f7 := f7_, e0 := e0_, e1 := e1_, e2 := e2_, e3 := e3_, e4 := e4_, e5 := e5_, e6 := e6_, e7 := e7_, l := l_, n2 := n2_ }, { i := q_i, n := q_n, a0 := q_a0, a1 := q_a1, a2 := q_a2, a3 := q_a3, a4 := q_a4, a5 := q_a5, a6 := q_a6, a7 := q_a7 }) else none
  | _, _, _, _, _, _, _, _, _, _ => none
theorem pa_dec_ok (b : Mem) (f : FSt) (x : Cpa × Vpa) (h : pa_dec b f = some x) : b = x.1.base ∧ FLe b f (pa_st x.1 x.2) := by
  unfold pa_dec at h
  split at h
  · rename_i e0 e1 e2 e3 e4 e5 e6 e7 hb hm
    obtain ⟨hbo, h9⟩ := ite_some h
    clear h
    subst hbo
    have h := h9
    cases h
    have hb : b = _ := hb
    subst hb
    refine ⟨rfl, fle_of (fun p hp => ?_) (by rw [hm]; exact memLe_refl _)⟩
    simp only [List.mem_cons, List.not_mem_nil, or_false] at hp
    rcases hp with rfl | rfl | rfl | rfl | rfl | rfl | rfl | rfl
    · exact getSu_rel e0
    · exact getPtr_rel e2
    · exact getNil_rel e4
    · exact getFf_rel e5
    · exact getSo_rel e7
    · exact getSu_rel e1
    · exact getI_rel e3
    · exact getI_rel e6
  · cases h
noncomputable def pa_sum : SumF Try.prog 60 paRoot :=
  sumL (pathB paRoot 0) pa_dec (fun x => x.1.base) (fun x => pa_st x.1 x.2) pa_R pa_dec_ok (by
    intro code hc x
    have hc2 : code = .block 0 (.loop (bodyB paRoot 0)) := by
      have h : subR paRoot (pathB paRoot 0) = some (.block 0 (.loop (bodyB paRoot 0))) := by kernel_rfl
      rw [h] at hc; cases hc; rfl
    subst hc2
    exact pa_tri x)

def pb_step (c : Cpb) (v : Vpb) : T (Nx Vpb) :=
  .ite (decide (v.1 < c.19)) (.need (decide (0 ≤ v.1) && decide (v.1 < ((c.1 : Nat) : Int))) (.need (decide (v.1.toNat + 0 < c.2)) (.need (bif !(Op.bytesLess (c.3 (v.1.toNat + 0)).toList c.11.toList || (c.3 (v.1.toNat + 0)).toList == c.11.toList) then decide (v.2 ≤ v.3) else true) (.need (bif !(Op.bytesLess (c.3 (v.1.toNat + 0)).toList c.11.toList || (c.3 (v.1.toNat + 0)).toList == c.11.toList) then decide (0 < 1) else true) (.need (bif !(Op.bytesLess (c.3 (v.1.toNat + 0)).toList c.11.toList || (c.3 (v.1.toNat + 0)).toList == c.11.toList) then decide (v.2 + 1 ≤ 1073741824) else true) (.ite (!(Op.bytesLess (c.3 (v.1.toNat + 0)).toList c.11.toList || (c.3 (v.1.toNat + 0)).toList == c.11.toList)) (.leaf (.go { i := IntKind.i64.wrap (v.1 + 1), n := v.2 + 1, r := v.2 + 1, a0 := fun q => if q = v.n then c.f0 (v.i.toNat + 0) else v.a0 q, a1 := fun q => if q = v.n then c.f1 (v.i.toNat + 0) else v.a1 q, a2 := fun q => if q = v.n then c.f2 (v.i.toNat + 0) else v.a2 q, a3 := fun q => if q = v.n then c.f3 (v.i.toNat + 0) else v.a3 q, a4 := fun q => if q = v.n then c.f4 (v.i.toNat + 0) else v.a4 q, a5 := fun q => if q = v.n then c.f5 (v.i.toNat + 0) else v.a5 q, a6 := fun q => if q = v.n then c.f6 (v.i.toNat + 0) else v.a6 q, a7 := fun q => if q = v.n then c.f7 (v.i.toNat + 0) else v.a7 q })) (.leaf (.go { i := IntKind.i64.wrap (v.1 + 1), n := v.2, r := v.3, a0 := v.a0, a1 := v.a1, a2 := v.a2, a3 := v.a3, a4 := v.a4, a5 := v.a5, a6 := v.a6, a7 := v.a7 })))))))) (.leaf (.out (EX.exit 2) ⟨[(3, AV.one (SV.ptr 1 8 0 0)), (4, AV.one (SV.val (Value.slice none 0 0))), (5, AV.one (SV.tt false)), (6, AV.one (SV.so 2 8 v.2 3)), (40, AV.one (SV.su 0 8 0 c.1 false)), (41, AV.one (SV.num IntKind.i64 c.19)), (42, AV.one (SV.num IntKind.i64 v.1))], c.base ++ [some (.box [.str c.e0, .fl .f32 c.e1, .fl .f32 c.e2, .fl .f32 c.e3, .fl .f32 c.e4, .fl .f32 c.e5, .fl .f32 c.e6, .fl .f32 c.e7]), some (.grow v.r [.str v.a0, .fl .f32 v.a1, .fl .f32 v.a2, .fl .f32 v.a3, .fl .f32 v.a4, .fl .f32 v.a5, .fl .f32 v.a6, .fl .f32 v.a7] 3 49), none]⟩))
theorem pb_round (c : Cpb) (v : Vpb) : roundF Try.prog 60 [] pbRoot [] c.base [0, 1, 3, 4, 5, 6, 8, 10, 18, 20, 21, 22, 23, 30, 40, 41, 42, 43, 50, 58, 198] [3, 4, 5, 6, 40, 41, 42] 2 (pb_st c v) = (pb_step c v).map (nxF (pb_st c)) := by kernel_rfl
def pb_g (c : Cpb) (j : Nat) (a : PeA) : PeA := gB (peI c.f0 c.f1 c.f2 c.f3 c.f4 c.f5 c.f6 c.f7) (peL c.f0 c.e0) (peQ c.f0 c.e0) j a
theorem pb_g_t {c : Cpb} {j : Nat} {a : PeA} (h : (!(peL c.f0 c.e0 j || peQ c.f0 c.e0 j)) = true) : pb_g c j a = peI c.f0 c.f1 c.f2 c.f3 c.f4 c.f5 c.f6 c.f7 j a := by unfold pb_g gB; rw [h]; rfl
theorem pb_g_f {c : Cpb} {j : Nat} {a : PeA} (h : (!(peL c.f0 c.e0 j || peQ c.f0 c.e0 j)) = false) : pb_g c j a = a := by unfold pb_g gB; rw [h]; rfl
theorem pb_g_le {c : Cpb} {j : Nat} {a : PeA} (h : a.1 ≤ 1048577 + j) : (pb_g c j a).1 ≤ 1048577 + (j + 1) := by
  cases hc : (!(peL c.f0 c.e0 j || peQ c.f0 c.e0 j)) with
  | true => rw [pb_g_t hc]; show a.1 + 1 ≤ _; omega
  | false => rw [pb_g_f hc]; omega
def pb_ok (c : Cpb) (v : Vpb) : Bool := decide (c.n ≤ c.m ∧ c.n ≤ 1048576 ∧ c.l = (c.n : Int) ∧ v.n ≤ 1048577 + v.i.toNat ∧ v.r = v.n ∧ 0 ≤ v.i ∧ v.i ≤ ((c.n : Nat) : Int))
def pb_fin (c : Cpb) (a : PeA) : FSt := pb_st c ({ i := (c.n : Int), n := a.1, r := a.1, a0 := a.2.1, a1 := a.2.2.1, a2 := a.2.2.2.1, a3 := a.2.2.2.2.1, a4 := a.2.2.2.2.2.1, a5 := a.2.2.2.2.2.2.1, a6 := a.2.2.2.2.2.2.2.1, a7 := a.2.2.2.2.2.2.2.2 })
noncomputable def pb_R (x : Cpb × Vpb) : T (EX × FSt) := .need (pb_ok x.1 x.2) (.leaf (.normal, pb_fin x.1 (iter (pb_g x.1) (x.1.n - x.2.i.toNat) x.2.i.toNat (x.2.n, x.2.a0, x.2.a1, x.2.a2, x.2.a3, x.2.a4, x.2.a5, x.2.a6, x.2.a7))))
theorem pb_tri (x : Cpb × Vpb) : TriR Try.prog 60 x.1.base (.block 2 (.loop (bodyB pbRoot 2))) (pb_st x.1 x.2) (pb_R x) := by
  obtain ⟨c, v⟩ := x
  refine triR_of mix (root := pbRoot) (by kernel_rfl) (by kernel_rfl) [0, 1, 3, 4, 5, 6, 8, 10, 18, 20, 21, 22, 23, 30, 40, 41, 42, 43, 50, 58, 198] [3, 4, 5, 6, 40, 41, 42] (pb_st c) (pb_step c) (pb_round c) v _ ((c.n - v.i.toNat) + 1) (fun Φ h => ?_)
  have h0 := h.1
  have h1 : Φ (.normal, pb_fin c (iter (pb_g c) (c.n - v.i.toNat) v.i.toNat (v.n, v.a0, v.a1, v.a2, v.a3, v.a4, v.a5, v.a6, v.a7))) := h.2
  simp only [pb_ok, decide_eq_true_eq] at h0
  obtain ⟨hk0, hk1, hk2, hk3, hk4, hi0, hin⟩ := h0
  have hv : v = (fun (j : Nat) (a : PeA) => ({ i := (j : Int), n := a.1, r := a.1, a0 := a.2.1, a1 := a.2.2.1, a2 := a.2.2.2.1, a3 := a.2.2.2.2.1, a4 := a.2.2.2.2.2.1, a5 := a.2.2.2.2.2.2.1, a6 := a.2.2.2.2.2.2.2.1, a7 := a.2.2.2.2.2.2.2.2 } : Vpb)) v.i.toNat (v.n, v.a0, v.a1, v.a2, v.a3, v.a4, v.a5, v.a6, v.a7) := by
    obtain ⟨i, n, r, a0, a1, a2, a3, a4, a5, a6, a7⟩ := v
    have hi0 : 0 ≤ i := hi0
    have hk9 : r = n := hk4
    subst hk9
    simp only [Int.toNat_of_nonneg hi0]
  have key := T_iterI (pb_step c) (fun (j : Nat) (a : PeA) => ({ i := (j : Int), n := a.1, r := a.1, a0 := a.2.1, a1 := a.2.2.1, a2 := a.2.2.2.1, a3 := a.2.2.2.2.1, a4 := a.2.2.2.2.2.1, a5 := a.2.2.2.2.2.2.1, a6 := a.2.2.2.2.2.2.2.1, a7 := a.2.2.2.2.2.2.2.2 } : Vpb)) c.n (pb_g c) (fun a => (.exit 2, pb_fin c a)) (fun (j : Nat) (a : PeA) => a.1 ≤ 1048577 + j) (fun j a hj hI => ?_) (fun j a hj hI Ψ hΨ => ?_) (fun a Ψ hΨ => ?_) (fun a => by simp) (c.n - v.i.toNat) v.i.toNat (v.n, v.a0, v.a1, v.a2, v.a3, v.a4, v.a5, v.a6, v.a7) (by omega) ?_ (fun r => Φ (blkEx 2 r.1, r.2)) (by simpa [blkEx] using h1)
  · exact (congrArg (fun z => (loopTree (pb_step c) (c.n - v.i.toNat + 1) z).holds fun r => Φ (blkEx 2 r.1, r.2)) hv).mpr key
  · exact pb_g_le hI
  · unfold pb_step
    refine (T.h_ite (fun _ => ?_) (fun hc => absurd hc (by simp <;> omega)))
    refine (T.h_need (by simp <;> omega) (T.h_need (by simp <;> omega) (T.h_need (needE fun c0 => (by simp <;> omega)) (T.h_need (needE fun c0 => (by simp <;> omega)) (T.h_need (needE fun c0 => (by simp <;> omega)) (T.h_ite (fun hc => (T.h_leaf ?_)) (fun hc => (T.h_leaf ?_))))))))
    · rw [wrap_next (by omega)]
      rw [pb_g_t (c := c) (j := j) (a := a) hc] at hΨ; exact hΨ
    · rw [wrap_next (by omega)]
      rw [pb_g_f (c := c) (j := j) (a := a) hc] at hΨ; exact hΨ
  · unfold pb_step
    refine (T.h_ite (fun hc => absurd hc (by simp <;> omega)) (fun _ => T.h_leaf hΨ))
  · exact hk3

def pb_dec (b : Mem) (f : FSt) : Option (Cpb × Vpb) :=
  match getSu 0 8 (findF 40 f.sl), getPtr 1 8 (findF 3 f.sl), getI (findF 41 f.sl), getNil (findF 4 f.sl), getFf (findF 5 f.sl), getI (findF 42 f.sl), getSo 2 8 3 (findF 6 f.sl), id b, f.mem with
  | some (0, n_), some (), some l_, some (), some (), some q_i, some q_n, [some (.cols m_ [.str f0_, .fl .f32 f1_, .fl .f32 f2_, .fl .f32 f3_, .fl .f32 f4_, .fl .f32 f5_, .fl .f32 f6_, .fl .f32 f7_])], [_, some (.box [.str e0_, .fl .f32 e1_, .fl .f32 e2_, .fl .f32 e3_, .fl .f32 e4_, .fl .f32 e5_, .fl .f32 e6_, .fl .f32 e7_]), some (.grow q_r [.str q_a0, .fl .f32 q_a1, .fl .f32 q_a2, .fl .f32 q_a3, .fl .f32 q_a4, .fl .f32 q_a5, .fl .f32 q_a6, .fl .f32 q_a7] 3 49), none] => some ({ n := n_, m := m_, f0 := f0_, f1 := f1_, f2 := f2_, f3 := f3_, f4 := f4_, f5 := f5_, f6 := f6_, f7 := f7_, e0 := e0_, e1 := e1_, e2 := e2_, e3 := e3_, e4 := e4_, e5 := e5_, e6 := e6_, e7 := e7_, l := l_ }, { i := q_i, n := q_n, r := q_r, a0 := q_a0, a1 := q_a1, a2 := q_a2, a3 := q_a3, a4 := q_a4, a5 := q_a5, a6 := q_a6, a7 := q_a7 })
  | _, _, _, _, _, _, _, _, _ => none
theorem pb_dec_ok (b : Mem) (f : FSt) (x : Cpb × Vpb) (h : pb_dec b f = some x) : b = x.1.base ∧ FLe b f (pb_st x.1 x.2) := by
  unfold pb_dec at h
  split at h
  · rename_i e0 e1 e2 e3 e4 e5 e6 hb hm
    cases h
    have hb : b = _ := hb
    subst hb
    refine ⟨rfl, fle_of (fun p hp => ?_) (by rw [hm]; exact memLe_refl _)⟩
    simp only [List.mem_cons, List.not_mem_nil, or_false] at hp
    rcases hp with rfl | rfl | rfl | rfl | rfl | rfl | rfl
    · exact getPtr_rel e1
    · exact getNil_rel e3
    · exact getFf_rel e4
    · exact getSo_rel e6
    · exact getSu_rel e0
    · exact getI_rel e2
    · exact getI_rel e5
  · cases h
noncomputable def pb_sum : SumF Try.prog 60 pbRoot :=
  sumL (pathB pbRoot 2) pb_dec (fun x => x.1.base) (fun x => pb_st x.1 x.2) pb_R pb_dec_ok (by
    intro code hc x
    have hc2 : code = .block 2 (.loop (bodyB pbRoot 2)) := by
      have h : subR pbRoot (pathB pbRoot 2) = some (.block 2 (.loop (bodyB pbRoot 2))) := by kernel_rfl
      rw [h] at hc; cases hc; rfl
    subst hc2
    exact pb_tri x)

def ps_in0 (c : Cps) (i : Int) (n : Nat) (a0 : Nat → ByteArray) (a1 a2 a3 a4 a5 a6 a7 : Nat → Nat) : T (Nx Vps) := .need (decide (0 ≤ i) && decide (i < ((c.1 : Nat) : Int))) (.need (decide (i.toNat + 0 < c.2)) (.need (bif !Op.bytesLess (c.3 (i.toNat + 0)).toList c.11.toList then decide (n ≤ n) else true) (.need (bif !Op.bytesLess (c.3 (i.toNat + 0)).toList c.11.toList then decide (0 < 1) else true) (.need (bif !Op.bytesLess (c.3 (i.toNat + 0)).toList c.11.toList then decide (n + 1 ≤ 1073741824) else true) (.need (bif !Op.bytesLess (c.3 (i.toNat + 0)).toList c.11.toList then decide (0 ≤ i) && decide (i < ((c.1 : Nat) : Int)) else true) (.need (bif !Op.bytesLess (c.3 (i.toNat + 0)).toList c.11.toList then decide (i.toNat + 0 < c.2) else true) (.need (bif !Op.bytesLess (c.3 (i.toNat + 0)).toList c.11.toList then bif !(c.3 (i.toNat + 0)).toList == c.11.toList then decide (0 ≤ i) && decide (i < ((c.1 : Nat) : Int)) else true else true) (.need (bif !Op.bytesLess (c.3 (i.toNat + 0)).toList c.11.toList then bif !(c.3 (i.toNat + 0)).toList == c.11.toList then decide (i.toNat + 0 < c.2) else true else true) (.need (bif !Op.bytesLess (c.3 (i.toNat + 0)).toList c.11.toList then bif !(c.3 (i.toNat + 0)).toList == c.11.toList then decide (n + 1 ≤ n + 1) else true else true) (.need (bif !Op.bytesLess (c.3 (i.toNat + 0)).toList c.11.toList then bif !(c.3 (i.toNat + 0)).toList == c.11.toList then decide (0 < 1) else true else true) (.need (bif !Op.bytesLess (c.3 (i.toNat + 0)).toList c.11.toList then bif !(c.3 (i.toNat + 0)).toList == c.11.toList then decide (n + 1 + 1 ≤ 1073741824) else true else true) (.need (bif !Op.bytesLess (c.3 (i.toNat + 0)).toList c.11.toList then true else decide (0 ≤ i) && decide (i < ((c.1 : Nat) : Int))) (.need (bif !Op.bytesLess (c.3 (i.toNat + 0)).toList c.11.toList then true else decide (i.toNat + 0 < c.2)) (.need (bif !Op.bytesLess (c.3 (i.toNat + 0)).toList c.11.toList then true else bif !(c.3 (i.toNat + 0)).toList == c.11.toList then decide (0 ≤ i) && decide (i < ((c.1 : Nat) : Int)) else true) (.need (bif !Op.bytesLess (c.3 (i.toNat + 0)).toList c.11.toList then true else bif !(c.3 (i.toNat + 0)).toList == c.11.toList then decide (i.toNat + 0 < c.2) else true) (.need (bif !Op.bytesLess (c.3 (i.toNat + 0)).toList c.11.toList then true else bif !(c.3 (i.toNat + 0)).toList == c.11.toList then decide (n ≤ n) else true) (.need (bif !Op.bytesLess (c.3 (i.toNat + 0)).toList c.11.toList then true else bif !(c.3 (i.toNat + 0)).toList == c.11.toList then decide (0 < 1) else true) (.need (bif !Op.bytesLess (c.3 (i.toNat + 0)).toList c.11.toList then true else bif !(c.3 (i.toNat + 0)).toList == c.11.toList then decide (n + 1 ≤ 1073741824) else true) (.ite (!Op.bytesLess (c.3 (i.toNat + 0)).toList c.11.toList) (.ite (!(c.3 (i.toNat + 0)).toList == c.11.toList) (.leaf (.go { i := IntKind.i64.wrap (i + 1), n := n + 1 + 1, put := true, a0 := fun q => if q = n + 1 then c.f0 (i.toNat + 0) else (fun q => if q = n then c.e0 else a0 q) q, a1 := fun q => if q = n + 1 then c.f1 (i.toNat + 0) else (fun q => if q = n then c.e1 else a1 q) q, a2 := fun q => if q = n + 1 then c.f2 (i.toNat + 0) else (fun q => if q = n then c.e2 else a2 q) q, a3 := fun q => if q = n + 1 then c.f3 (i.toNat + 0) else (fun q => if q = n then c.e3 else a3 q) q, a4 := fun q => if q = n + 1 then c.f4 (i.toNat + 0) else (fun q => if q = n then c.e4 else a4 q) q, a5 := fun q => if q = n + 1 then c.f5 (i.toNat + 0) else (fun q => if q = n then c.e5 else a5 q) q, a6 := fun q => if q = n + 1 then c.f6 (i.toNat + 0) else (fun q => if q = n then c.e6 else a6 q) q, a7 := fun q => if q = n + 1 then c.f7 (i.toNat + 0) else (fun q => if q = n then c.e7 else a7 q) q })) (.leaf (.go { i := IntKind.i64.wrap (i + 1), n := n + 1, put := true, a0 := fun q => if q = n then c.e0 else a0 q, a1 := fun q => if q = n then c.e1 else a1 q, a2 := fun q => if q = n then c.e2 else a2 q, a3 := fun q => if q = n then c.e3 else a3 q, a4 := fun q => if q = n then c.e4 else a4 q, a5 := fun q => if q = n then c.e5 else a5 q, a6 := fun q => if q = n then c.e6 else a6 q, a7 := fun q => if q = n then c.e7 else a7 q }))) (.ite (!(c.3 (i.toNat + 0)).toList == c.11.toList) (.leaf (.go { i := IntKind.i64.wrap (i + 1), n := n + 1, put := false, a0 := fun q => if q = n then c.f0 (i.toNat + 0) else a0 q, a1 := fun q => if q = n then c.f1 (i.toNat + 0) else a1 q, a2 := fun q => if q = n then c.f2 (i.toNat + 0) else a2 q, a3 := fun q => if q = n then c.f3 (i.toNat + 0) else a3 q, a4 := fun q => if q = n then c.f4 (i.toNat + 0) else a4 q, a5 := fun q => if q = n then c.f5 (i.toNat + 0) else a5 q, a6 := fun q => if q = n then c.f6 (i.toNat + 0) else a6 q, a7 := fun q => if q = n then c.f7 (i.toNat + 0) else a7 q })) (.leaf (.go { i := IntKind.i64.wrap (i + 1), n := n, put := false, a0 := a0, a1 := a1, a2 := a2, a3 := a3, a4 := a4, a5 := a5, a6 := a6, a7 := a7 }))))))))))))))))))))))
def ps_in1 (c : Cps) (i : Int) (n : Nat) (a0 : Nat → ByteArray) (a1 a2 a3 a4 a5 a6 a7 : Nat → Nat) : T (Nx Vps) := .need (decide (0 ≤ i) && decide (i < ((c.1 : Nat) : Int))) (.need (decide (i.toNat + 0 < c.2)) (.need (bif !(c.3 (i.toNat + 0)).toList == c.11.toList then decide (0 ≤ i) && decide (i < ((c.1 : Nat) : Int)) else true) (.need (bif !(c.3 (i.toNat + 0)).toList == c.11.toList then decide (i.toNat + 0 < c.2) else true) (.need (bif !(c.3 (i.toNat + 0)).toList == c.11.toList then decide (n ≤ n) else true) (.need (bif !(c.3 (i.toNat + 0)).toList == c.11.toList then decide (0 < 1) else true) (.need (bif !(c.3 (i.toNat + 0)).toList == c.11.toList then decide (n + 1 ≤ 1073741824) else true) (.ite (!(c.3 (i.toNat + 0)).toList == c.11.toList) (.leaf (.go { i := IntKind.i64.wrap (i + 1), n := n + 1, put := true, a0 := fun q => if q = n then c.f0 (i.toNat + 0) else a0 q, a1 := fun q => if q = n then c.f1 (i.toNat + 0) else a1 q, a2 := fun q => if q = n then c.f2 (i.toNat + 0) else a2 q, a3 := fun q => if q = n then c.f3 (i.toNat + 0) else a3 q, a4 := fun q => if q = n then c.f4 (i.toNat + 0) else a4 q, a5 := fun q => if q = n then c.f5 (i.toNat + 0) else a5 q, a6 := fun q => if q = n then c.f6 (i.toNat + 0) else a6 q, a7 := fun q => if q = n then c.f7 (i.toNat + 0) else a7 q })) (.leaf (.go { i := IntKind.i64.wrap (i + 1), n := n, put := true, a0 := a0, a1 := a1, a2 := a2, a3 := a3, a4 := a4, a5 := a5, a6 := a6, a7 := a7 })))))))))
def ps_step (c : Cps) (v : Vps) : T (Nx Vps) := .ite (decide (v.i < c.l)) (match v.put with
  | false => ps_in0 c v.i v.n v.a0 v.a1 v.a2 v.a3 v.a4 v.a5 v.a6 v.a7
  | true => ps_in1 c v.i v.n v.a0 v.a1 v.a2 v.a3 v.a4 v.a5 v.a6 v.a7) (.leaf (.out (EX.exit 0) (ps_st c v)))
theorem ps_round (c : Cps) (v : Vps) : roundF Try.prog 64 [] psRoot [] c.base [0, 1, 3, 4, 5, 6, 7, 8, 15, 18, 19, 20, 33, 45, 55, 62, 198] [0, 3, 4, 5, 6, 7, 18, 19] 0 (ps_st c v) = (ps_step c v).map (nxF (ps_st c)) := by
  obtain ⟨i, n, put, a0, a1, a2, a3, a4, a5, a6, a7⟩ := v
  cases put <;> kernel_rfl
def ps_g (c : Cps) (j : Nat) (x : PeA × Bool) : PeA × Bool := gS (peI c.f0 c.f1 c.f2 c.f3 c.f4 c.f5 c.f6 c.f7) (peE c.e0 c.e1 c.e2 c.e3 c.e4 c.e5 c.e6 c.e7) (peL c.f0 c.e0) (peQ c.f0 c.e0) j x
def ps_X (j : Nat) (x : PeA × Bool) : Vps := { i := (j : Int), n := x.1.1, put := x.2, a0 := x.1.2.1, a1 := x.1.2.2.1, a2 := x.1.2.2.2.1, a3 := x.1.2.2.2.2.1, a4 := x.1.2.2.2.2.2.1, a5 := x.1.2.2.2.2.2.2.1, a6 := x.1.2.2.2.2.2.2.2.1, a7 := x.1.2.2.2.2.2.2.2.2 }
def ps_ok (c : Cps) (v : Vps) : Bool := decide (c.n ≤ c.m ∧ c.n ≤ 1048576 ∧ c.l = (c.n : Int) ∧ v.n ≤ 2 * v.i.toNat ∧ 0 ≤ v.i ∧ v.i ≤ ((c.n : Nat) : Int))
def ps_fin (c : Cps) (x : PeA × Bool) : FSt := ps_st c (ps_X c.n x)
noncomputable def ps_R0 (x : Cps × Vps) : T (EX × FSt) := .need (ps_ok x.1 x.2) (.leaf (.normal, ps_fin x.1 (iter (ps_g x.1) (x.1.n - x.2.i.toNat) x.2.i.toNat ((x.2.n, x.2.a0, x.2.a1, x.2.a2, x.2.a3, x.2.a4, x.2.a5, x.2.a6, x.2.a7), x.2.put))))
theorem gS_le {c : Cps} {j : Nat} {x : PeA × Bool} (h : x.1.1 ≤ 2 * j) : (ps_g c j x).1.1 ≤ 2 * (j + 1) := by
  have h1 : (gS1 (peE c.e0 c.e1 c.e2 c.e3 c.e4 c.e5 c.e6 c.e7) (peL c.f0 c.e0) j x).1.1 ≤ 2 * j + 1 := by
    unfold gS1
    cases (bif !x.2 then !peL c.f0 c.e0 j else false) with
    | true => show x.1.1 + 1 ≤ _; omega
    | false => show x.1.1 ≤ _; omega
  unfold ps_g gS
  cases peQ c.f0 c.e0 j with
  | true => show (gS1 (peE c.e0 c.e1 c.e2 c.e3 c.e4 c.e5 c.e6 c.e7) (peL c.f0 c.e0) j x).1.1 ≤ _; omega
  | false => show (gS1 (peE c.e0 c.e1 c.e2 c.e3 c.e4 c.e5 c.e6 c.e7) (peL c.f0 c.e0) j x).1.1 + 1 ≤ _; omega
theorem ps_g1 {c : Cps} {j : Nat} {a : PeA} (h1 : (!peL c.f0 c.e0 j) = true) (h2 : (!peQ c.f0 c.e0 j) = true) : ps_g c j (a, false) = (peI c.f0 c.f1 c.f2 c.f3 c.f4 c.f5 c.f6 c.f7 j (peE c.e0 c.e1 c.e2 c.e3 c.e4 c.e5 c.e6 c.e7 a), true) := by unfold ps_g gS gS1; simp only [Bool.not_false, cond_true, h1, h2]
theorem ps_g2 {c : Cps} {j : Nat} {a : PeA} (h1 : (!peL c.f0 c.e0 j) = true) (h2 : (!peQ c.f0 c.e0 j) = false) : ps_g c j (a, false) = (peE c.e0 c.e1 c.e2 c.e3 c.e4 c.e5 c.e6 c.e7 a, true) := by unfold ps_g gS gS1; simp only [Bool.not_false, cond_true, cond_false, h1, h2]
theorem ps_g3 {c : Cps} {j : Nat} {a : PeA} (h1 : (!peL c.f0 c.e0 j) = false) (h2 : (!peQ c.f0 c.e0 j) = true) : ps_g c j (a, false) = (peI c.f0 c.f1 c.f2 c.f3 c.f4 c.f5 c.f6 c.f7 j a, false) := by unfold ps_g gS gS1; simp only [Bool.not_false, cond_true, cond_false, h1, h2]
theorem ps_g4 {c : Cps} {j : Nat} {a : PeA} (h1 : (!peL c.f0 c.e0 j) = false) (h2 : (!peQ c.f0 c.e0 j) = false) : ps_g c j (a, false) = (a, false) := by unfold ps_g gS gS1; simp only [Bool.not_false, cond_true, cond_false, h1, h2]
theorem ps_g5 {c : Cps} {j : Nat} {a : PeA} (h2 : (!peQ c.f0 c.e0 j) = true) : ps_g c j (a, true) = (peI c.f0 c.f1 c.f2 c.f3 c.f4 c.f5 c.f6 c.f7 j a, true) := by unfold ps_g gS gS1; simp only [Bool.not_true, cond_true, cond_false, h2]
theorem ps_g6 {c : Cps} {j : Nat} {a : PeA} (h2 : (!peQ c.f0 c.e0 j) = false) : ps_g c j (a, true) = (a, true) := by unfold ps_g gS gS1; simp only [Bool.not_true, cond_false, h2]
theorem ps_tri0 (x : Cps × Vps) : TriR Try.prog 64 x.1.base (.block 0 (.loop (bodyB psRoot 0))) (ps_st x.1 x.2) (ps_R0 x) := by
  obtain ⟨c, v⟩ := x
  refine triR_of mix (root := psRoot) (by kernel_rfl) (by kernel_rfl) [0, 1, 3, 4, 5, 6, 7, 8, 15, 18, 19, 20, 33, 45, 55, 62, 198] [0, 3, 4, 5, 6, 7, 18, 19] (ps_st c) (ps_step c) (ps_round c) v _ ((c.n - v.i.toNat) + 1) (fun Φ h => ?_)
  have h0 := h.1
  have h1 : Φ (.normal, ps_fin c (iter (ps_g c) (c.n - v.i.toNat) v.i.toNat ((v.n, v.a0, v.a1, v.a2, v.a3, v.a4, v.a5, v.a6, v.a7), v.put))) := h.2
  simp only [ps_ok, decide_eq_true_eq] at h0
  obtain ⟨hk0, hk1, hk2, hk3, hi0, hin⟩ := h0
  have hv : v = ps_X v.i.toNat ((v.n, v.a0, v.a1, v.a2, v.a3, v.a4, v.a5, v.a6, v.a7), v.put) := by
    obtain ⟨i, n, put, a0, a1, a2, a3, a4, a5, a6, a7⟩ := v
    have hi0 : 0 ≤ i := hi0
    simp only [ps_X, Int.toNat_of_nonneg hi0]
  have key := T_iterI (ps_step c) ps_X c.n (ps_g c) (fun a => (.exit 0, ps_fin c a)) (fun (j : Nat) (x : PeA × Bool) => x.1.1 ≤ 2 * j) (fun j a hj hI => gS_le hI) (fun j x hj hI Ψ hΨ => ?_) (fun a Ψ hΨ => ?_) (fun a => by simp) (c.n - v.i.toNat) v.i.toNat ((v.n, v.a0, v.a1, v.a2, v.a3, v.a4, v.a5, v.a6, v.a7), v.put) (by omega) hk3 (fun r => Φ (blkEx 0 r.1, r.2)) (by simpa [blkEx] using h1)
  · exact (congrArg (fun z => (loopTree (ps_step c) (c.n - v.i.toNat + 1) z).holds fun r => Φ (blkEx 0 r.1, r.2)) hv).mpr key
  · obtain ⟨a, put⟩ := x
    have hI : a.1 ≤ 2 * j := hI
    unfold ps_step
    refine T.h_ite (fun _ => ?_) (fun hc => absurd (show ((j : Nat) : Int) < c.l by omega) (of_decide_eq_false hc))
    cases put with
    | false =>
      show (ps_in0 c ((j : Nat) : Int) a.1 a.2.1 a.2.2.1 a.2.2.2.1 a.2.2.2.2.1 a.2.2.2.2.2.1 a.2.2.2.2.2.2.1 a.2.2.2.2.2.2.2.1 a.2.2.2.2.2.2.2.2).holds Ψ
      unfold ps_in0
      refine T.h_need (by simp <;> omega) (T.h_need (by simp <;> omega) (T.h_need (needE fun c0 => (by simp <;> omega)) (T.h_need (needE fun c0 => (by simp <;> omega)) (T.h_need (needE fun c0 => (by simp <;> omega)) (T.h_need (needE fun c0 => (by simp <;> omega)) (T.h_need (needE fun c0 => (by simp <;> omega)) (T.h_need (needE fun c0 => (needE fun c1 => (by simp <;> omega))) (T.h_need (needE fun c0 => (needE fun c1 => (by simp <;> omega))) (T.h_need (needE fun c0 => (needE fun c1 => (by simp <;> omega))) (T.h_need (needE fun c0 => (needE fun c1 => (by simp <;> omega))) (T.h_need (needE fun c0 => (needE fun c1 => (by simp <;> omega))) (T.h_need (needT fun c0 => (by simp <;> omega)) (T.h_need (needT fun c0 => (by simp <;> omega)) (T.h_need (needT fun c0 => (needE fun c1 => (by simp <;> omega))) (T.h_need (needT fun c0 => (needE fun c1 => (by simp <;> omega))) (T.h_need (needT fun c0 => (needE fun c1 => (by simp <;> omega))) (T.h_need (needT fun c0 => (needE fun c1 => (by simp <;> omega))) (T.h_need (needT fun c0 => (needE fun c1 => (by simp <;> omega))) ( T.h_ite (fun hc => T.h_ite (fun hd => T.h_leaf ?_) (fun hd => T.h_leaf ?_)) (fun hc => T.h_ite (fun hd => T.h_leaf ?_) (fun hd => T.h_leaf ?_)))))))))))))))))))))
      · rw [wrap_next (by omega)]; rw [ps_g1 (c := c) (j := j) (a := a) hc hd] at hΨ; exact hΨ
      · rw [wrap_next (by omega)]; rw [ps_g2 (c := c) (j := j) (a := a) hc hd] at hΨ; exact hΨ
      · rw [wrap_next (by omega)]; rw [ps_g3 (c := c) (j := j) (a := a) hc hd] at hΨ; exact hΨ
      · rw [wrap_next (by omega)]; rw [ps_g4 (c := c) (j := j) (a := a) hc hd] at hΨ; exact hΨ
    | true =>
      show (ps_in1 c ((j : Nat) : Int) a.1 a.2.1 a.2.2.1 a.2.2.2.1 a.2.2.2.2.1 a.2.2.2.2.2.1 a.2.2.2.2.2.2.1 a.2.2.2.2.2.2.2.1 a.2.2.2.2.2.2.2.2).holds Ψ
      unfold ps_in1
      refine T.h_need (by simp <;> omega) (T.h_need (by simp <;> omega) (T.h_need (needE fun c0 => (by simp <;> omega)) (T.h_need (needE fun c0 => (by simp <;> omega)) (T.h_need (needE fun c0 => (by simp <;> omega)) (T.h_need (needE fun c0 => (by simp <;> omega)) (T.h_need (needE fun c0 => (by simp <;> omega)) ( T.h_ite (fun hd => T.h_leaf ?_) (fun hd => T.h_leaf ?_))))))))
      · rw [wrap_next (by omega)]; rw [ps_g5 (c := c) (j := j) (a := a) hd] at hΨ; exact hΨ
      · rw [wrap_next (by omega)]; rw [ps_g6 (c := c) (j := j) (a := a) hd] at hΨ; exact hΨ
  · unfold ps_step
    exact T.h_ite (fun hc => absurd (show ((c.n : Nat) : Int) < c.l from of_decide_eq_true hc) (by omega)) (fun _ => T.h_leaf hΨ)

theorem TriR.le {P : Program} {n : Nat} {base : Mem} {c : Code} {s : FSt} {b : Bool} {e : EX} {F F' : FSt} (h : TriR P n base c s (.need b (.leaf (e, F)))) (hle : FLe base F F') : TriR P n base c s (.need b (.leaf (e, F'))) :=
  fun B w0 ρ0 ρ a w hb hc Q hh => h B w0 ρ0 ρ a w hb hc Q ⟨hh.1, fun ρ' a' w' hc' => hh.2 ρ' a' w' (hc'.le hb hle)⟩
def psF (c : Cps) (x : PeA × Bool) : FSt := ⟨[(0, .one (.su 0 8 0 c.n false)), (3, .one (.ptr 1 8 0 0)), (4, .one (.val (.slice none 0 0))), (5, .one (.tt false)), (6, .one (.so 2 8 (ps_X c.n x).n 3)), (7, .one (.bo (ps_X c.n x).put)), (18, .one (.num .i64 c.l)), (19, .one (.num .i64 (ps_X c.n x).i))], c.base ++ [some (.box [.str c.e0, .fl .f32 c.e1, .fl .f32 c.e2, .fl .f32 c.e3, .fl .f32 c.e4, .fl .f32 c.e5, .fl .f32 c.e6, .fl .f32 c.e7]), some (.grow (ps_X c.n x).n [.str (ps_X c.n x).a0, .fl .f32 (ps_X c.n x).a1, .fl .f32 (ps_X c.n x).a2, .fl .f32 (ps_X c.n x).a3, .fl .f32 (ps_X c.n x).a4, .fl .f32 (ps_X c.n x).a5, .fl .f32 (ps_X c.n x).a6, .fl .f32 (ps_X c.n x).a7] 3 49), none]⟩
theorem psF_le (c : Cps) (x : PeA × Bool) : FLe c.base (ps_fin c x) (psF c x) := by
  refine fle_of (fun p hp => ?_) (memLe_refl _)
  simp only [List.mem_cons, List.not_mem_nil, or_false] at hp
  rcases hp with rfl | rfl | rfl | rfl | rfl | rfl | rfl | rfl
  · exact fun ρ v hv => hv
  · exact fun ρ v hv => hv
  · exact fun ρ v hv => hv
  · exact fun ρ v hv => hv
  · exact fun ρ v hv => hv
  · exact fun ρ v hv => hv
  · exact fun ρ v hv => hv
  · exact fun ρ v hv => hv
noncomputable def ps_R (x : Cps × Vps) : T (EX × FSt) := .need (ps_ok x.1 x.2) (.leaf (.normal, psF x.1 (iter (ps_g x.1) (x.1.n - x.2.i.toNat) x.2.i.toNat ((x.2.n, x.2.a0, x.2.a1, x.2.a2, x.2.a3, x.2.a4, x.2.a5, x.2.a6, x.2.a7), x.2.put))))
theorem ps_tri (x : Cps × Vps) : TriR Try.prog 64 x.1.base (.block 0 (.loop (bodyB psRoot 0))) (ps_st x.1 x.2) (ps_R x) := (ps_tri0 x).le (psF_le _ _)
def ps_dec (b : Mem) (f : FSt) : Option (Cps × Vps) :=
  match getSu 0 8 (findF 0 f.sl), getPtr 1 8 (findF 3 f.sl), getI (findF 18 f.sl), getNil (findF 4 f.sl), getFf (findF 5 f.sl), getI (findF 19 f.sl), getSo 2 8 3 (findF 6 f.sl), getT (findF 7 f.sl), id b, f.mem with
  | some (0, n_), some (), some l_, some (), some (), some q_i, some q_n, some q_put, [some (.cols m_ [.str f0_, .fl .f32 f1_, .fl .f32 f2_, .fl .f32 f3_, .fl .f32 f4_, .fl .f32 f5_, .fl .f32 f6_, .fl .f32 f7_])], [_, some (.box [.str e0_, .fl .f32 e1_, .fl .f32 e2_, .fl .f32 e3_, .fl .f32 e4_, .fl .f32 e5_, .fl .f32 e6_, .fl .f32 e7_]), some (.grow r_n [.str q_a0, .fl .f32 q_a1, .fl .f32 q_a2, .fl .f32 q_a3, .fl .f32 q_a4, .fl .f32 q_a5, .fl .f32 q_a6, .fl .f32 q_a7] 3 49), none] => if q_n = r_n then some ({ n := n_, m := m_, f0 := f0_, f1 := f1_, f2 := f2_, f3 := f3_, f4 := f4_, f5 := f5_, f6 := f6_, f7 := f7_, e0 := e0_, e1 := e1_, e2 := e2_, e3 := e3_, e4 := e4_, e5 := e5_, e6 := e6_, e7 := e7_, l := l_ }, { i := q_i, n := q_n, put := q_put, a0 := q_a0, a1 := q_a1, a2 := q_a2, a3 := q_a3, a4 := q_a4, a5 := q_a5, a6 := q_a6, a7 := q_a7 }) else none
  | _, _, _, _, _, _, _, _, _, _ => none
theorem ps_dec_ok (b : Mem) (f : FSt) (x : Cps × Vps) (h : ps_dec b f = some x) : b = x.1.base ∧ FLe b f (ps_st x.1 x.2) := by
  unfold ps_dec at h
  split at h
  · rename_i e0 e1 e2 e3 e4 e5 e6 e7 hb hm
    obtain ⟨hbo, h9⟩ := ite_some h
    clear h
    subst hbo
    have h := h9
    cases h
    have hb : b = _ := hb
    subst hb
    refine ⟨rfl, fle_of (fun p hp => ?_) (by rw [hm]; exact memLe_refl _)⟩
    simp only [List.mem_cons, List.not_mem_nil, or_false] at hp
    rcases hp with rfl | rfl | rfl | rfl | rfl | rfl | rfl | rfl
    · exact getSu_rel e0
    · exact getPtr_rel e1
    · exact getNil_rel e3
    · exact getFf_rel e4
    · exact getSo_rel e6
    · exact getT_rel e7
    · exact getI_rel e2
    · exact getI_rel e5
  · cases h
noncomputable def ps_sum : SumF Try.prog 64 psRoot :=
  sumL (pathB psRoot 0) ps_dec (fun x => x.1.base) (fun x => ps_st x.1 x.2) ps_R ps_dec_ok (by
    intro code hc x
    have hc2 : code = .block 0 (.loop (bodyB psRoot 0)) := by
      have h : subR psRoot (pathB psRoot 0) = some (.block 0 (.loop (bodyB psRoot 0))) := by kernel_rfl
      rw [h] at hc; cases hc; rfl
    subst hc2
    exact ps_tri x)

noncomputable def k_sAeS : Ctr Try.prog := k_sAeL.su
noncomputable def k_sPe0 : Ctr Try.prog := mkF0 Try.prog mix [k_sAeS, k_en_sEntry] 24 Try.f24 (bodyOf Try.f24) Try.func24 (by kernel_rfl) (by kernel_rfl) [0, 1, 3, 4, 5, 6, 7, 8, 15, 18, 19, 20, 33, 45, 55, 62, 199] 64 (by kernel_rfl) (by kernel_rfl) [ps_sum]
noncomputable def k_iPe0 : Ctr Try.prog := mkF0 Try.prog mix [k_iAe, k_iVe] 26 Try.f26 (bodyOf Try.f26) Try.func26 (by kernel_rfl) (by kernel_rfl) [0, 1, 3, 4, 5, 6, 8, 10, 18, 20, 21, 22, 23, 30, 40, 41, 42, 43, 50, 58, 199] 60 (by kernel_rfl) (by kernel_rfl) [pa_sum, pb_sum]

end Go.Proofs.Ytjaohecdhnhhbaa
