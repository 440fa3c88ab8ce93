/-
  FindEntry: both functions in the same words. No conditions.
-/
import Derived.Test.YtjaohecdhnhhbaaEa
namespace Go.Proofs.Ytjaohecdhnhhbaa
set_option linter.unusedVariables false
set_option linter.unusedSimpArgs false
open Go.RowKit

noncomputable def k_ef_i_FindEntryD1 : Ctr Try.prog := (mkF Try.prog mix [] 68 Try.f68 (bodyOf Try.f68) Try.func68 (by kernel_rfl) (by kernel_rfl) [0, 1, 2, 3] 8 (by kernel_rfl) (by kernel_rfl)).mg
def getFnC (f : FuncId) (l : List (Nat × Nat × Nat × Nat)) : AV → Option Unit
  | .one (.fn g c) => if g = f ∧ c = l then some () else none
  | _ => none
theorem getFnC_rel {f : FuncId} {l : List (Nat × Nat × Nat × Nat)} {a : AV} (h : getFnC f l a = some ()) (ρ : Rho) (v : Value) (hv : a.rel ρ v) : (AV.one (.fn f l)).rel ρ v := by
  unfold getFnC at h
  split at h
  · split at h
    · rename_i hk; obtain ⟨h1, h2⟩ := hk; subst h1; subst h2; exact hv
    · cases h
  · cases h
structure Cfs where
  n : Nat
  m : Nat
  f0 : Nat → ByteArray
  f1 : Nat → Nat
  f2 : Nat → Nat
  f3 : Nat → Nat
  f4 : Nat → Nat
  f5 : Nat → Nat
  f6 : Nat → Nat
  f7 : Nat → Nat
  name : ByteArray
  l : Int
def Cfs.base (c : Cfs) : Mem := [some (.cols c.m [.str c.f0, .fl .f32 c.f1, .fl .f32 c.f2, .fl .f32 c.f3, .fl .f32 c.f4, .fl .f32 c.f5, .fl .f32 c.f6, .fl .f32 c.f7])]
structure Vfs where
  i : Int
noncomputable abbrev fsRoot : Code := bodyOf Try.f40
def fs_st (c : Cfs) (v : Vfs) : FSt := ⟨[(0, .one (.su 0 8 0 c.n false)), (1, .one (.str c.name)), (4, .one (.int .i64 0)), (7, .one (.num .i64 c.l)), (8, .one (.num .i64 v.i))], c.base ++ []⟩
def fs_step (c : Cfs) (v : Vfs) : T (Nx Vfs) :=
  .ite (decide (v.1 < c.12)) (.need (decide (0 ≤ v.1) && decide (v.1 < ((c.1 : Nat) : Int))) (.need (decide (v.1.toNat + 0 < c.2)) (.ite ((c.3 (v.1.toNat + 0)).toList == c.11.toList) (.leaf (.out (EX.ret) ⟨[(0, AV.one (SV.su 0 8 0 c.1 false)), (1, AV.one (SV.str c.11)), (4, AV.one (SV.num IntKind.i64 v.1)), (7, AV.one (SV.num IntKind.i64 c.12)), (8, AV.one (SV.num IntKind.i64 v.1))], c.base ++ []⟩)) (.leaf (.go { i := IntKind.i64.wrap (v.1 + 1) }))))) (.leaf (.out (EX.exit 0) ⟨[(0, AV.one (SV.su 0 8 0 c.1 false)), (1, AV.one (SV.str c.11)), (4, AV.one (SV.int IntKind.i64 0)), (7, AV.one (SV.num IntKind.i64 c.12)), (8, AV.one (SV.num IntKind.i64 v.1))], c.base ++ []⟩))
theorem fs_round (c : Cfs) (v : Vfs) : roundF Try.prog 20 [] fsRoot [] c.base [0, 1, 4, 5, 7, 8, 9, 17, 198] [0, 1, 4, 7, 8] 0 (fs_st c v) = (fs_step c v).map (nxF (fs_st c)) := by kernel_rfl
def fB (f : Nat → ByteArray) (name : ByteArray) (j : Nat) : Bool := (f j).toList == name.toList
def itF (n : Nat) (f : Nat → ByteArray) (name : ByteArray) : Unit ⊕ (Nat × Unit) := iterX (exitAt (fB f name) (fun _ a => a)) n 0 ()
def ffV (n : Nat) (f : Nat → ByteArray) (name : ByteArray) : Int := bif isL (itF n f name) then -1 else (((valR (0, ()) (itF n f name)).1 : Nat) : Int)
def fs_g (c : Cfs) (j : Nat) (a : Unit) : Unit := a
def fs_ok (c : Cfs) (v : Vfs) : Bool := decide (c.n ≤ c.m ∧ c.n ≤ 1048576 ∧ c.l = (c.n : Int) ∧ 0 ≤ v.i ∧ v.i ≤ ((c.n : Nat) : Int))
def fs_fin (c : Cfs) (a : Unit) : FSt := fs_st c ({ i := ((c.n : Nat) : Int) })
def fs_osv (c : Cfs) (v : Vfs) : FSt := ⟨[(0, AV.one (SV.su 0 8 0 c.1 false)), (1, AV.one (SV.str c.11)), (4, AV.one (SV.num IntKind.i64 v.1)), (7, AV.one (SV.num IntKind.i64 c.12)), (8, AV.one (SV.num IntKind.i64 v.1))], c.base ++ []⟩
def fs_ost (c : Cfs) (o : (Nat × (Unit))) : FSt := fs_osv c ((fun (j : Nat) (a : Unit) => ({ i := ((j : Nat) : Int) } : Vfs)) o.1 o.2)
def fs_it (c : Cfs) (k s : Nat) (a : Unit) : (Unit) ⊕ (Nat × (Unit)) := iterX (exitAt (fB c.f0 c.name) (fs_g c)) k s a
noncomputable def fs_R (x : Cfs × Vfs) : T (EX × FSt) := .need (fs_ok x.1 x.2) (.ite (isL (fs_it x.1 (x.1.n - x.2.i.toNat) x.2.i.toNat ())) (.leaf (.normal, fs_fin x.1 (valL () (fs_it x.1 (x.1.n - x.2.i.toNat) x.2.i.toNat ())))) (.leaf (.ret, fs_ost x.1 (valR (0, ()) (fs_it x.1 (x.1.n - x.2.i.toNat) x.2.i.toNat ())))))
theorem fs_tri (x : Cfs × Vfs) : TriR Try.prog 20 x.1.base (.block 0 (.loop (bodyB fsRoot 0))) (fs_st x.1 x.2) (fs_R x) := by
  obtain ⟨c, v⟩ := x
  refine triR_of mix (root := fsRoot) (by kernel_rfl) (by kernel_rfl) [0, 1, 4, 5, 7, 8, 9, 17, 198] [0, 1, 4, 7, 8] (fs_st c) (fs_step c) (fs_round c) v _ ((c.n - v.i.toNat) + 1) (fun Φ h => ?_)
  have h0 := h.1
  have h3 : (isL (fs_it c (c.n - v.i.toNat) v.i.toNat ()) = true → Φ (.normal, fs_fin c (valL () (fs_it c (c.n - v.i.toNat) v.i.toNat ())))) ∧ (isL (fs_it c (c.n - v.i.toNat) v.i.toNat ()) = false → Φ (.ret, fs_ost c (valR (0, ()) (fs_it c (c.n - v.i.toNat) v.i.toNat ())))) := h.2
  simp only [fs_ok, decide_eq_true_eq] at h0
  obtain ⟨hk0, hk1, hk2, hi0, hin⟩ := h0
  have hv : v = (fun (j : Nat) (a : Unit) => ({ i := ((j : Nat) : Int) } : Vfs)) v.i.toNat () := by
    obtain ⟨i⟩ := v
    have hi0 : 0 ≤ i := hi0
    simp only [Int.toNat_of_nonneg hi0]
  have key := T_iterX (fs_step c) (fun (j : Nat) (a : Unit) => ({ i := ((j : Nat) : Int) } : Vfs)) c.n (exitAt (fB c.f0 c.name) (fs_g c)) (fun a => (.exit 0, fs_fin c a)) (fun o => (.ret, fs_ost c o)) (fun j a hj Ψ h1 h2 => ?_) (fun a Ψ hΨ => ?_) (fun a => by simp) (fun o => by simp) (c.n - v.i.toNat) v.i.toNat () (by omega) (fun r => Φ (blkEx 0 r.1, r.2)) (fun b hb => ?_) (fun o ho => ?_)
  · exact (congrArg (fun z => (loopTree (fs_step c) (c.n - v.i.toNat + 1) z).holds fun r => Φ (blkEx 0 r.1, r.2)) hv).mpr key
  · unfold fs_step
    refine (T.h_ite (fun _ => ?_) (fun hc => absurd hc (by simp <;> omega)))
    refine (T.h_need (by simp <;> omega) (T.h_need (by simp <;> omega) (T.h_ite (fun hc => (T.h_leaf (h2 (j, a) (by unfold exitAt; rw [show (fB c.f0 c.name) j = true from hc])))) (fun hc => ?_))))
    refine T.h_leaf ?_
    rw [wrap_next (by omega)]
    exact h1 (fs_g c j a) (by unfold exitAt; rw [show (fB c.f0 c.name) j = false from hc])
  · unfold fs_step
    refine (T.h_ite (fun hc => absurd hc (by simp <;> omega)) (fun _ => T.h_leaf hΨ))
  · have hb : fs_it c (c.n - v.i.toNat) v.i.toNat () = .inl b := hb
    have h4 := h3.1 (by rw [hb]; rfl)
    rw [hb] at h4
    simpa [blkEx, valL] using h4
  · have ho : fs_it c (c.n - v.i.toNat) v.i.toNat () = .inr o := ho
    have h4 := h3.2 (by rw [ho]; rfl)
    rw [ho] at h4
    simpa [blkEx, valR] using h4

def fs_dec (b : Mem) (f : FSt) : Option (Cfs × Vfs) :=
  match getSu 0 8 (findF 0 f.sl), getStr (findF 1 f.sl), getZ (findF 4 f.sl), getI (findF 7 f.sl), getI (findF 8 f.sl), id b, f.mem with
  | some (0, n_), some name_, some (), some l_, some q_i, [some (.cols m_ [.str f0_, .fl .f32 f1_, .fl .f32 f2_, .fl .f32 f3_, .fl .f32 f4_, .fl .f32 f5_, .fl .f32 f6_, .fl .f32 f7_])], [_] => some ({ n := n_, m := m_, f0 := f0_, f1 := f1_, f2 := f2_, f3 := f3_, f4 := f4_, f5 := f5_, f6 := f6_, f7 := f7_, name := name_, l := l_ }, { i := q_i })
  | _, _, _, _, _, _, _ => none
theorem fs_dec_ok (b : Mem) (f : FSt) (x : Cfs × Vfs) (h : fs_dec b f = some x) : b = x.1.base ∧ FLe b f (fs_st x.1 x.2) := by
  unfold fs_dec at h
  split at h
  · rename_i e0 e1 e2 e3 e4 hb hm
    cases h
    have hb : b = _ := hb
    subst hb
    refine ⟨rfl, fle_of (fun p hp => ?_) (by rw [hm]; exact trivial)⟩
    simp only [List.mem_cons, List.not_mem_nil, or_false] at hp
    rcases hp with rfl | rfl | rfl | rfl | rfl
    · exact getSu_rel e0
    · exact getStr_rel e1
    · exact getZ_rel e2
    · exact getI_rel e3
    · exact getI_rel e4
  · cases h
noncomputable def fs_sum : SumF Try.prog 20 fsRoot :=
  sumL (pathB fsRoot 0) fs_dec (fun x => x.1.base) (fun x => fs_st x.1 x.2) fs_R fs_dec_ok (by
    intro code hc x
    have hc2 : code = .block 0 (.loop (bodyB fsRoot 0)) := by
      have h : subR fsRoot (pathB fsRoot 0) = some (.block 0 (.loop (bodyB fsRoot 0))) := by kernel_rfl
      rw [h] at hc; cases hc; rfl
    subst hc2
    exact fs_tri x)

structure Cfi where
  n : Nat
  m : Nat
  f0 : Nat → ByteArray
  f1 : Nat → Nat
  f2 : Nat → Nat
  f3 : Nat → Nat
  f4 : Nat → Nat
  f5 : Nat → Nat
  f6 : Nat → Nat
  f7 : Nat → Nat
  name : ByteArray
  l : Int
def Cfi.base (c : Cfi) : Mem := [some (.cols c.m [.str c.f0, .fl .f32 c.f1, .fl .f32 c.f2, .fl .f32 c.f3, .fl .f32 c.f4, .fl .f32 c.f5, .fl .f32 c.f6, .fl .f32 c.f7]), some (.box [.str c.name])]
structure Vfi where
  i : Int
noncomputable abbrev fiRoot : Code := bodyOf Try.f67
def fi_st (c : Cfi) (v : Vfi) : FSt := ⟨[(0, .one (.su 0 8 0 c.n false)), (1, .one (.fn 68 [(1, 1, 0, 0)])), (4, .one (.int .i64 0)), (7, .one (.num .i64 c.l)), (8, .one (.num .i64 v.i))], c.base ++ []⟩
def fi_step (c : Cfi) (v : Vfi) : T (Nx Vfi) :=
  .ite (decide (v.1 < c.12)) (.need (decide (0 ≤ v.1) && decide (v.1 < ((c.1 : Nat) : Int))) (.need (decide (v.1.toNat + 0 < c.2)) (.ite ((c.3 (v.1.toNat + 0)).toList == c.11.toList) (.leaf (.out (EX.ret) ⟨[(0, AV.one (SV.su 0 8 0 c.1 false)), (1, AV.one (SV.fn 68 [(1, 1, 0, 0)])), (4, AV.one (SV.num IntKind.i64 v.1)), (7, AV.one (SV.num IntKind.i64 c.12)), (8, AV.one (SV.num IntKind.i64 v.1))], c.base ++ []⟩)) (.leaf (.go { i := IntKind.i64.wrap (v.1 + 1) }))))) (.leaf (.out (EX.exit 0) ⟨[(0, AV.one (SV.su 0 8 0 c.1 false)), (1, AV.one (SV.fn 68 [(1, 1, 0, 0)])), (4, AV.one (SV.int IntKind.i64 0)), (7, AV.one (SV.num IntKind.i64 c.12)), (8, AV.one (SV.num IntKind.i64 v.1))], c.base ++ []⟩))
theorem fi_round (c : Cfi) (v : Vfi) : roundF Try.prog 19 [k_ef_i_FindEntryD1] fiRoot [] c.base [0, 1, 4, 5, 7, 8, 9, 16, 198] [0, 1, 4, 7, 8] 0 (fi_st c v) = (fi_step c v).map (nxF (fi_st c)) := by kernel_rfl
def fi_g (c : Cfi) (j : Nat) (a : Unit) : Unit := a
def fi_ok (c : Cfi) (v : Vfi) : Bool := decide (c.n ≤ c.m ∧ c.n ≤ 1048576 ∧ c.l = (c.n : Int) ∧ 0 ≤ v.i ∧ v.i ≤ ((c.n : Nat) : Int))
def fi_fin (c : Cfi) (a : Unit) : FSt := fi_st c ({ i := ((c.n : Nat) : Int) })
def fi_osv (c : Cfi) (v : Vfi) : FSt := ⟨[(0, AV.one (SV.su 0 8 0 c.1 false)), (1, AV.one (SV.fn 68 [(1, 1, 0, 0)])), (4, AV.one (SV.num IntKind.i64 v.1)), (7, AV.one (SV.num IntKind.i64 c.12)), (8, AV.one (SV.num IntKind.i64 v.1))], c.base ++ []⟩
def fi_ost (c : Cfi) (o : (Nat × (Unit))) : FSt := fi_osv c ((fun (j : Nat) (a : Unit) => ({ i := ((j : Nat) : Int) } : Vfi)) o.1 o.2)
def fi_it (c : Cfi) (k s : Nat) (a : Unit) : (Unit) ⊕ (Nat × (Unit)) := iterX (exitAt (fB c.f0 c.name) (fi_g c)) k s a
noncomputable def fi_R (x : Cfi × Vfi) : T (EX × FSt) := .need (fi_ok x.1 x.2) (.ite (isL (fi_it x.1 (x.1.n - x.2.i.toNat) x.2.i.toNat ())) (.leaf (.normal, fi_fin x.1 (valL () (fi_it x.1 (x.1.n - x.2.i.toNat) x.2.i.toNat ())))) (.leaf (.ret, fi_ost x.1 (valR (0, ()) (fi_it x.1 (x.1.n - x.2.i.toNat) x.2.i.toNat ())))))
theorem fi_tri (x : Cfi × Vfi) : TriR Try.prog 19 x.1.base (.block 0 (.loop (bodyB fiRoot 0))) (fi_st x.1 x.2) (fi_R x) := by
  obtain ⟨c, v⟩ := x
  refine triR_of mix (root := fiRoot) (by kernel_rfl) (by kernel_rfl) [0, 1, 4, 5, 7, 8, 9, 16, 198] [0, 1, 4, 7, 8] (fi_st c) (fi_step c) (fi_round c) v _ ((c.n - v.i.toNat) + 1) (fun Φ h => ?_)
  have h0 := h.1
  have h3 : (isL (fi_it c (c.n - v.i.toNat) v.i.toNat ()) = true → Φ (.normal, fi_fin c (valL () (fi_it c (c.n - v.i.toNat) v.i.toNat ())))) ∧ (isL (fi_it c (c.n - v.i.toNat) v.i.toNat ()) = false → Φ (.ret, fi_ost c (valR (0, ()) (fi_it c (c.n - v.i.toNat) v.i.toNat ())))) := h.2
  simp only [fi_ok, decide_eq_true_eq] at h0
  obtain ⟨hk0, hk1, hk2, hi0, hin⟩ := h0
  have hv : v = (fun (j : Nat) (a : Unit) => ({ i := ((j : Nat) : Int) } : Vfi)) v.i.toNat () := by
    obtain ⟨i⟩ := v
    have hi0 : 0 ≤ i := hi0
    simp only [Int.toNat_of_nonneg hi0]
  have key := T_iterX (fi_step c) (fun (j : Nat) (a : Unit) => ({ i := ((j : Nat) : Int) } : Vfi)) c.n (exitAt (fB c.f0 c.name) (fi_g c)) (fun a => (.exit 0, fi_fin c a)) (fun o => (.ret, fi_ost c o)) (fun j a hj Ψ h1 h2 => ?_) (fun a Ψ hΨ => ?_) (fun a => by simp) (fun o => by simp) (c.n - v.i.toNat) v.i.toNat () (by omega) (fun r => Φ (blkEx 0 r.1, r.2)) (fun b hb => ?_) (fun o ho => ?_)
  · exact (congrArg (fun z => (loopTree (fi_step c) (c.n - v.i.toNat + 1) z).holds fun r => Φ (blkEx 0 r.1, r.2)) hv).mpr key
  · unfold fi_step
    refine (T.h_ite (fun _ => ?_) (fun hc => absurd hc (by simp <;> omega)))
    refine (T.h_need (by simp <;> omega) (T.h_need (by simp <;> omega) (T.h_ite (fun hc => (T.h_leaf (h2 (j, a) (by unfold exitAt; rw [show (fB c.f0 c.name) j = true from hc])))) (fun hc => ?_))))
    refine T.h_leaf ?_
    rw [wrap_next (by omega)]
    exact h1 (fi_g c j a) (by unfold exitAt; rw [show (fB c.f0 c.name) j = false from hc])
  · unfold fi_step
    refine (T.h_ite (fun hc => absurd hc (by simp <;> omega)) (fun _ => T.h_leaf hΨ))
  · have hb : fi_it c (c.n - v.i.toNat) v.i.toNat () = .inl b := hb
    have h4 := h3.1 (by rw [hb]; rfl)
    rw [hb] at h4
    simpa [blkEx, valL] using h4
  · have ho : fi_it c (c.n - v.i.toNat) v.i.toNat () = .inr o := ho
    have h4 := h3.2 (by rw [ho]; rfl)
    rw [ho] at h4
    simpa [blkEx, valR] using h4

def fi_dec (b : Mem) (f : FSt) : Option (Cfi × Vfi) :=
  match getSu 0 8 (findF 0 f.sl), getFnC 68 [(1, 1, 0, 0)] (findF 1 f.sl), getZ (findF 4 f.sl), getI (findF 7 f.sl), getI (findF 8 f.sl), id b, f.mem with
  | some (0, n_), some (), some (), some l_, some q_i, [some (.cols m_ [.str f0_, .fl .f32 f1_, .fl .f32 f2_, .fl .f32 f3_, .fl .f32 f4_, .fl .f32 f5_, .fl .f32 f6_, .fl .f32 f7_]), some (.box [.str name_])], [_, _] => some ({ n := n_, m := m_, f0 := f0_, f1 := f1_, f2 := f2_, f3 := f3_, f4 := f4_, f5 := f5_, f6 := f6_, f7 := f7_, name := name_, l := l_ }, { i := q_i })
  | _, _, _, _, _, _, _ => none
theorem fi_dec_ok (b : Mem) (f : FSt) (x : Cfi × Vfi) (h : fi_dec b f = some x) : b = x.1.base ∧ FLe b f (fi_st x.1 x.2) := by
  unfold fi_dec at h
  split at h
  · rename_i e0 e1 e2 e3 e4 hb hm
    cases h
    have hb : b = _ := hb
    subst hb
    refine ⟨rfl, fle_of (fun p hp => ?_) (by rw [hm]; exact trivial)⟩
    simp only [List.mem_cons, List.not_mem_nil, or_false] at hp
    rcases hp with rfl | rfl | rfl | rfl | rfl
    · exact getSu_rel e0
    · exact getFnC_rel e1
    · exact getZ_rel e2
    · exact getI_rel e3
    · exact getI_rel e4
  · cases h
noncomputable def fi_sum : SumF Try.prog 19 fiRoot :=
  sumL (pathB fiRoot 0) fi_dec (fun x => x.1.base) (fun x => fi_st x.1 x.2) fi_R fi_dec_ok (by
    intro code hc x
    have hc2 : code = .block 0 (.loop (bodyB fiRoot 0)) := by
      have h : subR fiRoot (pathB fiRoot 0) = some (.block 0 (.loop (bodyB fiRoot 0))) := by kernel_rfl
      rw [h] at hc; cases hc; rfl
    subst hc2
    exact fi_tri x)

noncomputable def k_sFf0 : Ctr Try.prog := (mkF0 Try.prog mix [] 40 Try.f40 (bodyOf Try.f40) Try.func40 (by kernel_rfl) (by kernel_rfl) [0, 1, 4, 5, 7, 8, 9, 17, 198] 20 (by kernel_rfl) (by kernel_rfl) [fs_sum]).mg
noncomputable def k_iFf0 : Ctr Try.prog := (mkF0 Try.prog mix [k_ef_i_FindEntryD1] 67 Try.f67 (bodyOf Try.f67) Try.func67 (by kernel_rfl) (by kernel_rfl) [0, 1, 4, 5, 7, 8, 9, 16, 198] 19 (by kernel_rfl) (by kernel_rfl) [fi_sum]).mg
def run_sFf : List AV → Mem → T Res
  | [.one (.su 0 8 0 n false), .one (.str name)], [some (.cols m [.str f0, .fl .f32 f1, .fl .f32 f2, .fl .f32 f3, .fl .f32 f4, .fl .f32 f5, .fl .f32 f6, .fl .f32 f7])] => .need (decide (n ≤ m)) (.need (decide (n ≤ 1048576)) (.leaf (.one (.num .i64 (ffV n f0 name)), [])))
  | _, _ => .fail
theorem sFf0_ev (n m : Nat) (f0 : Nat → ByteArray) (f1 f2 f3 f4 f5 f6 f7 : Nat → Nat) (name : ByteArray) : k_sFf0.run [.one (.su 0 8 0 n false), .one (.str name)] [some (.cols m [.str f0, .fl .f32 f1, .fl .f32 f2, .fl .f32 f3, .fl .f32 f4, .fl .f32 f5, .fl .f32 f6, .fl .f32 f7])] =
    .need (fs_ok { n := n, m := m, f0 := f0, f1 := f1, f2 := f2, f3 := f3, f4 := f4, f5 := f5, f6 := f6, f7 := f7, name := name, l := (n : Int) } { i := 0 }) (.leaf (.one (.num .i64 (ffV n f0 name)), [])) := by kernel_rfl
noncomputable def k_sFf : Ctr Try.prog := (k_sFf0.to run_sFf (by
  intro args mem _
  unfold run_sFf
  split
  · rename_i n name m f0 f1 f2 f3 f4 f5 f6 f7 _
    rw [sFf0_ev]
    constructor
    intro Φ hΦ h
    have hm := of_decide_eq_true h.1
    have hn := of_decide_eq_true h.2.1
    exact T.h_need (decide_eq_true ⟨hm, hn, rfl, Int.le_refl 0, Int.natCast_nonneg _⟩) (T.h_leaf h.2.2)
  · exact Weak.fail _)).su.own
def run_iFf : List AV → Mem → T Res
  | [.one (.su 0 8 0 n false), .one (.fn g [(1, 1, 0, 0)])], [some (.cols m [.str f0, .fl .f32 f1, .fl .f32 f2, .fl .f32 f3, .fl .f32 f4, .fl .f32 f5, .fl .f32 f6, .fl .f32 f7]), some (.box [.str name])] => match Nat.beq g 68 with
    | true => .need (decide (n ≤ m)) (.need (decide (n ≤ 1048576)) (.leaf (.one (.num .i64 (ffV n f0 name)), [])))
    | false => .fail
  | _, _ => .fail
theorem iFf0_ev (n m : Nat) (f0 : Nat → ByteArray) (f1 f2 f3 f4 f5 f6 f7 : Nat → Nat) (name : ByteArray) : k_iFf0.run [.one (.su 0 8 0 n false), .one (.fn 68 [(1, 1, 0, 0)])] [some (.cols m [.str f0, .fl .f32 f1, .fl .f32 f2, .fl .f32 f3, .fl .f32 f4, .fl .f32 f5, .fl .f32 f6, .fl .f32 f7]), some (.box [.str name])] =
    .need (fi_ok { n := n, m := m, f0 := f0, f1 := f1, f2 := f2, f3 := f3, f4 := f4, f5 := f5, f6 := f6, f7 := f7, name := name, l := (n : Int) } { i := 0 }) (.leaf (.one (.num .i64 (ffV n f0 name)), [])) := by kernel_rfl
noncomputable def k_iFf : Ctr Try.prog := (k_iFf0.to run_iFf (by
  intro args mem _
  unfold run_iFf
  split
  · rename_i n g m f0 f1 f2 f3 f4 f5 f6 f7 name _
    split
    · rename_i hg
      obtain rfl : g = 68 := Nat.eq_of_beq_eq_true hg
      rw [iFf0_ev]
      constructor
      intro Φ hΦ h
      have hm := of_decide_eq_true h.1
      have hn := of_decide_eq_true h.2.1
      exact T.h_need (decide_eq_true ⟨hm, hn, rfl, Int.le_refl 0, Int.natCast_nonneg _⟩) (T.h_leaf h.2.2)
    · exact Weak.fail _
  · exact Weak.fail _)).su.own
noncomputable def k_iFe0 : Ctr Try.prog := (mkF0 Try.prog mix [k_iFf, k_iAe] 42 Try.f42 (bodyOf Try.f42) Try.func42 (by kernel_rfl) (by kernel_rfl) [0, 1, 3, 4, 5, 6, 16, 198] 18 (by kernel_rfl) (by kernel_rfl) []).mg
def feBad (n : Nat) (f0 : Nat → ByteArray) (f1 f2 f3 f4 f5 f6 f7 : Nat → Nat) (name : ByteArray) : Bool := bif !areE n f0 f1 f2 f3 f4 f5 f6 f7 then true else decide (ffV n f0 name < 0)
def feV (n : Nat) (f0 : Nat → ByteArray) (f1 f2 f3 f4 f5 f6 f7 : Nat → Nat) (name : ByteArray) : Int := bif feBad n f0 f1 f2 f3 f4 f5 f6 f7 name then 0 else ffV n f0 name
def feK (n : Nat) (f0 : Nat → ByteArray) (f1 f2 f3 f4 f5 f6 f7 : Nat → Nat) (name : ByteArray) : Bool := !feBad n f0 f1 f2 f3 f4 f5 f6 f7 name
def run_fe : List AV → Mem → T Res
  | [.one (.su 0 8 0 n false), .one (.str name)], [some (.cols m [.str f0, .fl .f32 f1, .fl .f32 f2, .fl .f32 f3, .fl .f32 f4, .fl .f32 f5, .fl .f32 f6, .fl .f32 f7])] => .need (decide (n ≤ m)) (.need (decide (n ≤ 1048576)) (.need (decide (n ≤ m)) (.need (decide (n ≤ 1048576)) (.need (szOK n f0) (.leaf (.tup [.one (.num .i64 (feV n f0 f1 f2 f3 f4 f5 f6 f7 name)), .one (.bo (feK n f0 f1 f2 f3 f4 f5 f6 f7 name))], []))))))
  | _, _ => .fail
theorem iFe0_ev (n m : Nat) (f0 : Nat → ByteArray) (f1 f2 f3 f4 f5 f6 f7 : Nat → Nat) (name : ByteArray) : k_iFe0.run [.one (.su 0 8 0 n false), .one (.str name)] [some (.cols m [.str f0, .fl .f32 f1, .fl .f32 f2, .fl .f32 f3, .fl .f32 f4, .fl .f32 f5, .fl .f32 f6, .fl .f32 f7])] = .need (decide (n ≤ m)) (.need (decide (n ≤ 1048576)) (.need (decide (n ≤ m)) (.need (decide (n ≤ 1048576)) (.need (szOK n f0) (.leaf (.tup [.one (.num .i64 (feV n f0 f1 f2 f3 f4 f5 f6 f7 name)), .one (.bo (feK n f0 f1 f2 f3 f4 f5 f6 f7 name))], [])))))) := by kernel_rfl
noncomputable def k_iFe : Ctr Try.prog := (k_iFe0.to run_fe (by
  intro args mem _
  unfold run_fe
  split
  · exact Weak.of_eq (iFe0_ev _ _ _ _ _ _ _ _ _ _ _)
  · exact Weak.fail _)).su.own

end Go.Proofs.Ytjaohecdhnhhbaa
