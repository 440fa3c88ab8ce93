/-
  Rows of entries: counted, copied. No conditions.
-/
import Derived.Test.YtdmcpgbnomhahaaVn
import Derived.Test.YtdmcpgbnomhahaaRw
namespace Go.Proofs.Ytdmcpgbnomhahaa
set_option linter.unusedVariables false
set_option linter.unusedSimpArgs false
open Go.RowKit

noncomputable def k_es_w_szEntry : Ctr Try.prog := (mkF Try.prog mix [] 9 Try.f9 (bodyOf Try.f9) Try.func9 (by kernel_rfl) (by kernel_rfl) [0, 1, 2, 4, 11] 13 (by kernel_rfl) (by kernel_rfl)).mg
noncomputable def k_es_w_toOrbit : Ctr Try.prog := (mkF Try.prog mix [] 39 Try.f39 (bodyOf Try.f39) Try.func39 (by kernel_rfl) (by kernel_rfl) [0, 1, 2, 3] 23 (by kernel_rfl) (by kernel_rfl)).mg
noncomputable def k_es_w_toEntry : Ctr Try.prog := (mkF Try.prog mix [k_es_w_toOrbit] 11 Try.f11 (bodyOf Try.f11) Try.func11 (by kernel_rfl) (by kernel_rfl) [0, 1, 2, 3] 15 (by kernel_rfl) (by kernel_rfl)).mg
def getZ : AV → Option Unit
  | .one (.int .i64 0) => some ()
  | _ => none
theorem getZ_rel {a : AV} (h : getZ a = some ()) (ρ : Rho) (v : Value) (hv : a.rel ρ v) : (AV.one (.int .i64 0)).rel ρ v := by
  unfold getZ at h
  split at h
  · exact hv
  · cases h
def getSl (id sz : Nat) : AV → Option (Nat × Nat)
  | .one (.sl i s 0 n c _) => if i = id ∧ s = sz then some (n, c) else none
  | _ => none
theorem getSl_rel {id sz n c : Nat} {a : AV} (h : getSl id sz a = some (n, c)) (ρ : Rho) (v : Value) (hv : a.rel ρ v) : (AV.one (.sl id sz 0 n c false)).rel ρ v := by
  unfold getSl at h
  split at h
  · obtain ⟨⟨h1, h2⟩, h4⟩ := ite_some h
    subst h1; subst h2; cases h4
    exact hv
  · cases h
def szG (f : Nat → ByteArray) (j : Nat) (a : Int) : Int := bif decide (IntKind.i64.wrap (a - (f j).size) < 0) then -1 else IntKind.i64.wrap (a - (f j).size)
def szB (f : Nat → ByteArray) (j : Nat) (a : Int) : Bool := decide (szG f j a < 0)
structure Csz where
  n : Nat
  m : Nat
  f0 : Nat → ByteArray
  f1 : Nat → Nat
  f2 : Nat → Nat
  f3 : Nat → Nat
  f4 : Nat → Nat
  f5 : Nat → Nat
  f6 : Nat → Nat
  f7 : Nat → Nat
def Csz.base (c : Csz) : Mem := [some (.cols c.m [.str c.f0, .fl .f32 c.f1, .fl .f32 c.f2, .fl .f32 c.f3, .fl .f32 c.f4, .fl .f32 c.f5, .fl .f32 c.f6, .fl .f32 c.f7])]
structure Vsz where
  l : Int
  i : Int
noncomputable abbrev szRoot : Code := bodyOf Try.f16
def sz_st (c : Csz) (v : Vsz) : FSt := ⟨[(0, .one (.su 0 8 0 c.n false)), (1, .one (.num .i64 v.l)), (4, .one (.int .i64 0)), (5, .one (.num .i64 v.i))], c.base ++ []⟩
def sz_step (c : Csz) (v : Vsz) : T (Nx Vsz) :=
  .ite (decide (v.2 < ((c.1 : Nat) : Int))) (.need (decide (0 ≤ v.2) && decide (v.2 < ((c.1 : Nat) : Int))) (.need (decide (v.2.toNat + 0 < c.2)) (.ite (decide ((bif decide (IntKind.i64.wrap (v.1 - ↑(c.3 (v.2.toNat + 0)).size) < 0) then -1 else IntKind.i64.wrap (v.1 - ↑(c.3 (v.2.toNat + 0)).size)) < 0)) (.leaf (.out (EX.ret) ⟨[(0, AV.one (SV.su 0 8 0 c.1 false)), (1, AV.one (SV.num IntKind.i64 (bif decide (IntKind.i64.wrap (v.1 - ↑(c.3 (v.2.toNat + 0)).size) < 0) then -1 else IntKind.i64.wrap (v.1 - ↑(c.3 (v.2.toNat + 0)).size)))), (4, AV.one (SV.int IntKind.i64 (-1))), (5, AV.one (SV.num IntKind.i64 v.2))], c.base ++ []⟩)) (.leaf (.go { l := bif decide (IntKind.i64.wrap (v.1 - ↑(c.3 (v.2.toNat + 0)).size) < 0) then -1 else IntKind.i64.wrap (v.1 - ↑(c.3 (v.2.toNat + 0)).size), i := IntKind.i64.wrap (v.2 + 1) }))))) (.leaf (.out (EX.exit 0) ⟨[(0, AV.one (SV.su 0 8 0 c.1 false)), (1, AV.one (SV.num IntKind.i64 v.1)), (4, AV.one (SV.int IntKind.i64 0)), (5, AV.one (SV.num IntKind.i64 v.2))], c.base ++ []⟩))
theorem sz_round (c : Csz) (v : Vsz) : roundF Try.prog 27 [k_es_w_szEntry] szRoot [] c.base [0, 1, 4, 5, 11, 15, 25, 198] [0, 1, 4, 5] 0 (sz_st c v) = (sz_step c v).map (nxF (sz_st c)) := by kernel_rfl
def sz_g (c : Csz) (j : Nat) (a : Int) : Int := szG c.f0 j a
def sz_ok (c : Csz) (v : Vsz) : Bool := decide (c.n ≤ c.m ∧ c.n ≤ 1099511627776 ∧ 0 ≤ v.i ∧ v.i ≤ ((c.n : Nat) : Int))
def sz_fin (c : Csz) (a : Int) : FSt := sz_st c ({ l := a, i := (c.n : Int) })
def sz_osv (c : Csz) (v : Vsz) : FSt := ⟨[(0, AV.one (SV.su 0 8 0 c.1 false)), (1, AV.one (SV.num IntKind.i64 (bif decide (IntKind.i64.wrap (v.1 - ↑(c.3 (v.2.toNat + 0)).size) < 0) then -1 else IntKind.i64.wrap (v.1 - ↑(c.3 (v.2.toNat + 0)).size)))), (4, AV.one (SV.int IntKind.i64 (-1))), (5, AV.one (SV.num IntKind.i64 v.2))], c.base ++ []⟩
def sz_ost (c : Csz) (o : (Nat × (Int))) : FSt := sz_osv c ((fun (j : Nat) (a : Int) => ({ l := a, i := (j : Int) } : Vsz)) o.1 o.2)
def sz_it (c : Csz) (k s : Nat) (a : Int) : (Int) ⊕ (Nat × (Int)) := iterX (exitA (szB c.f0) (sz_g c)) k s a
noncomputable def sz_R (x : Csz × Vsz) : T (EX × FSt) := .need (sz_ok x.1 x.2) (.ite (isL (sz_it x.1 (x.1.n - x.2.i.toNat) x.2.i.toNat x.2.l)) (.leaf (.normal, sz_fin x.1 (valL 0 (sz_it x.1 (x.1.n - x.2.i.toNat) x.2.i.toNat x.2.l)))) (.leaf (.ret, sz_ost x.1 (valR (0, 0) (sz_it x.1 (x.1.n - x.2.i.toNat) x.2.i.toNat x.2.l)))))
theorem sz_tri (x : Csz × Vsz) : TriR Try.prog 27 x.1.base (.block 0 (.loop (bodyB szRoot 0))) (sz_st x.1 x.2) (sz_R x) := by
  obtain ⟨c, v⟩ := x
  refine triR_of mix (root := szRoot) (by kernel_rfl) (by kernel_rfl) [0, 1, 4, 5, 11, 15, 25, 198] [0, 1, 4, 5] (sz_st c) (sz_step c) (sz_round c) v _ ((c.n - v.i.toNat) + 1) (fun Φ h => ?_)
  have h0 := h.1
  have h3 : (isL (sz_it c (c.n - v.i.toNat) v.i.toNat v.l) = true → Φ (.normal, sz_fin c (valL 0 (sz_it c (c.n - v.i.toNat) v.i.toNat v.l)))) ∧ (isL (sz_it c (c.n - v.i.toNat) v.i.toNat v.l) = false → Φ (.ret, sz_ost c (valR (0, 0) (sz_it c (c.n - v.i.toNat) v.i.toNat v.l)))) := h.2
  simp only [sz_ok, decide_eq_true_eq] at h0
  obtain ⟨hk0, hk1, hi0, hin⟩ := h0
  have hv : v = (fun (j : Nat) (a : Int) => ({ l := a, i := (j : Int) } : Vsz)) v.i.toNat v.l := by
    obtain ⟨l, i⟩ := v
    have hi0 : 0 ≤ i := hi0
    simp only [Int.toNat_of_nonneg hi0]
  have key := T_iterX (sz_step c) (fun (j : Nat) (a : Int) => ({ l := a, i := (j : Int) } : Vsz)) c.n (exitA (szB c.f0) (sz_g c)) (fun a => (.exit 0, sz_fin c a)) (fun o => (.ret, sz_ost c o)) (fun j a hj Ψ h1 h2 => ?_) (fun a Ψ hΨ => ?_) (fun a => by simp) (fun o => by simp) (c.n - v.i.toNat) v.i.toNat v.l (by omega) (fun r => Φ (blkEx 0 r.1, r.2)) (fun b hb => ?_) (fun o ho => ?_)
  · exact (congrArg (fun z => (loopTree (sz_step c) (c.n - v.i.toNat + 1) z).holds fun r => Φ (blkEx 0 r.1, r.2)) hv).mpr key
  · unfold sz_step
    refine (T.h_ite (fun _ => ?_) (fun hc => absurd hc (by simp <;> omega)))
    refine (T.h_need (by simp <;> omega) (T.h_need (by simp <;> omega) (T.h_ite (fun hc => (T.h_leaf (h2 (j, a) (by unfold exitA; rw [show (szB c.f0) j a = true from hc])))) (fun hc => ?_))))
    refine T.h_leaf ?_
    rw [wrap_next (by omega)]
    exact h1 (sz_g c j a) (by unfold exitA; rw [show (szB c.f0) j a = false from hc])
  · unfold sz_step
    refine (T.h_ite (fun hc => absurd hc (by simp <;> omega)) (fun _ => T.h_leaf hΨ))
  · have hb : sz_it c (c.n - v.i.toNat) v.i.toNat v.l = .inl b := hb
    have h4 := h3.1 (by rw [hb]; rfl)
    rw [hb] at h4
    simpa [blkEx, valL] using h4
  · have ho : sz_it c (c.n - v.i.toNat) v.i.toNat v.l = .inr o := ho
    have h4 := h3.2 (by rw [ho]; rfl)
    rw [ho] at h4
    simpa [blkEx, valR] using h4

def sz_dec (b : Mem) (f : FSt) : Option (Csz × Vsz) :=
  match getSu 0 8 (findF 0 f.sl), getZ (findF 4 f.sl), getI (findF 1 f.sl), getI (findF 5 f.sl), id b, f.mem with
  | some (0, n_), some (), some q_l, some q_i, [some (.cols m_ [.str f0_, .fl .f32 f1_, .fl .f32 f2_, .fl .f32 f3_, .fl .f32 f4_, .fl .f32 f5_, .fl .f32 f6_, .fl .f32 f7_])], [_] => some ({ n := n_, m := m_, f0 := f0_, f1 := f1_, f2 := f2_, f3 := f3_, f4 := f4_, f5 := f5_, f6 := f6_, f7 := f7_ }, { l := q_l, i := q_i })
  | _, _, _, _, _, _ => none
theorem sz_dec_ok (b : Mem) (f : FSt) (x : Csz × Vsz) (h : sz_dec b f = some x) : b = x.1.base ∧ FLe b f (sz_st x.1 x.2) := by
  unfold sz_dec at h
  split at h
  · rename_i e0 e1 e2 e3 hb hm
    cases h
    have hb : b = _ := hb
    subst hb
    refine ⟨rfl, fle_of (fun p hp => ?_) (by rw [hm]; exact trivial)⟩
    simp only [List.mem_cons, List.not_mem_nil, or_false] at hp
    rcases hp with rfl | rfl | rfl | rfl
    · exact getSu_rel e0
    · exact getI_rel e2
    · exact getZ_rel e1
    · exact getI_rel e3
  · cases h
noncomputable def sz_sum : SumF Try.prog 27 szRoot :=
  sumL (pathB szRoot 0) sz_dec (fun x => x.1.base) (fun x => sz_st x.1 x.2) sz_R sz_dec_ok (by
    intro code hc x
    have hc2 : code = .block 0 (.loop (bodyB szRoot 0)) := by
      have h : subR szRoot (pathB szRoot 0) = some (.block 0 (.loop (bodyB szRoot 0))) := by kernel_rfl
      rw [h] at hc; cases hc; rfl
    subst hc2
    exact sz_tri x)

structure Cte where
  n : Nat
  m : Nat
  f0 : Nat → ByteArray
  f1 : Nat → Nat
  f2 : Nat → Nat
  f3 : Nat → Nat
  f4 : Nat → Nat
  f5 : Nat → Nat
  f6 : Nat → Nat
  f7 : Nat → Nat
  n2 : Nat
  p2 : Nat
  m2 : Nat
def Cte.base (c : Cte) : Mem := [some (.cols c.m [.str c.f0, .fl .f32 c.f1, .fl .f32 c.f2, .fl .f32 c.f3, .fl .f32 c.f4, .fl .f32 c.f5, .fl .f32 c.f6, .fl .f32 c.f7])]
structure Vte where
  i : Int
  a0 : Nat → ByteArray
  a1 : Nat → Nat
  a2 : Nat → Nat
  a3 : Nat → Nat
  a4 : Nat → Nat
  a5 : Nat → Nat
  a6 : Nat → Nat
  a7 : Nat → Nat
noncomputable abbrev teRoot : Code := bodyOf Try.f18
def te_st (c : Cte) (v : Vte) : FSt := ⟨[(0, .one (.su 0 8 0 c.n false)), (3, .one (.sl 1 8 0 c.n2 c.p2 false)), (4, .one (.num .i64 v.i))], c.base ++ [some (.cols c.m2 [.str v.a0, .fl .f32 v.a1, .fl .f32 v.a2, .fl .f32 v.a3, .fl .f32 v.a4, .fl .f32 v.a5, .fl .f32 v.a6, .fl .f32 v.a7])]⟩
def te_step (c : Cte) (v : Vte) : T (Nx Vte) :=
  .ite (decide (v.1 < ((c.1 : Nat) : Int))) (.need (decide (0 ≤ v.1) && decide (v.1 < ((c.1 : Nat) : Int))) (.need (decide (v.1.toNat + 0 < c.2)) (.need (decide (0 ≤ v.1) && decide (v.1 < ((c.11 : Nat) : Int))) (.need (decide (v.1.toNat + 0 < c.13)) (.leaf (.go { i := IntKind.i64.wrap (v.1 + 1), a0 := fun q => if q = v.i.toNat + 0 then c.f0 (v.i.toNat + 0) else v.a0 q, a1 := fun q => if q = v.i.toNat + 0 then c.f1 (v.i.toNat + 0) else v.a1 q, a2 := fun q => if q = v.i.toNat + 0 then c.f2 (v.i.toNat + 0) else v.a2 q, a3 := fun q => if q = v.i.toNat + 0 then c.f3 (v.i.toNat + 0) else v.a3 q, a4 := fun q => if q = v.i.toNat + 0 then c.f4 (v.i.toNat + 0) else v.a4 q, a5 := fun q => if q = v.i.toNat + 0 then c.f5 (v.i.toNat + 0) else v.a5 q, a6 := fun q => if q = v.i.toNat + 0 then c.f6 (v.i.toNat + 0) else v.a6 q, a7 := fun q => if q = v.i.toNat + 0 then c.f7 (v.i.toNat + 0) else v.a7 q })))))) (.leaf (.out (EX.exit 0) ⟨[(0, AV.one (SV.su 0 8 0 c.1 false)), (3, AV.one (SV.sl 1 8 0 c.11 c.12 false)), (4, AV.one (SV.num IntKind.i64 v.1))], c.base ++ [some (.cols c.m2 [.str v.a0, .fl .f32 v.a1, .fl .f32 v.a2, .fl .f32 v.a3, .fl .f32 v.a4, .fl .f32 v.a5, .fl .f32 v.a6, .fl .f32 v.a7])]⟩))
theorem te_round (c : Cte) (v : Vte) : roundF Try.prog 23 [k_es_w_toEntry] teRoot [] c.base [0, 2, 3, 4, 11, 198] [0, 3, 4] 0 (te_st c v) = (te_step c v).map (nxF (te_st c)) := by kernel_rfl
def te_g (c : Cte) (j : Nat) (a : (Nat → ByteArray) × (Nat → Nat) × (Nat → Nat) × (Nat → Nat) × (Nat → Nat) × (Nat → Nat) × (Nat → Nat) × (Nat → Nat)) : (Nat → ByteArray) × (Nat → Nat) × (Nat → Nat) × (Nat → Nat) × (Nat → Nat) × (Nat → Nat) × (Nat → Nat) × (Nat → Nat) := (fun q => if q = j then c.f0 j else a.1 q, fun q => if q = j then c.f1 j else a.2.1 q, fun q => if q = j then c.f2 j else a.2.2.1 q, fun q => if q = j then c.f3 j else a.2.2.2.1 q, fun q => if q = j then c.f4 j else a.2.2.2.2.1 q, fun q => if q = j then c.f5 j else a.2.2.2.2.2.1 q, fun q => if q = j then c.f6 j else a.2.2.2.2.2.2.1 q, fun q => if q = j then c.f7 j else a.2.2.2.2.2.2.2 q)
def te_ok (c : Cte) (v : Vte) : Bool := decide (c.n ≤ c.m ∧ c.n ≤ 1099511627776 ∧ c.n2 = c.n ∧ c.n ≤ c.m2 ∧ 0 ≤ v.i ∧ v.i ≤ ((c.n : Nat) : Int))
def te_fin (c : Cte) (a : (Nat → ByteArray) × (Nat → Nat) × (Nat → Nat) × (Nat → Nat) × (Nat → Nat) × (Nat → Nat) × (Nat → Nat) × (Nat → Nat)) : FSt := te_st c ({ i := (c.n : Int), a0 := a.1, a1 := a.2.1, a2 := a.2.2.1, a3 := a.2.2.2.1, a4 := a.2.2.2.2.1, a5 := a.2.2.2.2.2.1, a6 := a.2.2.2.2.2.2.1, a7 := a.2.2.2.2.2.2.2 })
noncomputable def te_R (x : Cte × Vte) : T (EX × FSt) := .need (te_ok x.1 x.2) (.leaf (.normal, te_fin x.1 (iter (te_g x.1) (x.1.n - x.2.i.toNat) x.2.i.toNat (x.2.a0, x.2.a1, x.2.a2, x.2.a3, x.2.a4, x.2.a5, x.2.a6, x.2.a7))))
theorem te_tri (x : Cte × Vte) : TriR Try.prog 23 x.1.base (.block 0 (.loop (bodyB teRoot 0))) (te_st x.1 x.2) (te_R x) := by
  obtain ⟨c, v⟩ := x
  refine triR_of mix (root := teRoot) (by kernel_rfl) (by kernel_rfl) [0, 2, 3, 4, 11, 198] [0, 3, 4] (te_st c) (te_step c) (te_round c) v _ ((c.n - v.i.toNat) + 1) (fun Φ h => ?_)
  have h0 := h.1
  have h1 : Φ (.normal, te_fin c (iter (te_g c) (c.n - v.i.toNat) v.i.toNat (v.a0, v.a1, v.a2, v.a3, v.a4, v.a5, v.a6, v.a7))) := h.2
  simp only [te_ok, decide_eq_true_eq] at h0
  obtain ⟨hk0, hk1, hk2, hk3, hi0, hin⟩ := h0
  have hv : v = (fun (j : Nat) (a : (Nat → ByteArray) × (Nat → Nat) × (Nat → Nat) × (Nat → Nat) × (Nat → Nat) × (Nat → Nat) × (Nat → Nat) × (Nat → Nat)) => ({ i := (j : Int), a0 := a.1, a1 := a.2.1, a2 := a.2.2.1, a3 := a.2.2.2.1, a4 := a.2.2.2.2.1, a5 := a.2.2.2.2.2.1, a6 := a.2.2.2.2.2.2.1, a7 := a.2.2.2.2.2.2.2 } : Vte)) v.i.toNat (v.a0, v.a1, v.a2, v.a3, v.a4, v.a5, v.a6, v.a7) := by
    obtain ⟨i, a0, a1, a2, a3, a4, a5, a6, a7⟩ := v
    have hi0 : 0 ≤ i := hi0
    simp only [Int.toNat_of_nonneg hi0]
  have key := T_iter (te_step c) (fun (j : Nat) (a : (Nat → ByteArray) × (Nat → Nat) × (Nat → Nat) × (Nat → Nat) × (Nat → Nat) × (Nat → Nat) × (Nat → Nat) × (Nat → Nat)) => ({ i := (j : Int), a0 := a.1, a1 := a.2.1, a2 := a.2.2.1, a3 := a.2.2.2.1, a4 := a.2.2.2.2.1, a5 := a.2.2.2.2.2.1, a6 := a.2.2.2.2.2.2.1, a7 := a.2.2.2.2.2.2.2 } : Vte)) c.n (te_g c) (fun a => (.exit 0, te_fin c a)) (fun j a hj Ψ hΨ => ?_) (fun a Ψ hΨ => ?_) (fun a => by simp) (c.n - v.i.toNat) v.i.toNat (v.a0, v.a1, v.a2, v.a3, v.a4, v.a5, v.a6, v.a7) (by omega) (fun r => Φ (blkEx 0 r.1, r.2)) (by simpa [blkEx] using h1)
  · exact (congrArg (fun z => (loopTree (te_step c) (c.n - v.i.toNat + 1) z).holds fun r => Φ (blkEx 0 r.1, r.2)) hv).mpr key
  · unfold te_step
    refine (T.h_ite (fun _ => ?_) (fun hc => absurd hc (by simp <;> omega)))
    refine (T.h_need (by simp <;> omega) (T.h_need (by simp <;> omega) (T.h_need (by simp <;> omega) (T.h_need (by simp <;> omega) ?_))))
    refine T.h_leaf ?_
    rw [wrap_next (by omega)]
    exact hΨ
  · unfold te_step
    refine (T.h_ite (fun hc => absurd hc (by simp <;> omega)) (fun _ => T.h_leaf hΨ.2))

def te_dec (b : Mem) (f : FSt) : Option (Cte × Vte) :=
  match getSu 0 8 (findF 0 f.sl), getSl 1 8 (findF 3 f.sl), getI (findF 4 f.sl), id b, f.mem with
  | some (0, n_), some (n2_, p2_), some q_i, [some (.cols m_ [.str f0_, .fl .f32 f1_, .fl .f32 f2_, .fl .f32 f3_, .fl .f32 f4_, .fl .f32 f5_, .fl .f32 f6_, .fl .f32 f7_])], [_, some (.cols m2_ [.str q_a0, .fl .f32 q_a1, .fl .f32 q_a2, .fl .f32 q_a3, .fl .f32 q_a4, .fl .f32 q_a5, .fl .f32 q_a6, .fl .f32 q_a7])] => some ({ n := n_, m := m_, f0 := f0_, f1 := f1_, f2 := f2_, f3 := f3_, f4 := f4_, f5 := f5_, f6 := f6_, f7 := f7_, n2 := n2_, p2 := p2_, m2 := m2_ }, { i := q_i, a0 := q_a0, a1 := q_a1, a2 := q_a2, a3 := q_a3, a4 := q_a4, a5 := q_a5, a6 := q_a6, a7 := q_a7 })
  | _, _, _, _, _ => none
theorem te_dec_ok (b : Mem) (f : FSt) (x : Cte × Vte) (h : te_dec b f = some x) : b = x.1.base ∧ FLe b f (te_st x.1 x.2) := by
  unfold te_dec at h
  split at h
  · rename_i e0 e1 e2 hb hm
    cases h
    have hb : b = _ := hb
    subst hb
    refine ⟨rfl, fle_of (fun p hp => ?_) (by rw [hm]; exact memLe_refl _)⟩
    simp only [List.mem_cons, List.not_mem_nil, or_false] at hp
    rcases hp with rfl | rfl | rfl
    · exact getSu_rel e0
    · exact getSl_rel e1
    · exact getI_rel e2
  · cases h
noncomputable def te_sum : SumF Try.prog 23 teRoot :=
  sumL (pathB teRoot 0) te_dec (fun x => x.1.base) (fun x => te_st x.1 x.2) te_R te_dec_ok (by
    intro code hc x
    have hc2 : code = .block 0 (.loop (bodyB teRoot 0)) := by
      have h : subR teRoot (pathB teRoot 0) = some (.block 0 (.loop (bodyB teRoot 0))) := by kernel_rfl
      rw [h] at hc; cases hc; rfl
    subst hc2
    exact te_tri x)

noncomputable def k_szS0 : Ctr Try.prog := (mkF0 Try.prog mix [k_es_w_szEntry] 16 Try.f16 (bodyOf Try.f16) Try.func16 (by kernel_rfl) (by kernel_rfl) [0, 1, 4, 5, 11, 15, 25, 198] 27 (by kernel_rfl) (by kernel_rfl) [sz_sum]).mg
noncomputable def k_teS0 : Ctr Try.prog := (mkF0 Try.prog mix [k_es_w_toEntry] 18 Try.f18 (bodyOf Try.f18) Try.func18 (by kernel_rfl) (by kernel_rfl) [0, 2, 3, 4, 11, 198] 23 (by kernel_rfl) (by kernel_rfl) [te_sum]).mg
def szIt (n : Nat) (f0 : Nat → ByteArray) (l : Int) : Int ⊕ (Nat × Int) := iterX (exitA (szB f0) (szG f0)) n 0 l
def szVl (n : Nat) (f0 : Nat → ByteArray) (l : Int) : Int := bif decide (IntKind.i64.wrap (l - (n : Int)) < 0) then -1 else bif isL (szIt n f0 (IntKind.i64.wrap (l - (n : Int)))) then valL 0 (szIt n f0 (IntKind.i64.wrap (l - (n : Int)))) else -1
def szV (n : Nat) (f0 : Nat → ByteArray) : Int := szVl n f0 1048576
theorem sz_le (f : Nat → ByteArray) (N : Nat) (hf : ∀ i, i < N → (f i).size ≤ 9223372036854775807) : ∀ (c s : Nat) (a : Int), s + c ≤ N → isL (iterX (exitA (szB f) (szG f)) c s a) = true → 0 ≤ a → a ≤ 1048576 → 0 ≤ valL 0 (iterX (exitA (szB f) (szG f)) c s a) ∧ valL 0 (iterX (exitA (szB f) (szG f)) c s a) ≤ a
  | 0, s, a, _, _, h0, _ => ⟨h0, Int.le_refl a⟩
  | c + 1, s, a, hN, hL, h0, h20 => by
    have hb : szB f s a = false := by
      cases hb : szB f s a with
      | false => rfl
      | true =>
        have e : exitA (szB f) (szG f) s a = .inr (s, a) := by unfold exitA; rw [hb]
        rw [iterX, e] at hL
        cases hL
    have e : exitA (szB f) (szG f) s a = .inl (szG f s a) := by unfold exitA; rw [hb]
    rw [iterX, e] at hL
    rw [iterX, e]
    have hs := hf s (by omega)
    have hw : IntKind.i64.wrap (a - (f s).size) = a - (f s).size := IntWalk.i64_in _ (by omega)
    have hge : ¬ (szG f s a < 0) := of_decide_eq_false hb
    have hG : szG f s a = a - (f s).size ∧ 0 ≤ a - (f s).size := by
      unfold szG at hge ⊢
      rw [hw] at hge ⊢
      cases hd : decide (a - ((f s).size : Int) < 0) with
      | true => rw [hd] at hge; exact absurd (by decide : (-1 : Int) < 0) hge
      | false => exact ⟨rfl, by have := of_decide_eq_false hd; omega⟩
    have ih := sz_le f N hf c (s + 1) (szG f s a) (by omega) hL (by omega) (by omega)
    exact ⟨ih.1, Int.le_trans ih.2 (by omega)⟩
theorem sz_in (f : Nat → ByteArray) (N : Nat) (hf : ∀ i, i < N → (f i).size ≤ 9223372036854775807) : ∀ (c s : Nat) (a : Int), s + c ≤ N → isL (iterX (exitA (szB f) (szG f)) c s a) = true → 0 ≤ a → a ≤ 1048576 → ∀ j, s ≤ j → j < s + c → (f j).size ≤ 1048576
  | 0, s, a, _, _, _, _, j, h1, h2 => by omega
  | c + 1, s, a, hN, hL, h0, h20, j, h1, h2 => by
    have hb : szB f s a = false := by
      cases hb : szB f s a with
      | false => rfl
      | true =>
        have e : exitA (szB f) (szG f) s a = .inr (s, a) := by unfold exitA; rw [hb]
        rw [iterX, e] at hL
        cases hL
    have e : exitA (szB f) (szG f) s a = .inl (szG f s a) := by unfold exitA; rw [hb]
    rw [iterX, e] at hL
    have hs := hf s (by omega)
    have hw : IntKind.i64.wrap (a - (f s).size) = a - (f s).size := IntWalk.i64_in _ (by omega)
    have hge : ¬ (szG f s a < 0) := of_decide_eq_false hb
    have hG : szG f s a = a - (f s).size ∧ 0 ≤ a - (f s).size := by
      unfold szG at hge ⊢
      rw [hw] at hge ⊢
      cases hd : decide (a - ((f s).size : Int) < 0) with
      | true => rw [hd] at hge; exact absurd (by decide : (-1 : Int) < 0) hge
      | false => exact ⟨rfl, by have := of_decide_eq_false hd; omega⟩
    by_cases hj : j = s
    · subst hj
      omega
    · exact sz_in f N hf c (s + 1) (szG f s a) (by omega) hL (by omega) (by omega) j (by omega) (by omega)
theorem szVl_in {n : Nat} {f : Nat → ByteArray} {l : Int} (hl0 : 0 ≤ l) (hl : l ≤ 1048576) (hn : n ≤ 9223372036854775807) (hf : ∀ i, i < n → (f i).size ≤ 9223372036854775807) (h : decide (szVl n f l < 0) = false) : (n ≤ 1048576 ∧ ∀ i, i < n → (f i).size ≤ 1048576) ∧ 0 ≤ szVl n f l ∧ szVl n f l ≤ l := by
  have h := of_decide_eq_false h
  unfold szVl at h ⊢
  have hw : IntKind.i64.wrap (l - (n : Int)) = l - (n : Int) := IntWalk.i64_in _ (by omega)
  rw [hw] at h ⊢
  cases hd : decide (l - (n : Int) < 0) with
  | true => rw [hd] at h; exact absurd (by decide : (-1 : Int) < 0) h
  | false =>
    have hd' := of_decide_eq_false hd
    rw [hd] at h
    cases hL : isL (szIt n f (l - (n : Int))) with
    | false => rw [hL] at h; exact absurd (by decide : (-1 : Int) < 0) h
    | true =>
      have h1 := sz_in f n hf n 0 _ (by omega) hL (by omega) (by omega)
      have h2 := sz_le f n hf n 0 _ (by omega) hL (by omega) (by omega)
      refine ⟨⟨by omega, fun i hi => h1 i (Nat.zero_le i) (by omega)⟩, h2.1, ?_⟩
      show valL 0 (szIt n f (l - (n : Int))) ≤ l
      have := h2.2
      unfold szIt
      omega
theorem szV_in {n : Nat} {f : Nat → ByteArray} (hn : n ≤ 9223372036854775807) (hf : ∀ i, i < n → (f i).size ≤ 9223372036854775807) (h : decide (szV n f < 0) = false) : n ≤ 1048576 ∧ ∀ i, i < n → (f i).size ≤ 1048576 := (szVl_in (by omega) (by omega) hn hf h).1
def run_szE : List AV → Mem → T Res
  | [.one (.su 0 8 0 n false), .one (.int .i64 l)], [some (.cols m [.str f0, .fl .f32 f1, .fl .f32 f2, .fl .f32 f3, .fl .f32 f4, .fl .f32 f5, .fl .f32 f6, .fl .f32 f7])] => .need (l == 1048576) (.need (decide (n ≤ 9223372036854775807)) (.need (decide (n ≤ m)) (.leaf (.one (.num .i64 (szV n f0)), []))))
  | [.one (.su 0 8 0 n false), .one (.num .i64 l)], [some (.cols m [.str f0, .fl .f32 f1, .fl .f32 f2, .fl .f32 f3, .fl .f32 f4, .fl .f32 f5, .fl .f32 f6, .fl .f32 f7])] => .need (decide (0 ≤ l ∧ l ≤ 1048576)) (.need (decide (n ≤ 9223372036854775807)) (.need (decide (n ≤ m)) (.leaf (.one (.num .i64 (szVl n f0 l)), []))))
  | _, _ => .fail
theorem szS0_evn (n m : Nat) (l : Int) (f0 : Nat → ByteArray) (f1 f2 f3 f4 f5 f6 f7 : Nat → Nat) : k_szS0.run [.one (.su 0 8 0 n false), .one (.num .i64 l)] [some (.cols m [.str f0, .fl .f32 f1, .fl .f32 f2, .fl .f32 f3, .fl .f32 f4, .fl .f32 f5, .fl .f32 f6, .fl .f32 f7])] =
    .need (bif decide (IntKind.i64.wrap (l - (n : Int)) < 0) then true else sz_ok { n := n, m := m, f0 := f0, f1 := f1, f2 := f2, f3 := f3, f4 := f4, f5 := f5, f6 := f6, f7 := f7 } { l := IntKind.i64.wrap (l - (n : Int)), i := 0 }) (.leaf (.one (.num .i64 (szVl n f0 l)), [])) := by kernel_rfl
theorem szS0_ev (n m : Nat) (f0 : Nat → ByteArray) (f1 f2 f3 f4 f5 f6 f7 : Nat → Nat) : k_szS0.run [.one (.su 0 8 0 n false), .one (.int .i64 1048576)] [some (.cols m [.str f0, .fl .f32 f1, .fl .f32 f2, .fl .f32 f3, .fl .f32 f4, .fl .f32 f5, .fl .f32 f6, .fl .f32 f7])] =
    .need (bif decide (IntKind.i64.wrap (1048576 - (n : Int)) < 0) then true else sz_ok { n := n, m := m, f0 := f0, f1 := f1, f2 := f2, f3 := f3, f4 := f4, f5 := f5, f6 := f6, f7 := f7 } { l := IntKind.i64.wrap (1048576 - (n : Int)), i := 0 }) (.leaf (.one (.num .i64 (szV n f0)), [])) := by kernel_rfl
noncomputable def k_szE0 : Ctr Try.prog := (k_szS0.to run_szE (by
  intro args mem _
  unfold run_szE
  split
  · rename_i n l m f0 f1 f2 f3 f4 f5 f6 f7 _
    by_cases hl : l = 1048576
    · subst hl
      rw [szS0_ev]
      constructor
      intro Φ hΦ h
      have hn := of_decide_eq_true h.2.1
      have hm := of_decide_eq_true h.2.2.1
      refine T.h_need (needT fun hA => decide_eq_true ⟨hm, ?_, Int.le_refl 0, Int.natCast_nonneg n⟩) (T.h_leaf h.2.2.2)
      rw [IntWalk.i64_in _ (by omega)] at hA
      have := of_decide_eq_false hA
      show n ≤ 1099511627776
      omega
    · constructor
      intro Φ hΦ h
      have h1 : (l == 1048576) = true := h.1
      exfalso
      exact hl (by simpa using h1)
  · rename_i n l m f0 f1 f2 f3 f4 f5 f6 f7 _
    rw [szS0_evn]
    constructor
    intro Φ hΦ h
    have hl := of_decide_eq_true h.1
    have hn := of_decide_eq_true h.2.1
    have hm := of_decide_eq_true h.2.2.1
    refine T.h_need (needT fun hA => decide_eq_true ⟨hm, ?_, Int.le_refl 0, Int.natCast_nonneg n⟩) (T.h_leaf h.2.2.2)
    rw [IntWalk.i64_in _ (by omega)] at hA
    have := of_decide_eq_false hA
    show n ≤ 1099511627776
    omega
  · exact Weak.fail _)).su.own
noncomputable def k_szEN : Ctr Try.prog := mkF Try.prog mix [k_es_w_szEntry] 16 Try.f16 (bodyOf Try.f16) Try.func16 (by kernel_rfl) (by kernel_rfl) [0, 1, 4, 5, 11, 15, 25] 27 (by kernel_rfl) (by kernel_rfl)
noncomputable def k_szE : Ctr Try.prog := k_szE0.pick k_szEN (by kernel_rfl) nilArg
def teEnd (n m : Nat) (f0 : Nat → ByteArray) (f1 f2 f3 f4 f5 f6 f7 : Nat → Nat) : (Nat → ByteArray) × (Nat → Nat) × (Nat → Nat) × (Nat → Nat) × (Nat → Nat) × (Nat → Nat) × (Nat → Nat) × (Nat → Nat) := iter (te_g { n := n, m := m, f0 := f0, f1 := f1, f2 := f2, f3 := f3, f4 := f4, f5 := f5, f6 := f6, f7 := f7, n2 := ((n : Int)).toNat, p2 := ((n : Int)).toNat, m2 := ((n : Int)).toNat }) n 0 (fun _ => (⟨#[]⟩ : ByteArray), fun _ => canon .f32 0, fun _ => canon .f32 0, fun _ => canon .f32 0, fun _ => canon .f32 0, fun _ => canon .f32 0, fun _ => canon .f32 0, fun _ => canon .f32 0)
def run_teE : List AV → Mem → T Res
  | [.one (.su 0 8 0 n false)], [some (.cols m [.str f0, .fl .f32 f1, .fl .f32 f2, .fl .f32 f3, .fl .f32 f4, .fl .f32 f5, .fl .f32 f6, .fl .f32 f7])] => .need (decide (n ≤ 1048576)) (.need (decide (n ≤ m)) (.leaf (.one (.sl 1 8 0 n n false), [some (.cols n [.str f0, .fl .f32 f1, .fl .f32 f2, .fl .f32 f3, .fl .f32 f4, .fl .f32 f5, .fl .f32 f6, .fl .f32 f7])])))
  | _, _ => .fail
theorem teS0_ev (n m : Nat) (f0 : Nat → ByteArray) (f1 f2 f3 f4 f5 f6 f7 : Nat → Nat) : k_teS0.run [.one (.su 0 8 0 n false)] [some (.cols m [.str f0, .fl .f32 f1, .fl .f32 f2, .fl .f32 f3, .fl .f32 f4, .fl .f32 f5, .fl .f32 f6, .fl .f32 f7])] =
    .need (decide (0 ≤ (n : Int) ∧ (n : Int) ≤ 2 ^ 30 ∧ (n : Int) = n)) (.need (te_ok { n := n, m := m, f0 := f0, f1 := f1, f2 := f2, f3 := f3, f4 := f4, f5 := f5, f6 := f6, f7 := f7, n2 := ((n : Int)).toNat, p2 := ((n : Int)).toNat, m2 := ((n : Int)).toNat } { i := 0, a0 := fun _ => (⟨#[]⟩ : ByteArray), a1 := fun _ => canon .f32 0, a2 := fun _ => canon .f32 0, a3 := fun _ => canon .f32 0, a4 := fun _ => canon .f32 0, a5 := fun _ => canon .f32 0, a6 := fun _ => canon .f32 0, a7 := fun _ => canon .f32 0 }) (.leaf (.one (.sl 1 8 0 ((n : Int)).toNat ((n : Int)).toNat false), [some (.cols ((n : Int)).toNat [.str (teEnd n m f0 f1 f2 f3 f4 f5 f6 f7).1, .fl .f32 (teEnd n m f0 f1 f2 f3 f4 f5 f6 f7).2.1, .fl .f32 (teEnd n m f0 f1 f2 f3 f4 f5 f6 f7).2.2.1, .fl .f32 (teEnd n m f0 f1 f2 f3 f4 f5 f6 f7).2.2.2.1, .fl .f32 (teEnd n m f0 f1 f2 f3 f4 f5 f6 f7).2.2.2.2.1, .fl .f32 (teEnd n m f0 f1 f2 f3 f4 f5 f6 f7).2.2.2.2.2.1, .fl .f32 (teEnd n m f0 f1 f2 f3 f4 f5 f6 f7).2.2.2.2.2.2.1, .fl .f32 (teEnd n m f0 f1 f2 f3 f4 f5 f6 f7).2.2.2.2.2.2.2])]))) := by kernel_rfl
theorem teEnd_at (n m : Nat) (f0 : Nat → ByteArray) (f1 f2 f3 f4 f5 f6 f7 : Nat → Nat) (i : Nat) (hi : i < n) : (teEnd n m f0 f1 f2 f3 f4 f5 f6 f7).1 i = f0 i ∧ (teEnd n m f0 f1 f2 f3 f4 f5 f6 f7).2.1 i = f1 i ∧ (teEnd n m f0 f1 f2 f3 f4 f5 f6 f7).2.2.1 i = f2 i ∧ (teEnd n m f0 f1 f2 f3 f4 f5 f6 f7).2.2.2.1 i = f3 i ∧ (teEnd n m f0 f1 f2 f3 f4 f5 f6 f7).2.2.2.2.1 i = f4 i ∧ (teEnd n m f0 f1 f2 f3 f4 f5 f6 f7).2.2.2.2.2.1 i = f5 i ∧ (teEnd n m f0 f1 f2 f3 f4 f5 f6 f7).2.2.2.2.2.2.1 i = f6 i ∧ (teEnd n m f0 f1 f2 f3 f4 f5 f6 f7).2.2.2.2.2.2.2 i = f7 i :=
  ⟨fillG (te_g { n := n, m := m, f0 := f0, f1 := f1, f2 := f2, f3 := f3, f4 := f4, f5 := f5, f6 := f6, f7 := f7, n2 := ((n : Int)).toNat, p2 := ((n : Int)).toNat, m2 := ((n : Int)).toNat }) (fun a => a.1) f0 (fun j a q h => if_neg h) (fun j a => if_pos rfl) n 0 _ i (Nat.zero_le i) (by omega),
   fillG (te_g { n := n, m := m, f0 := f0, f1 := f1, f2 := f2, f3 := f3, f4 := f4, f5 := f5, f6 := f6, f7 := f7, n2 := ((n : Int)).toNat, p2 := ((n : Int)).toNat, m2 := ((n : Int)).toNat }) (fun a => a.2.1) f1 (fun j a q h => if_neg h) (fun j a => if_pos rfl) n 0 _ i (Nat.zero_le i) (by omega),
   fillG (te_g { n := n, m := m, f0 := f0, f1 := f1, f2 := f2, f3 := f3, f4 := f4, f5 := f5, f6 := f6, f7 := f7, n2 := ((n : Int)).toNat, p2 := ((n : Int)).toNat, m2 := ((n : Int)).toNat }) (fun a => a.2.2.1) f2 (fun j a q h => if_neg h) (fun j a => if_pos rfl) n 0 _ i (Nat.zero_le i) (by omega),
   fillG (te_g { n := n, m := m, f0 := f0, f1 := f1, f2 := f2, f3 := f3, f4 := f4, f5 := f5, f6 := f6, f7 := f7, n2 := ((n : Int)).toNat, p2 := ((n : Int)).toNat, m2 := ((n : Int)).toNat }) (fun a => a.2.2.2.1) f3 (fun j a q h => if_neg h) (fun j a => if_pos rfl) n 0 _ i (Nat.zero_le i) (by omega),
   fillG (te_g { n := n, m := m, f0 := f0, f1 := f1, f2 := f2, f3 := f3, f4 := f4, f5 := f5, f6 := f6, f7 := f7, n2 := ((n : Int)).toNat, p2 := ((n : Int)).toNat, m2 := ((n : Int)).toNat }) (fun a => a.2.2.2.2.1) f4 (fun j a q h => if_neg h) (fun j a => if_pos rfl) n 0 _ i (Nat.zero_le i) (by omega),
   fillG (te_g { n := n, m := m, f0 := f0, f1 := f1, f2 := f2, f3 := f3, f4 := f4, f5 := f5, f6 := f6, f7 := f7, n2 := ((n : Int)).toNat, p2 := ((n : Int)).toNat, m2 := ((n : Int)).toNat }) (fun a => a.2.2.2.2.2.1) f5 (fun j a q h => if_neg h) (fun j a => if_pos rfl) n 0 _ i (Nat.zero_le i) (by omega),
   fillG (te_g { n := n, m := m, f0 := f0, f1 := f1, f2 := f2, f3 := f3, f4 := f4, f5 := f5, f6 := f6, f7 := f7, n2 := ((n : Int)).toNat, p2 := ((n : Int)).toNat, m2 := ((n : Int)).toNat }) (fun a => a.2.2.2.2.2.2.1) f6 (fun j a q h => if_neg h) (fun j a => if_pos rfl) n 0 _ i (Nat.zero_le i) (by omega),
   fillG (te_g { n := n, m := m, f0 := f0, f1 := f1, f2 := f2, f3 := f3, f4 := f4, f5 := f5, f6 := f6, f7 := f7, n2 := ((n : Int)).toNat, p2 := ((n : Int)).toNat, m2 := ((n : Int)).toNat }) (fun a => a.2.2.2.2.2.2.2) f7 (fun j a q h => if_neg h) (fun j a => if_pos rfl) n 0 _ i (Nat.zero_le i) (by omega)⟩
noncomputable def k_teE0 : Ctr Try.prog := (k_teS0.to run_teE (by
  intro args mem _
  unfold run_teE
  split
  · rename_i n m f0 f1 f2 f3 f4 f5 f6 f7 _
    rw [teS0_ev]
    constructor
    intro Φ hΦ h
    have hn := of_decide_eq_true h.1
    have hm := of_decide_eq_true h.2.1
    refine T.h_need (decide_eq_true ⟨by omega, by omega, rfl⟩) (T.h_need (decide_eq_true ⟨hm, by show n ≤ 1099511627776; omega, rfl, Nat.le_refl _, Int.le_refl 0, Int.natCast_nonneg n⟩) (T.h_leaf (hΦ _ (.one (.sl 1 8 0 n n false), [some (.cols n [.str f0, .fl .f32 f1, .fl .f32 f2, .fl .f32 f3, .fl .f32 f4, .fl .f32 f5, .fl .f32 f6, .fl .f32 f7])]) ⟨⟨BlLe.cols_eq (fun i hi => ?_) rfl, trivial⟩, fun _ _ hv => hv⟩ h.2.2)))
    obtain ⟨h0, h1, h2, h3, h4, h5, h6, h7⟩ := teEnd_at n m f0 f1 f2 f3 f4 f5 f6 f7 i hi
    simp only [colsAt, Col.at, h0, h1, h2, h3, h4, h5, h6, h7]
  · exact Weak.fail _)).su.own
noncomputable def k_teEN0 : Ctr Try.prog := mkF Try.prog mix [k_es_w_toEntry] 18 Try.f18 (bodyOf Try.f18) Try.func18 (by kernel_rfl) (by kernel_rfl) [0, 2, 3, 4, 11] 23 (by kernel_rfl) (by kernel_rfl)
def run_teN : List AV → Mem → T Res
  | [.one (.val (.slice none 0 0))], [] => .leaf (.one (.sl 0 8 0 0 0 false), [some (.cols 0 [.str fun _ => (⟨#[]⟩ : ByteArray), .fl .f32 fun _ => canon .f32 0, .fl .f32 fun _ => canon .f32 0, .fl .f32 fun _ => canon .f32 0, .fl .f32 fun _ => canon .f32 0, .fl .f32 fun _ => canon .f32 0, .fl .f32 fun _ => canon .f32 0, .fl .f32 fun _ => canon .f32 0])])
  | _, _ => .fail
theorem teN0_ev : k_teEN0.run [.one (.val (.slice none 0 0))] [] = .leaf (.one (.sl 0 8 0 0 0 true), [some (.cols 0 [.str fun _ => (⟨#[]⟩ : ByteArray), .fl .f32 fun _ => canon .f32 0, .fl .f32 fun _ => canon .f32 0, .fl .f32 fun _ => canon .f32 0, .fl .f32 fun _ => canon .f32 0, .fl .f32 fun _ => canon .f32 0, .fl .f32 fun _ => canon .f32 0, .fl .f32 fun _ => canon .f32 0])]) := by kernel_rfl
noncomputable def k_teEN : Ctr Try.prog := (k_teEN0.to run_teN (by
  intro args mem _
  unfold run_teN
  split
  · rw [teN0_ev]
    constructor
    intro Φ hΦ h
    exact (T.h_leaf (hΦ _ (.one (.sl 0 8 0 0 0 false), [some (.cols 0 [.str fun _ => (⟨#[]⟩ : ByteArray), .fl .f32 fun _ => canon .f32 0, .fl .f32 fun _ => canon .f32 0, .fl .f32 fun _ => canon .f32 0, .fl .f32 fun _ => canon .f32 0, .fl .f32 fun _ => canon .f32 0, .fl .f32 fun _ => canon .f32 0, .fl .f32 fun _ => canon .f32 0])]) ⟨⟨BlLe.refl _, trivial⟩, fun _ _ hv => hv⟩ h))
  · exact Weak.fail _)).own
noncomputable def k_teE : Ctr Try.prog := k_teE0.pick k_teEN (by kernel_rfl) nilArg

end Go.Proofs.Ytdmcpgbnomhahaa
