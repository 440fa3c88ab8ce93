/-
  Names, orbits and entries that are valid: both functions in the same words. No conditions.
-/
import Derived.Test.YtdmcpgbnomhahaaLx
import Derived.Test.YtdmcpgbnomhahaaFi
namespace Go.Proofs.Ytdmcpgbnomhahaa
set_option linter.unusedVariables false
set_option linter.unusedSimpArgs false
open Go.RowKit

def getStr : AV → Option ByteArray
  | .one (.str s) => some s
  | _ => none
theorem getStr_rel {a : AV} {s : ByteArray} (h : getStr a = some s) (ρ : Rho) (v : Value) (hv : a.rel ρ v) : (AV.one (.str s)).rel ρ v := by
  unfold getStr at h
  split at h
  · cases h; exact hv
  · cases h
def nameB (s : ByteArray) (j : Nat) : Bool := bif decide (byteAt s j < 97) then true else decide (122 < byteAt s j)
structure Cnms where
  s : ByteArray
def Cnms.base (c : Cnms) : Mem := []
structure Vnms where
  i : Int
noncomputable abbrev nmsRoot : Code := bodyOf Try.f65
def nms_st (c : Cnms) (v : Vnms) : FSt := ⟨[(0, .one (.str c.s)), (2, .one (.tt false)), (3, .one (.num .i64 v.i))], c.base ++ []⟩
def nms_step (c : Cnms) (v : Vnms) : T (Nx Vnms) :=
  .ite (decide (v.1 < ↑c.1.size)) (.need (decide (0 ≤ v.1 ∧ v.1 < ↑c.1.size)) (.need (bif decide (byteAt c.1 v.1.toNat < 97) then true else decide (0 ≤ v.1 ∧ v.1 < ↑c.1.size)) (.ite (bif decide (byteAt c.1 v.1.toNat < 97) then true else decide (122 < byteAt c.1 v.1.toNat)) (.leaf (.out (EX.ret) ⟨[(0, AV.one (SV.str c.1)), (2, AV.one (SV.tt false)), (3, AV.one (SV.num IntKind.i64 v.1))], c.base ++ []⟩)) (.leaf (.go { i := IntKind.i64.wrap (v.1 + 1) }))))) (.leaf (.out (EX.exit 0) ⟨[(0, AV.one (SV.str c.1)), (2, AV.one (SV.tt false)), (3, AV.one (SV.num IntKind.i64 v.1))], c.base ++ []⟩))
theorem nms_round (c : Cnms) (v : Vnms) : roundF Try.prog 28 [] nmsRoot [] c.base [0, 2, 3, 7, 19, 198] [0, 2, 3] 0 (nms_st c v) = (nms_step c v).map (nxF (nms_st c)) := by kernel_rfl
def nms_g (c : Cnms) (j : Nat) (a : Unit) : Unit := a
def nms_ok (c : Cnms) (v : Vnms) : Bool := decide (c.s.size ≤ 1099511627776 ∧ 0 ≤ v.i ∧ v.i ≤ ((c.s.size : Nat) : Int))
def nms_fin (c : Cnms) (a : Unit) : FSt := nms_st c ({ i := (c.s.size : Int) })
def nms_osv (c : Cnms) (v : Vnms) : FSt := ⟨[(0, AV.one (SV.str c.1)), (2, AV.one (SV.tt false)), (3, AV.one (SV.num IntKind.i64 v.1))], c.base ++ []⟩
def nms_ost (c : Cnms) (o : (Nat × (Unit))) : FSt := nms_osv c ((fun (j : Nat) (a : Unit) => ({ i := (j : Int) } : Vnms)) o.1 o.2)
def nms_it (c : Cnms) (k s : Nat) (a : Unit) : (Unit) ⊕ (Nat × (Unit)) := iterX (exitAt (nameB c.s) (nms_g c)) k s a
noncomputable def nms_R (x : Cnms × Vnms) : T (EX × FSt) := .need (nms_ok x.1 x.2) (.ite (isL (nms_it x.1 (x.1.s.size - x.2.i.toNat) x.2.i.toNat ())) (.leaf (.normal, nms_fin x.1 (valL () (nms_it x.1 (x.1.s.size - x.2.i.toNat) x.2.i.toNat ())))) (.leaf (.ret, nms_ost x.1 (valR (0, ()) (nms_it x.1 (x.1.s.size - x.2.i.toNat) x.2.i.toNat ())))))
theorem nms_tri (x : Cnms × Vnms) : TriR Try.prog 28 x.1.base (.block 0 (.loop (bodyB nmsRoot 0))) (nms_st x.1 x.2) (nms_R x) := by
  obtain ⟨c, v⟩ := x
  refine triR_of mix (root := nmsRoot) (by kernel_rfl) (by kernel_rfl) [0, 2, 3, 7, 19, 198] [0, 2, 3] (nms_st c) (nms_step c) (nms_round c) v _ ((c.s.size - v.i.toNat) + 1) (fun Φ h => ?_)
  have h0 := h.1
  have h3 : (isL (nms_it c (c.s.size - v.i.toNat) v.i.toNat ()) = true → Φ (.normal, nms_fin c (valL () (nms_it c (c.s.size - v.i.toNat) v.i.toNat ())))) ∧ (isL (nms_it c (c.s.size - v.i.toNat) v.i.toNat ()) = false → Φ (.ret, nms_ost c (valR (0, ()) (nms_it c (c.s.size - v.i.toNat) v.i.toNat ())))) := h.2
  simp only [nms_ok, decide_eq_true_eq] at h0
  obtain ⟨hk0, hi0, hin⟩ := h0
  have hv : v = (fun (j : Nat) (a : Unit) => ({ i := (j : Int) } : Vnms)) v.i.toNat () := by
    obtain ⟨i⟩ := v
    have hi0 : 0 ≤ i := hi0
    simp only [Int.toNat_of_nonneg hi0]
  have key := T_iterX (nms_step c) (fun (j : Nat) (a : Unit) => ({ i := (j : Int) } : Vnms)) c.s.size (exitAt (nameB c.s) (nms_g c)) (fun a => (.exit 0, nms_fin c a)) (fun o => (.ret, nms_ost c o)) (fun j a hj Ψ h1 h2 => ?_) (fun a Ψ hΨ => ?_) (fun a => by simp) (fun o => by simp) (c.s.size - v.i.toNat) v.i.toNat () (by omega) (fun r => Φ (blkEx 0 r.1, r.2)) (fun b hb => ?_) (fun o ho => ?_)
  · exact (congrArg (fun z => (loopTree (nms_step c) (c.s.size - v.i.toNat + 1) z).holds fun r => Φ (blkEx 0 r.1, r.2)) hv).mpr key
  · unfold nms_step
    refine (T.h_ite (fun _ => ?_) (fun hc => absurd hc (by simp <;> omega)))
    refine (T.h_need (by simp <;> omega) (T.h_need (needT fun c0 => (by simp <;> omega)) (T.h_ite (fun hc => (T.h_leaf (h2 (j, a) (by unfold exitAt; rw [show (nameB c.s) j = true from hc])))) (fun hc => ?_))))
    refine T.h_leaf ?_
    rw [wrap_next (by omega)]
    exact h1 (nms_g c j a) (by unfold exitAt; rw [show (nameB c.s) j = false from hc])
  · unfold nms_step
    refine (T.h_ite (fun hc => absurd hc (by simp <;> omega)) (fun _ => T.h_leaf hΨ))
  · have hb : nms_it c (c.s.size - v.i.toNat) v.i.toNat () = .inl b := hb
    have h4 := h3.1 (by rw [hb]; rfl)
    rw [hb] at h4
    simpa [blkEx, valL] using h4
  · have ho : nms_it c (c.s.size - v.i.toNat) v.i.toNat () = .inr o := ho
    have h4 := h3.2 (by rw [ho]; rfl)
    rw [ho] at h4
    simpa [blkEx, valR] using h4

def nms_dec (b : Mem) (f : FSt) : Option (Cnms × Vnms) :=
  match getStr (findF 0 f.sl), getFf (findF 2 f.sl), getI (findF 3 f.sl), id b, f.mem with
  | some s_, some (), some q_i, [], [] => some ({ s := s_ }, { i := q_i })
  | _, _, _, _, _ => none
theorem nms_dec_ok (b : Mem) (f : FSt) (x : Cnms × Vnms) (h : nms_dec b f = some x) : b = x.1.base ∧ FLe b f (nms_st x.1 x.2) := by
  unfold nms_dec at h
  split at h
  · rename_i e0 e1 e2 hb hm
    cases h
    have hb : b = _ := hb
    subst hb
    refine ⟨rfl, fle_of (fun p hp => ?_) (by rw [hm]; exact trivial)⟩
    simp only [List.mem_cons, List.not_mem_nil, or_false] at hp
    rcases hp with rfl | rfl | rfl
    · exact getStr_rel e0
    · exact getFf_rel e1
    · exact getI_rel e2
  · cases h
noncomputable def nms_sum : SumF Try.prog 28 nmsRoot :=
  sumL (pathB nmsRoot 0) nms_dec (fun x => x.1.base) (fun x => nms_st x.1 x.2) nms_R nms_dec_ok (by
    intro code hc x
    have hc2 : code = .block 0 (.loop (bodyB nmsRoot 0)) := by
      have h : subR nmsRoot (pathB nmsRoot 0) = some (.block 0 (.loop (bodyB nmsRoot 0))) := by kernel_rfl
      rw [h] at hc; cases hc; rfl
    subst hc2
    exact nms_tri x)

structure Cnmi where
  s : ByteArray
  l : Int
def Cnmi.base (c : Cnmi) : Mem := []
structure Vnmi where
  i : Int
noncomputable abbrev nmiRoot : Code := bodyOf Try.f71
def nmi_st (c : Cnmi) (v : Vnmi) : FSt := ⟨[(0, .one (.str c.s)), (2, .one (.tt false)), (5, .one (.num .i64 c.l)), (6, .one (.num .i64 v.i))], c.base ++ []⟩
def nmi_step (c : Cnmi) (v : Vnmi) : T (Nx Vnmi) :=
  .ite (decide (v.1 < c.2)) (.need (decide (0 ≤ v.1 ∧ v.1 < ↑c.1.size)) (.need (bif decide (byteAt c.1 v.1.toNat < 97) then true else decide (0 ≤ v.1 ∧ v.1 < ↑c.1.size)) (.ite (bif decide (byteAt c.1 v.1.toNat < 97) then true else decide (122 < byteAt c.1 v.1.toNat)) (.leaf (.out (EX.ret) ⟨[(0, AV.one (SV.str c.1)), (2, AV.one (SV.tt false)), (5, AV.one (SV.num IntKind.i64 c.2)), (6, AV.one (SV.num IntKind.i64 v.1))], c.base ++ []⟩)) (.leaf (.go { i := IntKind.i64.wrap (v.1 + 1) }))))) (.leaf (.out (EX.exit 0) ⟨[(0, AV.one (SV.str c.1)), (2, AV.one (SV.tt false)), (5, AV.one (SV.num IntKind.i64 c.2)), (6, AV.one (SV.num IntKind.i64 v.1))], c.base ++ []⟩))
theorem nmi_round (c : Cnmi) (v : Vnmi) : roundF Try.prog 28 [] nmiRoot [] c.base [0, 2, 3, 5, 6, 7, 18, 198] [0, 2, 5, 6] 0 (nmi_st c v) = (nmi_step c v).map (nxF (nmi_st c)) := by kernel_rfl
def nmi_g (c : Cnmi) (j : Nat) (a : Unit) : Unit := a
def nmi_ok (c : Cnmi) (v : Vnmi) : Bool := decide (c.s.size ≤ 1099511627776 ∧ c.l = (c.s.size : Int) ∧ 0 ≤ v.i ∧ v.i ≤ ((c.s.size : Nat) : Int))
def nmi_fin (c : Cnmi) (a : Unit) : FSt := nmi_st c ({ i := (c.s.size : Int) })
def nmi_osv (c : Cnmi) (v : Vnmi) : FSt := ⟨[(0, AV.one (SV.str c.1)), (2, AV.one (SV.tt false)), (5, AV.one (SV.num IntKind.i64 c.2)), (6, AV.one (SV.num IntKind.i64 v.1))], c.base ++ []⟩
def nmi_ost (c : Cnmi) (o : (Nat × (Unit))) : FSt := nmi_osv c ((fun (j : Nat) (a : Unit) => ({ i := (j : Int) } : Vnmi)) o.1 o.2)
def nmi_it (c : Cnmi) (k s : Nat) (a : Unit) : (Unit) ⊕ (Nat × (Unit)) := iterX (exitAt (nameB c.s) (nmi_g c)) k s a
noncomputable def nmi_R (x : Cnmi × Vnmi) : T (EX × FSt) := .need (nmi_ok x.1 x.2) (.ite (isL (nmi_it x.1 (x.1.s.size - x.2.i.toNat) x.2.i.toNat ())) (.leaf (.normal, nmi_fin x.1 (valL () (nmi_it x.1 (x.1.s.size - x.2.i.toNat) x.2.i.toNat ())))) (.leaf (.ret, nmi_ost x.1 (valR (0, ()) (nmi_it x.1 (x.1.s.size - x.2.i.toNat) x.2.i.toNat ())))))
theorem nmi_tri (x : Cnmi × Vnmi) : TriR Try.prog 28 x.1.base (.block 0 (.loop (bodyB nmiRoot 0))) (nmi_st x.1 x.2) (nmi_R x) := by
  obtain ⟨c, v⟩ := x
  refine triR_of mix (root := nmiRoot) (by kernel_rfl) (by kernel_rfl) [0, 2, 3, 5, 6, 7, 18, 198] [0, 2, 5, 6] (nmi_st c) (nmi_step c) (nmi_round c) v _ ((c.s.size - v.i.toNat) + 1) (fun Φ h => ?_)
  have h0 := h.1
  have h3 : (isL (nmi_it c (c.s.size - v.i.toNat) v.i.toNat ()) = true → Φ (.normal, nmi_fin c (valL () (nmi_it c (c.s.size - v.i.toNat) v.i.toNat ())))) ∧ (isL (nmi_it c (c.s.size - v.i.toNat) v.i.toNat ()) = false → Φ (.ret, nmi_ost c (valR (0, ()) (nmi_it c (c.s.size - v.i.toNat) v.i.toNat ())))) := h.2
  simp only [nmi_ok, decide_eq_true_eq] at h0
  obtain ⟨hk0, hk1, hi0, hin⟩ := h0
  have hv : v = (fun (j : Nat) (a : Unit) => ({ i := (j : Int) } : Vnmi)) v.i.toNat () := by
    obtain ⟨i⟩ := v
    have hi0 : 0 ≤ i := hi0
    simp only [Int.toNat_of_nonneg hi0]
  have key := T_iterX (nmi_step c) (fun (j : Nat) (a : Unit) => ({ i := (j : Int) } : Vnmi)) c.s.size (exitAt (nameB c.s) (nmi_g c)) (fun a => (.exit 0, nmi_fin c a)) (fun o => (.ret, nmi_ost c o)) (fun j a hj Ψ h1 h2 => ?_) (fun a Ψ hΨ => ?_) (fun a => by simp) (fun o => by simp) (c.s.size - v.i.toNat) v.i.toNat () (by omega) (fun r => Φ (blkEx 0 r.1, r.2)) (fun b hb => ?_) (fun o ho => ?_)
  · exact (congrArg (fun z => (loopTree (nmi_step c) (c.s.size - v.i.toNat + 1) z).holds fun r => Φ (blkEx 0 r.1, r.2)) hv).mpr key
  · unfold nmi_step
    refine (T.h_ite (fun _ => ?_) (fun hc => absurd hc (by simp <;> omega)))
    refine (T.h_need (by simp <;> omega) (T.h_need (needT fun c0 => (by simp <;> omega)) (T.h_ite (fun hc => (T.h_leaf (h2 (j, a) (by unfold exitAt; rw [show (nameB c.s) j = true from hc])))) (fun hc => ?_))))
    refine T.h_leaf ?_
    rw [wrap_next (by omega)]
    exact h1 (nmi_g c j a) (by unfold exitAt; rw [show (nameB c.s) j = false from hc])
  · unfold nmi_step
    refine (T.h_ite (fun hc => absurd hc (by simp <;> omega)) (fun _ => T.h_leaf hΨ))
  · have hb : nmi_it c (c.s.size - v.i.toNat) v.i.toNat () = .inl b := hb
    have h4 := h3.1 (by rw [hb]; rfl)
    rw [hb] at h4
    simpa [blkEx, valL] using h4
  · have ho : nmi_it c (c.s.size - v.i.toNat) v.i.toNat () = .inr o := ho
    have h4 := h3.2 (by rw [ho]; rfl)
    rw [ho] at h4
    simpa [blkEx, valR] using h4

def nmi_dec (b : Mem) (f : FSt) : Option (Cnmi × Vnmi) :=
  match getStr (findF 0 f.sl), getFf (findF 2 f.sl), getI (findF 5 f.sl), getI (findF 6 f.sl), id b, f.mem with
  | some s_, some (), some l_, some q_i, [], [] => some ({ s := s_, l := l_ }, { i := q_i })
  | _, _, _, _, _, _ => none
theorem nmi_dec_ok (b : Mem) (f : FSt) (x : Cnmi × Vnmi) (h : nmi_dec b f = some x) : b = x.1.base ∧ FLe b f (nmi_st x.1 x.2) := by
  unfold nmi_dec at h
  split at h
  · rename_i e0 e1 e2 e3 hb hm
    cases h
    have hb : b = _ := hb
    subst hb
    refine ⟨rfl, fle_of (fun p hp => ?_) (by rw [hm]; exact trivial)⟩
    simp only [List.mem_cons, List.not_mem_nil, or_false] at hp
    rcases hp with rfl | rfl | rfl | rfl
    · exact getStr_rel e0
    · exact getFf_rel e1
    · exact getI_rel e2
    · exact getI_rel e3
  · cases h
noncomputable def nmi_sum : SumF Try.prog 28 nmiRoot :=
  sumL (pathB nmiRoot 0) nmi_dec (fun x => x.1.base) (fun x => nmi_st x.1 x.2) nmi_R nmi_dec_ok (by
    intro code hc x
    have hc2 : code = .block 0 (.loop (bodyB nmiRoot 0)) := by
      have h : subR nmiRoot (pathB nmiRoot 0) = some (.block 0 (.loop (bodyB nmiRoot 0))) := by kernel_rfl
      rw [h] at hc; cases hc; rfl
    subst hc2
    exact nmi_tri x)

noncomputable def k_sNm0 : Ctr Try.prog := (mkF0 Try.prog mix [] 65 Try.f65 (bodyOf Try.f65) Try.func65 (by kernel_rfl) (by kernel_rfl) [0, 2, 3, 7, 19, 198] 28 (by kernel_rfl) (by kernel_rfl) [nms_sum]).mg
noncomputable def k_iNm0 : Ctr Try.prog := (mkF0 Try.prog mix [] 71 Try.f71 (bodyOf Try.f71) Try.func71 (by kernel_rfl) (by kernel_rfl) [0, 2, 3, 5, 6, 7, 18, 198] 28 (by kernel_rfl) (by kernel_rfl) [nmi_sum]).mg
noncomputable def k_en_s_l02Above : Ctr Try.prog := (mkF Try.prog mix [k_l01Finite] 66 Try.f66 (bodyOf Try.f66) Try.func66 (by kernel_rfl) (by kernel_rfl) [0, 2] 9 (by kernel_rfl) (by kernel_rfl)).mg
noncomputable def k_en_s_l03Turn : Ctr Try.prog := (mkF Try.prog mix [] 96 Try.f96 (bodyOf Try.f96) Try.func96 (by kernel_rfl) (by kernel_rfl) [0, 2] 9 (by kernel_rfl) (by kernel_rfl)).mg
noncomputable def k_en_s_l03Is : Ctr Try.prog := (mkF Try.prog mix [k_l01Finite, k_en_s_l03Turn] 67 Try.f67 (bodyOf Try.f67) Try.func67 (by kernel_rfl) (by kernel_rfl) [0, 2, 47, 52] 98 (by kernel_rfl) (by kernel_rfl)).mg
noncomputable def k_en_i_aLength : Ctr Try.prog := (mkF Try.prog mix [k_IsFinite] 63 Try.f63 (bodyOf Try.f63) Try.func63 (by kernel_rfl) (by kernel_rfl) [0, 2] 9 (by kernel_rfl) (by kernel_rfl)).mg
noncomputable def k_en_i_areFiniteD1 : Ctr Try.prog := (mkF Try.prog mix [k_IsFinite] 91 Try.f91 (bodyOf Try.f91) Try.func91 (by kernel_rfl) (by kernel_rfl) [0, 2] 6 (by kernel_rfl) (by kernel_rfl)).mg
noncomputable def k_en_g_slices_IndexFunc_float32_i_areFinite : Ctr Try.prog := (mkF Try.prog mix [k_en_i_areFiniteD1] 107 Try.f107 (bodyOf Try.f107) Try.func107 (by kernel_rfl) (by kernel_rfl) [0, 1, 4, 5, 7, 8, 9, 16] 19 (by kernel_rfl) (by kernel_rfl)).mg
noncomputable def k_en_g_slices_ContainsFunc_float32_i_areFinite : Ctr Try.prog := (mkF Try.prog mix [k_en_g_slices_IndexFunc_float32_i_areFinite, k_en_i_areFiniteD1] 90 Try.f90 (bodyOf Try.f90) Try.func90 (by kernel_rfl) (by kernel_rfl) [0, 1, 4] 9 (by kernel_rfl) (by kernel_rfl)).mg
noncomputable def k_en_i_areFinite : Ctr Try.prog := (mkF Try.prog mix [k_en_i_areFiniteD1, k_en_g_slices_ContainsFunc_float32_i_areFinite] 57 Try.f57 (bodyOf Try.f57) Try.func57 (by kernel_rfl) (by kernel_rfl) [0, 2] 6 (by kernel_rfl) (by kernel_rfl)).mg
noncomputable def k_en_i_isTurn : Ctr Try.prog := (mkF Try.prog mix [] 98 Try.f98 (bodyOf Try.f98) Try.func98 (by kernel_rfl) (by kernel_rfl) [0, 2] 9 (by kernel_rfl) (by kernel_rfl)).mg
noncomputable def k_en_i_Orbit_isEllipse : Ctr Try.prog := (mkF Try.prog mix [k_en_i_isTurn] 99 Try.f99 (bodyOf Try.f99) Try.func99 (by kernel_rfl) (by kernel_rfl) [0, 1, 2] 21 (by kernel_rfl) (by kernel_rfl)).mg
noncomputable def k_en_i_Orbit_isBranch : Ctr Try.prog := (mkF Try.prog mix [] 100 Try.f100 (bodyOf Try.f100) Try.func100 (by kernel_rfl) (by kernel_rfl) [0, 1, 2] 21 (by kernel_rfl) (by kernel_rfl)).mg
noncomputable def k_en_i_ValidOrbit : Ctr Try.prog := (mkF Try.prog mix [k_en_i_areFinite, k_en_i_isTurn, k_en_i_Orbit_isEllipse, k_en_i_Orbit_isBranch] 72 Try.f72 (bodyOf Try.f72) Try.func72 (by kernel_rfl) (by kernel_rfl) [0, 1, 2] 45 (by kernel_rfl) (by kernel_rfl)).mg
def nameOK (s : ByteArray) : Bool := bif noneIn (nameB s) s.size 0 then bif decide (1 ≤ (s.size : Int)) then decide ((s.size : Int) ≤ 8) else false else false
def run_nm : List AV → Mem → T Res
  | [.one (.str s)], [] => .need (decide (s.size ≤ 1099511627776)) (.leaf (.one (.bo (nameOK s)), []))
  | _, _ => .fail
theorem sNm0_ev (s : ByteArray) : k_sNm0.run [.one (.str s)] [] =
    .need (nms_ok { s := s } { i := 0 }) (.leaf (.one (.bo (bif isL (nms_it { s := s } s.size 0 ()) then bif decide (1 ≤ (s.size : Int)) then decide ((s.size : Int) ≤ 8) else false else false)), [])) := by kernel_rfl
noncomputable def k_sNm : Ctr Try.prog := (k_sNm0.to run_nm (by
  intro args mem _
  unfold run_nm
  split
  · rename_i s _
    rw [sNm0_ev]
    constructor
    intro Φ hΦ h
    have hs := of_decide_eq_true h.1
    have e : isL (nms_it { s := s } s.size 0 ()) = noneIn (nameB s) s.size 0 := (exitAt_iter _ (nms_g { s := s }) () s.size 0 ()).1
    rw [e]
    exact T.h_need (decide_eq_true ⟨hs, Int.le_refl 0, Int.natCast_nonneg _⟩) (T.h_leaf h.2)
  · exact Weak.fail _)).own
theorem iNm0_ev (s : ByteArray) : k_iNm0.run [.one (.str s)] [] =
    .need (nmi_ok { s := s, l := (s.size : Int) } { i := 0 }) (.leaf (.one (.bo (bif isL (nmi_it { s := s, l := (s.size : Int) } s.size 0 ()) then bif decide (1 ≤ (s.size : Int)) then decide ((s.size : Int) ≤ 8) else false else false)), [])) := by kernel_rfl
noncomputable def k_iNm : Ctr Try.prog := (k_iNm0.to run_nm (by
  intro args mem _
  unfold run_nm
  split
  · rename_i s _
    rw [iNm0_ev]
    constructor
    intro Φ hΦ h
    have hs := of_decide_eq_true h.1
    have e : isL (nmi_it { s := s, l := (s.size : Int) } s.size 0 ()) = noneIn (nameB s) s.size 0 := (exitAt_iter _ (nmi_g { s := s, l := (s.size : Int) }) () s.size 0 ()).1
    rw [e]
    exact T.h_need (decide_eq_true ⟨hs, rfl, Int.le_refl 0, Int.natCast_nonneg _⟩) (T.h_leaf h.2)
  · exact Weak.fail _)).own
theorem num_of {c : Nat} (h : fin .f32 c = true) : ∃ s m e, FloatKind.f32.format.read c = .number s m e := by
  rcases rd_cases .f32 c with ⟨_, h1⟩ | ⟨h1, _⟩ | ⟨h1, _⟩
  · exact h1
  · rw [h] at h1; cases h1
  · rw [h] at h1; cases h1
theorem rng {x a b : Nat} (ha : fin .f32 a = true) (hb : fin .f32 b = true) (h1 : FloatKind.f32.format.order x a = some .gt ∨ FloatKind.f32.format.order x a = some .eq) (h2 : FloatKind.f32.format.order x b = some .lt ∨ FloatKind.f32.format.order x b = some .eq) : fin .f32 x = true := by
  obtain ⟨s1, m1, e1, ra⟩ := num_of ha
  obtain ⟨s2, m2, e2, rb⟩ := num_of hb
  rcases rd_cases .f32 x with ⟨h, _⟩ | ⟨_, _, s, hs⟩ | ⟨_, _, s, f, hs⟩
  · exact h
  · exfalso
    simp only [Ieee.Format.order, hs, ra, rb, Ieee.Datum.order] at h1 h2
    cases s <;> simp at h1 h2
  · exfalso
    simp only [Ieee.Format.order, hs, ra, rb, Ieee.Datum.order] at h1 h2
    simp at h1
theorem ge_out {x a : Nat} (h : fge .f32 x a = true) : FloatKind.f32.format.order x a = some .gt ∨ FloatKind.f32.format.order x a = some .eq := by
  unfold fge at h
  simpa using h
theorem le_out {x a : Nat} (h : fle .f32 x a = true) : FloatKind.f32.format.order x a = some .lt ∨ FloatKind.f32.format.order x a = some .eq := by
  unfold fle at h
  simpa using h
theorem lt_out {x a : Nat} (h : flt .f32 x a = true) : FloatKind.f32.format.order x a = some .lt ∨ FloatKind.f32.format.order x a = some .eq := by
  unfold flt at h
  exact .inl (by simpa using h)
theorem gt_lt {x a : Nat} (h : fgt .f32 x a = true) : flt .f32 x a = false := by
  unfold fgt at h
  unfold flt
  have h : FloatKind.f32.format.order x a = some .gt := by simpa using h
  rw [h]; rfl
def orS (L0 R0 T1 T2 N1 N2 P1 P2 lg rg rl f1 f2 ll rr g1 g2 : Bool) : Bool :=
  bif bif !L0 then true else bif !R0 then true else bif T1 then bif !T2 then true else bif !bif N1 then N2 else false then true else !bif P1 then P2 else false else true then false else bif lg then bif rg then bif rl then bif f1 then f2 else false else false else false else bif ll then bif rr then bif g1 then g2 else false else false else false
def orI (L0 R0 T0 N0 P0 F0 T1 T2 N1 N2 P1 P2 lg rg rl f1 f2 ll rr g1 g2 : Bool) : Bool :=
  bif !decide (0 ≤ bif !L0 then 0 else bif !R0 then IntKind.i64.wrap (0 + 1) else bif !T0 then IntKind.i64.wrap (IntKind.i64.wrap (0 + 1) + 1) else bif !N0 then IntKind.i64.wrap (IntKind.i64.wrap (IntKind.i64.wrap (0 + 1) + 1) + 1) else bif !P0 then IntKind.i64.wrap (IntKind.i64.wrap (IntKind.i64.wrap (IntKind.i64.wrap (0 + 1) + 1) + 1) + 1) else bif !F0 then IntKind.i64.wrap (IntKind.i64.wrap (IntKind.i64.wrap (IntKind.i64.wrap (IntKind.i64.wrap (0 + 1) + 1) + 1) + 1) + 1) else -1) then bif T1 then bif T2 then bif bif N1 then N2 else false then bif bif P1 then P2 else false then bif bif lg then bif rg then bif rl then bif f1 then f2 else false else false else false else false then true else bif ll then bif rr then bif g1 then g2 else false else false else false else false else false else false else false else false
theorem or_eq (L0 R0 T0 N0 P0 F0 T1 T2 N1 N2 P1 P2 lg rg rl f1 f2 ll rr g1 g2 : Bool) (hT : T1 = true → T2 = true → T0 = true) (hN : N1 = true → N2 = true → N0 = true) (hP : P1 = true → P2 = true → P0 = true) (hF : f1 = true → f2 = true → F0 = true) (hG : g1 = true → g2 = true → F0 = true) (hl : lg = true → ll = false) :
    orI L0 R0 T0 N0 P0 F0 T1 T2 N1 N2 P1 P2 lg rg rl f1 f2 ll rr g1 g2 = orS L0 R0 T1 T2 N1 N2 P1 P2 lg rg rl f1 f2 ll rr g1 g2 := by
  cases L0 with
  | false => rfl
  | true =>
  cases R0 with
  | false => rfl
  | true =>
  cases T1 with
  | false => cases T0 <;> cases N0 <;> cases P0 <;> cases F0 <;> rfl
  | true =>
  cases T2 with
  | false => cases T0 <;> cases N0 <;> cases P0 <;> cases F0 <;> rfl
  | true =>
  obtain rfl : T0 = true := hT rfl rfl
  cases N1 with
  | false => cases N0 <;> cases P0 <;> cases F0 <;> rfl
  | true =>
  cases N2 with
  | false => cases N0 <;> cases P0 <;> cases F0 <;> rfl
  | true =>
  obtain rfl : N0 = true := hN rfl rfl
  cases P1 with
  | false => cases P0 <;> cases F0 <;> rfl
  | true =>
  cases P2 with
  | false => cases P0 <;> cases F0 <;> rfl
  | true =>
  obtain rfl : P0 = true := hP rfl rfl
  cases lg with
  | true =>
    obtain rfl : ll = false := hl rfl
    cases rg with
    | false => cases F0 <;> rfl
    | true =>
    cases rl with
    | false => cases F0 <;> rfl
    | true =>
    cases f1 with
    | false => cases F0 <;> rfl
    | true =>
    cases f2 with
    | false => cases F0 <;> rfl
    | true =>
    obtain rfl : F0 = true := hF rfl rfl
    rfl
  | false =>
    cases ll with
    | false => cases F0 <;> rfl
    | true =>
    cases rr with
    | false => cases F0 <;> rfl
    | true =>
    cases g1 with
    | false => cases F0 <;> rfl
    | true =>
    cases g2 with
    | false => cases F0 <;> rfl
    | true =>
    obtain rfl : F0 = true := hG rfl rfl
    rfl
def orbOK (x0 x1 x2 x3 x4 x5 : Nat) : Bool := orS (fin .f32 x0) (fin .f32 x1) (fge .f32 x2 (canon .f32 0)) (fle .f32 x2 (canon .f32 1056964608)) (fge .f32 x3 (canon .f32 0)) (flt .f32 x3 (canon .f32 1065353216)) (fge .f32 x4 (canon .f32 0)) (flt .f32 x4 (canon .f32 1065353216)) (fgt .f32 x0 (canon .f32 0)) (fge .f32 x1 (canon .f32 0)) (flt .f32 x1 (canon .f32 1065353216)) (fge .f32 x5 (canon .f32 0)) (flt .f32 x5 (canon .f32 1065353216)) (flt .f32 x0 (canon .f32 0)) (fgt .f32 x1 (canon .f32 1065353216)) (fge .f32 x5 (canon .f32 3246391296)) (fle .f32 x5 (canon .f32 1098907648))
def run_orI : List AV → Mem → T Res
  | [.agg [.fl .f32 x0, .fl .f32 x1, .fl .f32 x2, .fl .f32 x3, .fl .f32 x4, .fl .f32 x5]], _ => .leaf (.one (.bo (orbOK x0 x1 x2 x3 x4 x5)), [])
  | _, _ => .fail
theorem orI_ev (x0 x1 x2 x3 x4 x5 : Nat) (mem : Mem) : k_en_i_ValidOrbit.run [.agg [.fl .f32 x0, .fl .f32 x1, .fl .f32 x2, .fl .f32 x3, .fl .f32 x4, .fl .f32 x5]] mem = .leaf (.one (.bo (orI (fin .f32 x0) (fin .f32 x1) (fin .f32 x2) (fin .f32 x3) (fin .f32 x4) (fin .f32 x5) (fge .f32 x2 (canon .f32 0)) (fle .f32 x2 (canon .f32 1056964608)) (fge .f32 x3 (canon .f32 0)) (flt .f32 x3 (canon .f32 1065353216)) (fge .f32 x4 (canon .f32 0)) (flt .f32 x4 (canon .f32 1065353216)) (fgt .f32 x0 (canon .f32 0)) (fge .f32 x1 (canon .f32 0)) (flt .f32 x1 (canon .f32 1065353216)) (fge .f32 x5 (canon .f32 0)) (flt .f32 x5 (canon .f32 1065353216)) (flt .f32 x0 (canon .f32 0)) (fgt .f32 x1 (canon .f32 1065353216)) (fge .f32 x5 (canon .f32 3246391296)) (fle .f32 x5 (canon .f32 1098907648)))), []) := by kernel_rfl
noncomputable def k_ValidOrbit : Ctr Try.prog := k_en_i_ValidOrbit.to run_orI (by
  intro args mem _
  unfold run_orI
  split
  · rename_i x0 x1 x2 x3 x4 x5 _
    rw [orI_ev, or_eq _ _ _ _ _ _ _ _ _ _ _ _ _ _ _ _ _ _ _ _ _ (fun h1 h2 => rng (by decide) (by decide) (ge_out h1) (le_out h2)) (fun h1 h2 => rng (by decide) (by decide) (ge_out h1) (lt_out h2)) (fun h1 h2 => rng (by decide) (by decide) (ge_out h1) (lt_out h2)) (fun h1 h2 => rng (by decide) (by decide) (ge_out h1) (lt_out h2)) (fun h1 h2 => rng (by decide) (by decide) (ge_out h1) (le_out h2)) gt_lt]
    exact Weak.of_eq rfl
  · exact Weak.fail _)
noncomputable def k_en_sEntry : Ctr Try.prog := (mkF0 Try.prog mix [k_sNm, k_en_s_l02Above, k_en_s_l03Is] 37 Try.f37 (bodyOf Try.f37) Try.func37 (by kernel_rfl) (by kernel_rfl) [0, 2, 198] 21 (by kernel_rfl) (by kernel_rfl) []).mg
noncomputable def k_iVe0 : Ctr Try.prog := (mkF0 Try.prog mix [k_iNm, k_en_i_aLength, k_ValidOrbit] 40 Try.f40 (bodyOf Try.f40) Try.func40 (by kernel_rfl) (by kernel_rfl) [0, 1, 2, 198] 16 (by kernel_rfl) (by kernel_rfl) []).mg
def posB (w : Nat) : Bool := bif fin .f32 w then fgt .f32 w (canon .f32 0) else false
def entOK (s : ByteArray) (w x0 x1 x2 x3 x4 x5 : Nat) : Bool := bif nameOK s then bif posB w then orbOK x0 x1 x2 x3 x4 x5 else false else false
def run_ve : List AV → Mem → T Res
  | [.agg [.str s, .fl .f32 w, .fl .f32 x0, .fl .f32 x1, .fl .f32 x2, .fl .f32 x3, .fl .f32 x4, .fl .f32 x5]], [] => .need (decide (s.size ≤ 1099511627776)) (.leaf (.one (.bo (entOK s w x0 x1 x2 x3 x4 x5)), []))
  | _, _ => .fail
theorem iVe0_ev (s : ByteArray) (w x0 x1 x2 x3 x4 x5 : Nat) : k_iVe0.run [.agg [.str s, .fl .f32 w, .fl .f32 x0, .fl .f32 x1, .fl .f32 x2, .fl .f32 x3, .fl .f32 x4, .fl .f32 x5]] [] = .need (decide (s.size ≤ 1099511627776)) (.leaf (.one (.bo (entOK s w x0 x1 x2 x3 x4 x5)), [])) := by kernel_rfl
noncomputable def k_iVe : Ctr Try.prog := (k_iVe0.to run_ve (by
  intro args mem _
  unfold run_ve
  split
  · exact Weak.of_eq (iVe0_ev _ _ _ _ _ _ _ _)
  · exact Weak.fail _)).own

end Go.Proofs.Ytdmcpgbnomhahaa
