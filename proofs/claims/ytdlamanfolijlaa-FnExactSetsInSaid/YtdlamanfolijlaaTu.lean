/-
  RisesIn, SetsIn: both functions in the same words. No conditions.
-/
import Derived.Test.YtdlamanfolijlaaLx
import Derived.Test.YtdlamanfolijlaaBo
namespace Go.Proofs.Ytdlamanfolijlaa
set_option linter.unusedVariables false
set_option linter.unusedSimpArgs false
open Go.RowKit

def getTo : AV → Option Bool
  | .one (.tt b) => some b
  | .one (.bo b) => some b
  | _ => none
theorem getTo_rel {a : AV} {b : Bool} (h : getTo a = some b) (ρ : Rho) (v : Value) (hv : a.rel ρ v) : (AV.one (.bo b)).rel ρ v := by
  unfold getTo at h
  split at h
  · cases h; exact hv
  · cases h; exact hv
  · cases h
structure Cts where
  n : Nat
  m : Nat
  f0 : Nat → Bool
  to : Bool
def Cts.base (c : Cts) : Mem := [some (.cols c.m [.bo c.f0])]
structure Vts where
  i : Int
  n : Nat
  a : Nat → Int
noncomputable abbrev tsRoot : Code := bodyOf Try.f57
def ts_st (c : Cts) (v : Vts) : FSt := ⟨[(0, .one (.su 0 1 0 c.n false)), (1, .one (.bo c.to)), (5, .one (.so 1 1 v.n 2)), (6, .one (.num .i64 v.i))], c.base ++ [some (.grow v.n [.num .i64 v.a] 2 2), none]⟩
def ts_step (c : Cts) (v : Vts) : T (Nx Vts) :=
  .ite (decide (v.1 < ↑c.1)) (.need (decide (0 ≤ v.1) && decide (v.1 < ↑c.1)) (.need (decide (v.1.toNat + 0 < c.2)) (.need (bif c.3 (v.1.toNat + 0) == c.4 then decide (0 ≤ IntKind.i64.wrap (v.1 - 1)) && decide (IntKind.i64.wrap (v.1 - 1) < ↑c.1) else true) (.need (bif c.3 (v.1.toNat + 0) == c.4 then decide ((IntKind.i64.wrap (v.1 - 1)).toNat + 0 < c.2) else true) (.need (bif bif c.3 (v.1.toNat + 0) == c.4 then c.3 ((IntKind.i64.wrap (v.1 - 1)).toNat + 0) != c.4 else false then decide (v.2 ≤ v.2) else true) (.need (bif bif c.3 (v.1.toNat + 0) == c.4 then c.3 ((IntKind.i64.wrap (v.1 - 1)).toNat + 0) != c.4 else false then decide (0 < 1) else true) (.need (bif bif c.3 (v.1.toNat + 0) == c.4 then c.3 ((IntKind.i64.wrap (v.1 - 1)).toNat + 0) != c.4 else false then decide (v.2 + 1 ≤ 1073741824) else true) (.ite (bif c.3 (v.1.toNat + 0) == c.4 then c.3 ((IntKind.i64.wrap (v.1 - 1)).toNat + 0) != c.4 else false) (.leaf (.go { i := IntKind.i64.wrap (v.1 + 1), n := v.n + 1, a := fun q => if q = v.n then v.i else v.a q })) (.leaf (.go { i := IntKind.i64.wrap (v.1 + 1), n := v.n, a := v.a })))))))))) (.leaf (.out (EX.exit 0) ⟨[(0, AV.one (SV.su 0 1 0 c.1 false)), (1, AV.one (SV.bo c.4)), (5, AV.one (SV.so 1 1 v.n 2)), (6, AV.one (SV.num IntKind.i64 v.1))], c.base ++ [some (.grow v.n [.num .i64 v.a] 2 2), none]⟩))
theorem ts_round (c : Cts) (v : Vts) : roundF Try.prog 34 [] tsRoot [] c.base [0, 1, 4, 5, 6, 11, 28, 198] [0, 1, 5, 6] 0 (ts_st c v) = (ts_step c v).map (nxF (ts_st c)) := by kernel_rfl
def trB (f : Nat → Bool) (to : Bool) (j : Nat) : Bool := (bif f j == to then f ((IntKind.i64.wrap ((j : Int) - 1)).toNat + 0) != to else false)
def trG (f : Nat → Bool) (to : Bool) (j : Nat) (a : Nat × (Nat → Int)) : Nat × (Nat → Int) := bif trB f to j then (a.1 + 1, fun q => if q = a.1 then (j : Int) else a.2 q) else a
theorem trG_le (f : Nat → Bool) (to : Bool) (j : Nat) (a : Nat × (Nat → Int)) (h : a.1 ≤ j) : (trG f to j a).1 ≤ j + 1 := by
  unfold trG
  cases trB f to j with
  | true => show a.1 + 1 ≤ j + 1; omega
  | false => show a.1 ≤ j + 1; omega
theorem tr_iter (f : Nat → Bool) (to : Bool) : ∀ (c s : Nat) (a : Nat × (Nat → Int)), a.1 ≤ s → (iter (trG f to) c s a).1 ≤ s + c
  | 0, s, a, h => h
  | c + 1, s, a, h => by
    have := tr_iter f to c (s + 1) (trG f to s a) (trG_le f to s a h)
    show (iter (trG f to) c (s + 1) (trG f to s a)).1 ≤ s + (c + 1)
    omega
def ts_g (c : Cts) (j : Nat) (a : Nat × (Nat → Int)) : Nat × (Nat → Int) := trG c.f0 c.to j a
def ts_ok (c : Cts) (v : Vts) : Bool := decide (c.n ≤ c.m ∧ c.n ≤ 64 ∧ 1 ≤ v.i ∧ v.n ≤ v.i.toNat ∧ 0 ≤ v.i ∧ v.i ≤ (((max c.n 1) : Nat) : Int))
def ts_fin (c : Cts) (a : Nat × (Nat → Int)) : FSt := ts_st c ({ i := (((max c.n 1) : Nat) : Int), n := a.1, a := a.2 })
noncomputable def ts_R (x : Cts × Vts) : T (EX × FSt) := .need (ts_ok x.1 x.2) (.leaf (.normal, ts_fin x.1 (iter (ts_g x.1) ((max x.1.n 1) - x.2.i.toNat) x.2.i.toNat (x.2.n, x.2.a))))
theorem ts_tri (x : Cts × Vts) : TriR Try.prog 34 x.1.base (.block 0 (.loop (bodyB tsRoot 0))) (ts_st x.1 x.2) (ts_R x) := by
  obtain ⟨c, v⟩ := x
  refine triR_of mix (root := tsRoot) (by kernel_rfl) (by kernel_rfl) [0, 1, 4, 5, 6, 11, 28, 198] [0, 1, 5, 6] (ts_st c) (ts_step c) (ts_round c) v _ (((max c.n 1) - v.i.toNat) + 1) (fun Φ h => ?_)
  have h0 := h.1
  have h1 : Φ (.normal, ts_fin c (iter (ts_g c) ((max c.n 1) - v.i.toNat) v.i.toNat (v.n, v.a))) := h.2
  simp only [ts_ok, decide_eq_true_eq] at h0
  obtain ⟨hk0, hk1, hk2, hk3, hi0, hin⟩ := h0
  have hv : v = (fun (j : Nat) (a : Nat × (Nat → Int)) => ({ i := ((j : Nat) : Int), n := a.1, a := a.2 } : Vts)) v.i.toNat (v.n, v.a) := by
    obtain ⟨i, n, a⟩ := v
    have hi0 : 0 ≤ i := hi0
    simp only [Int.toNat_of_nonneg hi0]
  have key := T_iterI (ts_step c) (fun (j : Nat) (a : Nat × (Nat → Int)) => ({ i := ((j : Nat) : Int), n := a.1, a := a.2 } : Vts)) (max c.n 1) (ts_g c) (fun a => (.exit 0, ts_fin c a)) (fun (j : Nat) (a : Nat × (Nat → Int)) => 1 ≤ j ∧ a.1 ≤ j) (fun j a hj hI => ?_) (fun j a hj hI Ψ hΨ => ?_) (fun a Ψ hΨ => ?_) (fun a => by simp) ((max c.n 1) - v.i.toNat) v.i.toNat (v.n, v.a) (by omega) ?_ (fun r => Φ (blkEx 0 r.1, r.2)) (by simpa [blkEx] using h1)
  · exact (congrArg (fun z => (loopTree (ts_step c) ((max c.n 1) - v.i.toNat + 1) z).holds fun r => Φ (blkEx 0 r.1, r.2)) hv).mpr key
  · exact ⟨by omega, trG_le c.f0 c.to j a hI.2⟩
  · unfold ts_step
    refine (T.h_ite (fun _ => ?_) (fun hc => absurd hc (by simp <;> omega)))
    refine (T.h_need (by simp <;> omega) (T.h_need (by simp <;> omega) (T.h_need (needE fun c0 => (by rw [IntWalk.i64_in _ (by simp <;> omega)]; simp <;> omega)) (T.h_need (needE fun c0 => (by rw [IntWalk.i64_in _ (by simp <;> omega)]; simp <;> omega)) (T.h_need (needE fun c0 => (by simp <;> omega)) (T.h_need (needE fun c0 => (by simp <;> omega)) (T.h_need (needE fun c0 => (decide_eq_true (by show a.1 + 1 ≤ 1073741824; omega))) (T.h_ite (fun hc => (T.h_leaf ?_)) (fun hc => (T.h_leaf ?_))))))))))
    · rw [wrap_next (by omega)]
      have e : trG c.f0 c.to j a = (a.1 + 1, fun q => if q = a.1 then (j : Int) else a.2 q) := by unfold trG; rw [show trB c.f0 c.to j = true from hc]; rfl
      rw [show ts_g c j a = trG c.f0 c.to j a from rfl, e] at hΨ
      exact hΨ
    · rw [wrap_next (by omega)]
      have e : trG c.f0 c.to j a = a := by unfold trG; rw [show trB c.f0 c.to j = false from hc]; rfl
      rw [show ts_g c j a = trG c.f0 c.to j a from rfl, e] at hΨ
      exact hΨ
  · unfold ts_step
    refine (T.h_ite (fun hc => absurd hc (by simp <;> omega)) (fun _ => T.h_leaf hΨ))
  · exact ⟨by omega, hk3⟩

def ts_dec (b : Mem) (f : FSt) : Option (Cts × Vts) :=
  match getSu 0 1 (findF 0 f.sl), getTo (findF 1 f.sl), getI (findF 6 f.sl), getSo 1 1 2 (findF 5 f.sl), id b, f.mem with
  | some (0, n_), some to_, some q_i, some q_n, [some (.cols m_ [.bo f0_])], [_, some (.grow r_n [.num .i64 q_a] 2 2), none] => if q_n = r_n then some ({ n := n_, m := m_, f0 := f0_, to := to_ }, { i := q_i, n := q_n, a := q_a }) else none
  | _, _, _, _, _, _ => none
theorem ts_dec_ok (b : Mem) (f : FSt) (x : Cts × Vts) (h : ts_dec b f = some x) : b = x.1.base ∧ FLe b f (ts_st x.1 x.2) := by
  unfold ts_dec at h
  split at h
  · rename_i e0 e1 e2 e3 hb hm
    obtain ⟨hbo, h9⟩ := ite_some h
    clear h
    subst hbo
    have h := h9
    cases h
    have hb : b = _ := hb
    subst hb
    refine ⟨rfl, fle_of (fun p hp => ?_) (by rw [hm]; exact memLe_refl _)⟩
    simp only [List.mem_cons, List.not_mem_nil, or_false] at hp
    rcases hp with rfl | rfl | rfl | rfl
    · exact getSu_rel e0
    · exact getTo_rel e1
    · exact getSo_rel e3
    · exact getI_rel e2
  · cases h
noncomputable def ts_sum : SumF Try.prog 34 tsRoot :=
  sumL (pathB tsRoot 0) ts_dec (fun x => x.1.base) (fun x => ts_st x.1 x.2) ts_R ts_dec_ok (by
    intro code hc x
    have hc2 : code = .block 0 (.loop (bodyB tsRoot 0)) := by
      have h : subR tsRoot (pathB tsRoot 0) = some (.block 0 (.loop (bodyB tsRoot 0))) := by kernel_rfl
      rw [h] at hc; cases hc; rfl
    subst hc2
    exact ts_tri x)

structure Cti where
  n : Nat
  m : Nat
  f0 : Nat → Bool
  to : Bool
def Cti.base (c : Cti) : Mem := [some (.cols c.m [.bo c.f0])]
structure Vti where
  i : Int
  n : Nat
  a : Nat → Int
noncomputable abbrev tiRoot : Code := bodyOf Try.f58
def ti_st (c : Cti) (v : Vti) : FSt := ⟨[(0, .one (.su 0 1 0 c.n false)), (1, .one (.bo c.to)), (4, .one (.val (.slice none 0 0))), (5, .one (.tt false)), (6, .one (.so 1 1 v.n 2)), (7, .one (.num .i64 v.i))], c.base ++ [some (.grow v.n [.num .i64 v.a] 2 2), none]⟩
def ti_step (c : Cti) (v : Vti) : T (Nx Vti) :=
  .ite (decide (v.1 < ↑c.1)) (.need (decide (0 ≤ v.1) && decide (v.1 < ↑c.1)) (.need (decide (v.1.toNat + 0 < c.2)) (.need (bif c.3 (v.1.toNat + 0) == c.4 then decide (0 ≤ IntKind.i64.wrap (v.1 - 1)) && decide (IntKind.i64.wrap (v.1 - 1) < ↑c.1) else true) (.need (bif c.3 (v.1.toNat + 0) == c.4 then decide ((IntKind.i64.wrap (v.1 - 1)).toNat + 0 < c.2) else true) (.need (bif bif c.3 (v.1.toNat + 0) == c.4 then c.3 ((IntKind.i64.wrap (v.1 - 1)).toNat + 0) != c.4 else false then decide (v.2 ≤ v.2) else true) (.need (bif bif c.3 (v.1.toNat + 0) == c.4 then c.3 ((IntKind.i64.wrap (v.1 - 1)).toNat + 0) != c.4 else false then decide (0 < 1) else true) (.need (bif bif c.3 (v.1.toNat + 0) == c.4 then c.3 ((IntKind.i64.wrap (v.1 - 1)).toNat + 0) != c.4 else false then decide (v.2 + 1 ≤ 1073741824) else true) (.ite (bif c.3 (v.1.toNat + 0) == c.4 then c.3 ((IntKind.i64.wrap (v.1 - 1)).toNat + 0) != c.4 else false) (.leaf (.go { i := IntKind.i64.wrap (v.1 + 1), n := v.n + 1, a := fun q => if q = v.n then v.i else v.a q })) (.leaf (.go { i := IntKind.i64.wrap (v.1 + 1), n := v.n, a := v.a })))))))))) (.leaf (.out (EX.exit 0) ⟨[(0, AV.one (SV.su 0 1 0 c.1 false)), (1, AV.one (SV.bo c.4)), (4, AV.one (SV.val (Value.slice none 0 0))), (5, AV.one (SV.tt false)), (6, AV.one (SV.so 1 1 v.n 2)), (7, AV.one (SV.num IntKind.i64 v.1))], c.base ++ [some (.grow v.n [.num .i64 v.a] 2 2), none]⟩))
theorem ti_round (c : Cti) (v : Vti) : roundF Try.prog 38 [] tiRoot [] c.base [0, 1, 4, 5, 6, 7, 10, 15, 32, 198] [0, 1, 4, 5, 6, 7] 0 (ti_st c v) = (ti_step c v).map (nxF (ti_st c)) := by kernel_rfl
def ti_g (c : Cti) (j : Nat) (a : Nat × (Nat → Int)) : Nat × (Nat → Int) := trG c.f0 c.to j a
def ti_ok (c : Cti) (v : Vti) : Bool := decide (c.n ≤ c.m ∧ c.n ≤ 64 ∧ 1 ≤ v.i ∧ v.n ≤ v.i.toNat ∧ 0 ≤ v.i ∧ v.i ≤ (((max c.n 1) : Nat) : Int))
def ti_fin (c : Cti) (a : Nat × (Nat → Int)) : FSt := ti_st c ({ i := (((max c.n 1) : Nat) : Int), n := a.1, a := a.2 })
noncomputable def ti_R (x : Cti × Vti) : T (EX × FSt) := .need (ti_ok x.1 x.2) (.leaf (.normal, ti_fin x.1 (iter (ti_g x.1) ((max x.1.n 1) - x.2.i.toNat) x.2.i.toNat (x.2.n, x.2.a))))
theorem ti_tri (x : Cti × Vti) : TriR Try.prog 38 x.1.base (.block 0 (.loop (bodyB tiRoot 0))) (ti_st x.1 x.2) (ti_R x) := by
  obtain ⟨c, v⟩ := x
  refine triR_of mix (root := tiRoot) (by kernel_rfl) (by kernel_rfl) [0, 1, 4, 5, 6, 7, 10, 15, 32, 198] [0, 1, 4, 5, 6, 7] (ti_st c) (ti_step c) (ti_round c) v _ (((max c.n 1) - v.i.toNat) + 1) (fun Φ h => ?_)
  have h0 := h.1
  have h1 : Φ (.normal, ti_fin c (iter (ti_g c) ((max c.n 1) - v.i.toNat) v.i.toNat (v.n, v.a))) := h.2
  simp only [ti_ok, decide_eq_true_eq] at h0
  obtain ⟨hk0, hk1, hk2, hk3, hi0, hin⟩ := h0
  have hv : v = (fun (j : Nat) (a : Nat × (Nat → Int)) => ({ i := ((j : Nat) : Int), n := a.1, a := a.2 } : Vti)) v.i.toNat (v.n, v.a) := by
    obtain ⟨i, n, a⟩ := v
    have hi0 : 0 ≤ i := hi0
    simp only [Int.toNat_of_nonneg hi0]
  have key := T_iterI (ti_step c) (fun (j : Nat) (a : Nat × (Nat → Int)) => ({ i := ((j : Nat) : Int), n := a.1, a := a.2 } : Vti)) (max c.n 1) (ti_g c) (fun a => (.exit 0, ti_fin c a)) (fun (j : Nat) (a : Nat × (Nat → Int)) => 1 ≤ j ∧ a.1 ≤ j) (fun j a hj hI => ?_) (fun j a hj hI Ψ hΨ => ?_) (fun a Ψ hΨ => ?_) (fun a => by simp) ((max c.n 1) - v.i.toNat) v.i.toNat (v.n, v.a) (by omega) ?_ (fun r => Φ (blkEx 0 r.1, r.2)) (by simpa [blkEx] using h1)
  · exact (congrArg (fun z => (loopTree (ti_step c) ((max c.n 1) - v.i.toNat + 1) z).holds fun r => Φ (blkEx 0 r.1, r.2)) hv).mpr key
  · exact ⟨by omega, trG_le c.f0 c.to j a hI.2⟩
  · unfold ti_step
    refine (T.h_ite (fun _ => ?_) (fun hc => absurd hc (by simp <;> omega)))
    refine (T.h_need (by simp <;> omega) (T.h_need (by simp <;> omega) (T.h_need (needE fun c0 => (by rw [IntWalk.i64_in _ (by simp <;> omega)]; simp <;> omega)) (T.h_need (needE fun c0 => (by rw [IntWalk.i64_in _ (by simp <;> omega)]; simp <;> omega)) (T.h_need (needE fun c0 => (by simp <;> omega)) (T.h_need (needE fun c0 => (by simp <;> omega)) (T.h_need (needE fun c0 => (decide_eq_true (by show a.1 + 1 ≤ 1073741824; omega))) (T.h_ite (fun hc => (T.h_leaf ?_)) (fun hc => (T.h_leaf ?_))))))))))
    · rw [wrap_next (by omega)]
      have e : trG c.f0 c.to j a = (a.1 + 1, fun q => if q = a.1 then (j : Int) else a.2 q) := by unfold trG; rw [show trB c.f0 c.to j = true from hc]; rfl
      rw [show ti_g c j a = trG c.f0 c.to j a from rfl, e] at hΨ
      exact hΨ
    · rw [wrap_next (by omega)]
      have e : trG c.f0 c.to j a = a := by unfold trG; rw [show trB c.f0 c.to j = false from hc]; rfl
      rw [show ti_g c j a = trG c.f0 c.to j a from rfl, e] at hΨ
      exact hΨ
  · unfold ti_step
    refine (T.h_ite (fun hc => absurd hc (by simp <;> omega)) (fun _ => T.h_leaf hΨ))
  · exact ⟨by omega, hk3⟩

def ti_dec (b : Mem) (f : FSt) : Option (Cti × Vti) :=
  match getSu 0 1 (findF 0 f.sl), getTo (findF 1 f.sl), getNil (findF 4 f.sl), getFf (findF 5 f.sl), getI (findF 7 f.sl), getSo 1 1 2 (findF 6 f.sl), id b, f.mem with
  | some (0, n_), some to_, some (), some (), some q_i, some q_n, [some (.cols m_ [.bo f0_])], [_, some (.grow r_n [.num .i64 q_a] 2 2), none] => if q_n = r_n then some ({ n := n_, m := m_, f0 := f0_, to := to_ }, { i := q_i, n := q_n, a := q_a }) else none
  | _, _, _, _, _, _, _, _ => none
theorem ti_dec_ok (b : Mem) (f : FSt) (x : Cti × Vti) (h : ti_dec b f = some x) : b = x.1.base ∧ FLe b f (ti_st x.1 x.2) := by
  unfold ti_dec at h
  split at h
  · rename_i e0 e1 e2 e3 e4 e5 hb hm
    obtain ⟨hbo, h9⟩ := ite_some h
    clear h
    subst hbo
    have h := h9
    cases h
    have hb : b = _ := hb
    subst hb
    refine ⟨rfl, fle_of (fun p hp => ?_) (by rw [hm]; exact memLe_refl _)⟩
    simp only [List.mem_cons, List.not_mem_nil, or_false] at hp
    rcases hp with rfl | rfl | rfl | rfl | rfl | rfl
    · exact getSu_rel e0
    · exact getTo_rel e1
    · exact getNil_rel e2
    · exact getFf_rel e3
    · exact getSo_rel e5
    · exact getI_rel e4
  · cases h
noncomputable def ti_sum : SumF Try.prog 38 tiRoot :=
  sumL (pathB tiRoot 0) ti_dec (fun x => x.1.base) (fun x => ti_st x.1 x.2) ti_R ti_dec_ok (by
    intro code hc x
    have hc2 : code = .block 0 (.loop (bodyB tiRoot 0)) := by
      have h : subR tiRoot (pathB tiRoot 0) = some (.block 0 (.loop (bodyB tiRoot 0))) := by kernel_rfl
      rw [h] at hc; cases hc; rfl
    subst hc2
    exact ti_tri x)

noncomputable def k_sTs0 : Ctr Try.prog := (mkF0 Try.prog mix [] 57 Try.f57 (bodyOf Try.f57) Try.func57 (by kernel_rfl) (by kernel_rfl) [0, 1, 4, 5, 6, 11, 28, 198] 34 (by kernel_rfl) (by kernel_rfl) [ts_sum]).mg
noncomputable def k_iTi0 : Ctr Try.prog := (mkF0 Try.prog mix [] 58 Try.f58 (bodyOf Try.f58) Try.func58 (by kernel_rfl) (by kernel_rfl) [0, 1, 4, 5, 6, 7, 10, 15, 32, 198] 38 (by kernel_rfl) (by kernel_rfl) [ti_sum]).mg
def trN (n : Nat) (f : Nat → Bool) (to : Bool) : Nat := (iter (trG f to) (max n 1 - 1) 1 (0, fun _ => 0)).1
def trA (n : Nat) (f : Nat → Bool) (to : Bool) : Nat → Int := (iter (trG f to) (max n 1 - 1) 1 (0, fun _ => 0)).2
theorem trN_le (n : Nat) (f : Nat → Bool) (to : Bool) : trN n f to ≤ n + 1 := by
  have := tr_iter f to (max n 1 - 1) 1 (0, fun _ => 0) (Nat.zero_le _)
  unfold trN
  omega
theorem BlLe.grow_colsX {n : Nat} {cs cs' : List Col} {k : Nat} {t : TypeId} (h : ∀ i, i < n → colsAt cs i = colsAt cs' i) (hl : cs'.length = cs.length) : BlLe (.grow n cs k t) (.cols n cs') :=
  fun ρ w b o hb => BlLe.cols_eq h hl ρ w b o (BlLe.grown (Nat.le_refl n) ρ w b o hb)
def run_ts : List AV → Mem → T Res
  | [.one (.su 0 1 0 n false), .one (.tt to)], [some (.cols m [.bo f0])] => .need (decide (n ≤ m)) (.need (decide (n ≤ 64)) (.leaf (.one (.su 1 1 0 (trN n f0 to) false), [some (.cols (trN n f0 to) [.num .i64 (trA n f0 to)]), none])))
  | _, _ => .fail
def run_ti : List AV → Mem → T Res
  | [.one (.su 0 1 0 n false), .one (.tt to)], [some (.cols m [.bo f0])] => .need (decide (n ≤ m)) (.ite (decide (64 < (n : Int))) (.leaf (.tup [.one (.val (.slice none 0 0)), .one (.tt false)], [])) (.leaf (.tup [.one (.su 1 1 0 (trN n f0 to) false), .one (.tt true)], [some (.cols (trN n f0 to) [.num .i64 (trA n f0 to)]), none])))
  | _, _ => .fail
def run_tr (to : Bool) : List AV → Mem → T Res
  | [.one (.su 0 1 0 n false)], [some (.cols m [.bo f0])] => .need (decide (n ≤ m)) (.ite (decide (64 < (n : Int))) (.leaf (.tup [.one (.val (.slice none 0 0)), .one (.tt false)], [])) (.leaf (.tup [.one (.su 1 1 0 (trN n f0 to) false), .one (.tt true)], [some (.cols (trN n f0 to) [.num .i64 (trA n f0 to)]), none])))
  | _, _ => .fail
theorem sTs0_ev (n m : Nat) (f0 : Nat → Bool) (to : Bool) : k_sTs0.run [.one (.su 0 1 0 n false), .one (.tt to)] [some (.cols m [.bo f0])] =
    .need (ts_ok { n := n, m := m, f0 := f0, to := to } { i := 1, n := 0, a := fun _ => 0 }) (.leaf (.one (.so 1 1 (trN n f0 to) 2), [some (.grow (trN n f0 to) [.num .i64 (trA n f0 to)] 2 2), none])) := by kernel_rfl
theorem iTi0_ev (n m : Nat) (f0 : Nat → Bool) (to : Bool) : k_iTi0.run [.one (.su 0 1 0 n false), .one (.tt to)] [some (.cols m [.bo f0])] =
    .need (bif decide (64 < (n : Int)) then true else ti_ok { n := n, m := m, f0 := f0, to := to } { i := 1, n := 0, a := fun _ => 0 }) (.ite (decide (64 < (n : Int))) (.leaf (.tup [.one (.val (.slice none 0 0)), .one (.tt false)], [])) (.leaf (.tup [.one (.so 1 1 (trN n f0 to) 2), .one (.tt true)], [some (.grow (trN n f0 to) [.num .i64 (trA n f0 to)] 2 2), none]))) := by kernel_rfl
noncomputable def k_sTs : Ctr Try.prog := (k_sTs0.to run_ts (by
  intro args mem _
  unfold run_ts
  split
  · rename_i n to m f0 _
    rw [sTs0_ev]
    constructor
    intro Φ hΦ h
    have hm := of_decide_eq_true h.1
    have hn := of_decide_eq_true h.2.1
    exact T.h_need (decide_eq_true ⟨hm, hn, by show (1 : Int) ≤ 1; omega, Nat.zero_le _, by show (0 : Int) ≤ 1; omega, by show (1 : Int) ≤ ((max n 1 : Nat) : Int); omega⟩) (T.h_leaf (hΦ _ (.one (.su 1 1 0 (trN n f0 to) false), [some (.cols (trN n f0 to) [.num .i64 (trA n f0 to)]), none]) ⟨⟨BlLe.grow_colsX (fun i _ => rfl) rfl, trivial⟩, fun ρ v hv => AvLe.grown ρ v hv⟩ h.2.2))
  · exact Weak.fail _)).su.own
noncomputable def k_iTi : Ctr Try.prog := (k_iTi0.to run_ti (by
  intro args mem _
  unfold run_ti
  split
  · rename_i n to m f0 _
    rw [iTi0_ev]
    constructor
    intro Φ hΦ h
    have hm := of_decide_eq_true h.1
    refine T.h_need (needT fun hA => decide_eq_true ⟨hm, ?_, by show (1 : Int) ≤ 1; omega, Nat.zero_le _, by show (0 : Int) ≤ 1; omega, by show (1 : Int) ≤ ((max n 1 : Nat) : Int); omega⟩) (T.h_ite (fun hA => T.h_leaf (h.2.1 hA)) (fun hA => T.h_leaf (hΦ _ (.tup [.one (.su 1 1 0 (trN n f0 to) false), .one (.tt true)], [some (.cols (trN n f0 to) [.num .i64 (trA n f0 to)]), none]) ⟨⟨BlLe.grow_colsX (fun i _ => rfl) rfl, trivial⟩, ?_⟩ (h.2.2 hA))))
    · have := of_decide_eq_false hA
      show n ≤ 64
      omega
    · intro ρ v hv
      obtain ⟨vs, hvs, hl⟩ := hv
      refine ⟨vs, hvs, ?_⟩
      match vs.toList, hl with
      | [a, b], hl => exact ⟨AvLe.grown ρ a hl.1, hl.2.1, trivial⟩
  · exact Weak.fail _)).su.own
noncomputable def k_sRises0 : Ctr Try.prog := (mkF0 Try.prog mix [k_sTs] 15 Try.f15 (bodyOf Try.f15) Try.func15 (by kernel_rfl) (by kernel_rfl) [0, 2, 3, 6, 198] 9 (by kernel_rfl) (by kernel_rfl) []).mg
noncomputable def k_iRises0 : Ctr Try.prog := (mkF0 Try.prog mix [k_iTi] 17 Try.f17 (bodyOf Try.f17) Try.func17 (by kernel_rfl) (by kernel_rfl) [0, 2, 3, 198] 8 (by kernel_rfl) (by kernel_rfl) []).mg
theorem sRises0_ev (n m : Nat) (f0 : Nat → Bool) : k_sRises0.run [.one (.su 0 1 0 n false)] [some (.cols m [.bo f0])] =
    .need (bif decide (64 < (n : Int)) then true else decide (n ≤ m)) (.need (bif decide (64 < (n : Int)) then true else decide (n ≤ 64)) (.ite (decide (64 < (n : Int))) (.leaf (.tup [.one (.val (.slice none 0 0)), .one (.tt false)], [])) (.leaf (.tup [.one (.su 1 1 0 (trN n f0 true) false), .one (.tt true)], [some (.cols (trN n f0 true) [.num .i64 (trA n f0 true)]), none])))) := by kernel_rfl
theorem iRises0_ev (n m : Nat) (f0 : Nat → Bool) : k_iRises0.run [.one (.su 0 1 0 n false)] [some (.cols m [.bo f0])] =
    .need (decide (n ≤ m)) (.ite (decide (64 < (n : Int))) (.leaf (.tup [.one (.val (.slice none 0 0)), .one (.tt false)], [])) (.leaf (.tup [.one (.su 1 1 0 (trN n f0 true) false), .one (.tt true)], [some (.cols (trN n f0 true) [.num .i64 (trA n f0 true)]), none]))) := by kernel_rfl
noncomputable def k_sRises : Ctr Try.prog := (k_sRises0.to (run_tr true) (by
  intro args mem _
  unfold run_tr
  split
  · rename_i n m f0 _
    rw [sRises0_ev]
    constructor
    intro Φ hΦ h
    refine T.h_need (needT fun _ => h.1) (T.h_need (needT fun hA => decide_eq_true ?_) h.2)
    have := of_decide_eq_false hA
    omega
  · exact Weak.fail _)).su.own
noncomputable def k_iRises : Ctr Try.prog := (k_iRises0.to (run_tr true) (by
  intro args mem _
  unfold run_tr
  split
  · exact Weak.of_eq (iRises0_ev _ _ _)
  · exact Weak.fail _)).su.own
noncomputable def k_sSets0 : Ctr Try.prog := (mkF0 Try.prog mix [k_sTs] 23 Try.f23 (bodyOf Try.f23) Try.func23 (by kernel_rfl) (by kernel_rfl) [0, 2, 3, 6, 198] 9 (by kernel_rfl) (by kernel_rfl) []).mg
noncomputable def k_iSets0 : Ctr Try.prog := (mkF0 Try.prog mix [k_iTi] 24 Try.f24 (bodyOf Try.f24) Try.func24 (by kernel_rfl) (by kernel_rfl) [0, 2, 3, 198] 8 (by kernel_rfl) (by kernel_rfl) []).mg
theorem sSets0_ev (n m : Nat) (f0 : Nat → Bool) : k_sSets0.run [.one (.su 0 1 0 n false)] [some (.cols m [.bo f0])] =
    .need (bif decide (64 < (n : Int)) then true else decide (n ≤ m)) (.need (bif decide (64 < (n : Int)) then true else decide (n ≤ 64)) (.ite (decide (64 < (n : Int))) (.leaf (.tup [.one (.val (.slice none 0 0)), .one (.tt false)], [])) (.leaf (.tup [.one (.su 1 1 0 (trN n f0 false) false), .one (.tt true)], [some (.cols (trN n f0 false) [.num .i64 (trA n f0 false)]), none])))) := by kernel_rfl
theorem iSets0_ev (n m : Nat) (f0 : Nat → Bool) : k_iSets0.run [.one (.su 0 1 0 n false)] [some (.cols m [.bo f0])] =
    .need (decide (n ≤ m)) (.ite (decide (64 < (n : Int))) (.leaf (.tup [.one (.val (.slice none 0 0)), .one (.tt false)], [])) (.leaf (.tup [.one (.su 1 1 0 (trN n f0 false) false), .one (.tt true)], [some (.cols (trN n f0 false) [.num .i64 (trA n f0 false)]), none]))) := by kernel_rfl
noncomputable def k_sSets : Ctr Try.prog := (k_sSets0.to (run_tr false) (by
  intro args mem _
  unfold run_tr
  split
  · rename_i n m f0 _
    rw [sSets0_ev]
    constructor
    intro Φ hΦ h
    refine T.h_need (needT fun _ => h.1) (T.h_need (needT fun hA => decide_eq_true ?_) h.2)
    have := of_decide_eq_false hA
    omega
  · exact Weak.fail _)).su.own
noncomputable def k_iSets : Ctr Try.prog := (k_iSets0.to (run_tr false) (by
  intro args mem _
  unfold run_tr
  split
  · exact Weak.of_eq (iSets0_ev _ _ _)
  · exact Weak.fail _)).su.own

end Go.Proofs.Ytdlamanfolijlaa
