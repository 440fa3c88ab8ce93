/-
  StoreEntries: both functions in the same words. No conditions.
-/
import Derived.Test.YtdmcpgbnomhahaaSy
import Derived.Test.YtdmcpgbnomhahaaEa
namespace Go.Proofs.Ytdmcpgbnomhahaa
set_option linter.unusedVariables false
set_option linter.unusedSimpArgs false
open Go.RowKit

theorem bnot_t {b : Bool} (h : (!b) = true) : b = false := by cases b <;> simp_all
theorem bnot_f {b : Bool} (h : (!b) = false) : b = true := by cases b <;> simp_all
theorem sNoR_ev (m i : Nat) (f0 : Nat → ByteArray) (f1 f2 f3 f4 f5 f6 f7 : Nat → Nat) : k_sNo0.run [.one (.ptr 0 8 i 0)] [some (.cols m [.str f0, .fl .f32 f1, .fl .f32 f2, .fl .f32 f3, .fl .f32 f4, .fl .f32 f5, .fl .f32 f6, .fl .f32 f7])] = .need (decide (i < m)) (.need (decide (i < m)) (.need (decide (i < m)) (.need (decide (i < m)) (.need (decide (i < m)) (.need (decide (i < m)) (.need (decide (i < m)) (.leaf (.one (.sl 1 1 0 7 7 true), [some (rowBlk 7 1 [.fl .f32 (f1 i), .fl .f32 (f2 i), .fl .f32 (f3 i), .fl .f32 (f4 i), .fl .f32 (f5 i), .fl .f32 (f6 i), .fl .f32 (f7 i)])])))))))) := by kernel_rfl
def run_sNoR : List AV → Mem → T Res
  | [.one (.ptr 0 8 i 0)], [some (.cols m [.str f0, .fl .f32 f1, .fl .f32 f2, .fl .f32 f3, .fl .f32 f4, .fl .f32 f5, .fl .f32 f6, .fl .f32 f7])] => .need (decide (i < m)) (.leaf (.one (.su 1 1 0 7 true), [some (.cols 7 [.fl .f32 fun q => [f1 i, f2 i, f3 i, f4 i, f5 i, f6 i, f7 i].getD q 0])]))
  | _, _ => .fail
noncomputable def k_sNoR : Ctr Try.prog := (k_sNo0.to run_sNoR (by
  intro args mem _
  unfold run_sNoR
  split
  · rename_i i m f0 f1 f2 f3 f4 f5 f6 f7 _
    rw [sNoR_ev]
    constructor
    intro Φ hΦ h
    have hi := h.1
    exact T.h_need hi (T.h_need hi (T.h_need hi (T.h_need hi (T.h_need hi (T.h_need hi (T.h_need hi (T.h_leaf (hΦ _ _ (row7_le2 (f1 i) (f2 i) (f3 i) (f4 i) (f5 i) (f6 i) (f7 i)) h.2))))))))
  · exact Weak.fail _)).own
noncomputable def k_sSyR0 : Ctr Try.prog := mkF0 Try.prog mix [k_sNoR, k_s4, k_sCk] 38 Try.f38 (bodyOf Try.f38) Try.func38 (by kernel_rfl) (by kernel_rfl) [0, 2, 3, 4, 5, 6, 27, 28, 29, 198] 52 (by kernel_rfl) (by kernel_rfl) []
theorem sSyR0_ev (m i : Nat) (f0 : Nat → ByteArray) (f1 f2 f3 f4 f5 f6 f7 : Nat → Nat) : k_sSyR0.run [.one (.ptr 0 8 i 0)] [some (.cols m [.str f0, .fl .f32 f1, .fl .f32 f2, .fl .f32 f3, .fl .f32 f4, .fl .f32 f5, .fl .f32 f6, .fl .f32 f7])] =
  (.need (decide (i < m)) (.need (true) (.need (true) (.need (true) (.need (true) (.need (decide (i < m)) (.need (true) (.need (decide (0 + (f0 i).size ≤ (f0 i).size)) (.need (decide (4 + 1 + (f0 i).size ≤ 1073741824)) (.need (decide (i < m)) (.need (true) (.need (true) (.need (true) (.need (true) (.need (true) (.need (true) (.need (true) (.need (true) (.need (decide (4 + 1 + (f0 i).size ≤ 4 + 1 + (f0 i).size)) (.need (true) (.need (decide (4 + 1 + (f0 i).size + 4 ≤ 1073741824)) (.need (true) (.need (true) (.need (true) (.need (true) (.need (true) (.need (true) (.need (true) (.need (true) (.need (decide (4 + 1 + (f0 i).size + 4 ≤ 4 + 1 + (f0 i).size + 4)) (.need (true) (.need (decide (4 + 1 + (f0 i).size + 4 + 4 ≤ 1073741824)) (.need (true) (.need (true) (.need (true) (.need (true) (.need (true) (.need (true) (.need (true) (.need (true) (.need (decide (4 + 1 + (f0 i).size + 4 + 4 ≤ 4 + 1 + (f0 i).size + 4 + 4)) (.need (true) (.need (decide (4 + 1 + (f0 i).size + 4 + 4 + 4 ≤ 1073741824)) (.need (true) (.need (true) (.need (true) (.need (true) (.need (true) (.need (true) (.need (true) (.need (true) (.need (decide (4 + 1 + (f0 i).size + 4 + 4 + 4 ≤ 4 + 1 + (f0 i).size + 4 + 4 + 4)) (.need (true) (.need (decide (4 + 1 + (f0 i).size + 4 + 4 + 4 + 4 ≤ 1073741824)) (.need (true) (.need (true) (.need (true) (.need (true) (.need (true) (.need (true) (.need (true) (.need (true) (.need (decide (4 + 1 + (f0 i).size + 4 + 4 + 4 + 4 ≤ 4 + 1 + (f0 i).size + 4 + 4 + 4 + 4)) (.need (true) (.need (decide (4 + 1 + (f0 i).size + 4 + 4 + 4 + 4 + 4 ≤ 1073741824)) (.need (true) (.need (true) (.need (true) (.need (true) (.need (true) (.need (true) (.need (true) (.need (true) (.need (decide (4 + 1 + (f0 i).size + 4 + 4 + 4 + 4 + 4 ≤ 4 + 1 + (f0 i).size + 4 + 4 + 4 + 4 + 4)) (.need (true) (.need (decide (4 + 1 + (f0 i).size + 4 + 4 + 4 + 4 + 4 + 4 ≤ 1073741824)) (.need (true) (.need (true) (.need (true) (.need (true) (.need (true) (.need (true) (.need (true) (.need (true) (.need (decide (4 + 1 + (f0 i).size + 4 + 4 + 4 + 4 + 4 + 4 ≤ 4 + 1 + (f0 i).size + 4 + 4 + 4 + 4 + 4 + 4)) (.need (true) (.need (decide (4 + 1 + (f0 i).size + 4 + 4 + 4 + 4 + 4 + 4 + 4 ≤ 1073741824)) (.need (decide (0 + (4 + 1 + (f0 i).size + 4 + 4 + 4 + 4 + 4 + 4 + 4) ≤ 4 + 1 + (f0 i).size + 4 + 4 + 4 + 4 + 4 + 4 + 4)) (.need (decide ((strF (st7 (f0 i) sB (f1 i) (f2 i) (f3 i) (f4 i) (f5 i) (f6 i) (f7 i)) (4 + 1 + (f0 i).size + 4 + 4 + 4 + 4 + 4 + 4 + 4)).size ≤ 1099511627776)) (.need (true) (.need (true) (.need (decide (4 + 1 + (f0 i).size + 4 + 4 + 4 + 4 + 4 + 4 + 4 ≤ 4 + 1 + (f0 i).size + 4 + 4 + 4 + 4 + 4 + 4 + 4)) (.need (true) (.need (decide (4 + 1 + (f0 i).size + 4 + 4 + 4 + 4 + 4 + 4 + 4 + 2 ≤ 1073741824)) (.need (decide (0 + (4 + 1 + (f0 i).size + 4 + 4 + 4 + 4 + 4 + 4 + 4 + 2) ≤ 4 + 1 + (f0 i).size + 4 + 4 + 4 + 4 + 4 + 4 + 4 + 2)) (.leaf (.one (.str (stV (f0 i) sB sC (f1 i) (f2 i) (f3 i) (f4 i) (f5 i) (f6 i) (f7 i))), []))))))))))))))))))))))))))))))))))))))))))))))))))))))))))))))))))))))))))))))))))))))))))))))))) := by kernel_rfl
def run_sSyR : List AV → Mem → T Res
  | [.one (.ptr 0 8 i 0)], [some (.cols m [.str f0, .fl .f32 f1, .fl .f32 f2, .fl .f32 f3, .fl .f32 f4, .fl .f32 f5, .fl .f32 f6, .fl .f32 f7])] => .need (decide (i < m)) (.need (decide ((f0 i).size ≤ 1048576)) (.leaf (.one (.str (storeV (f0 i) (f1 i) (f2 i) (f3 i) (f4 i) (f5 i) (f6 i) (f7 i))), [])))
  | _, _ => .fail
noncomputable def k_sSyR : Ctr Try.prog := (k_sSyR0.to run_sSyR (by
  intro args mem hF
  unfold run_sSyR
  split
  · rename_i i m f0 f1 f2 f3 f4 f5 f6 f7
    rw [sSyR0_ev]
    constructor
    intro Φ hΦ h
    have hi := h.1
    have hs : (f0 i).size ≤ 1048576 := of_decide_eq_true h.2.1
    have hl := h.2.2
    exact (T.h_need (hi) (T.h_need (rfl) (T.h_need (rfl) (T.h_need (rfl) (T.h_need (rfl) (T.h_need (hi) (T.h_need (rfl) (T.h_need (decide_eq_true (by omega)) (T.h_need (decide_eq_true (by omega)) (T.h_need (hi) (T.h_need (rfl) (T.h_need (rfl) (T.h_need (rfl) (T.h_need (rfl) (T.h_need (rfl) (T.h_need (rfl) (T.h_need (rfl) (T.h_need (rfl) (T.h_need (decide_eq_true (by omega)) (T.h_need (rfl) (T.h_need (decide_eq_true (by omega)) (T.h_need (rfl) (T.h_need (rfl) (T.h_need (rfl) (T.h_need (rfl) (T.h_need (rfl) (T.h_need (rfl) (T.h_need (rfl) (T.h_need (rfl) (T.h_need (decide_eq_true (by omega)) (T.h_need (rfl) (T.h_need (decide_eq_true (by omega)) (T.h_need (rfl) (T.h_need (rfl) (T.h_need (rfl) (T.h_need (rfl) (T.h_need (rfl) (T.h_need (rfl) (T.h_need (rfl) (T.h_need (rfl) (T.h_need (decide_eq_true (by omega)) (T.h_need (rfl) (T.h_need (decide_eq_true (by omega)) (T.h_need (rfl) (T.h_need (rfl) (T.h_need (rfl) (T.h_need (rfl) (T.h_need (rfl) (T.h_need (rfl) (T.h_need (rfl) (T.h_need (rfl) (T.h_need (decide_eq_true (by omega)) (T.h_need (rfl) (T.h_need (decide_eq_true (by omega)) (T.h_need (rfl) (T.h_need (rfl) (T.h_need (rfl) (T.h_need (rfl) (T.h_need (rfl) (T.h_need (rfl) (T.h_need (rfl) (T.h_need (rfl) (T.h_need (decide_eq_true (by omega)) (T.h_need (rfl) (T.h_need (decide_eq_true (by omega)) (T.h_need (rfl) (T.h_need (rfl) (T.h_need (rfl) (T.h_need (rfl) (T.h_need (rfl) (T.h_need (rfl) (T.h_need (rfl) (T.h_need (rfl) (T.h_need (decide_eq_true (by omega)) (T.h_need (rfl) (T.h_need (decide_eq_true (by omega)) (T.h_need (rfl) (T.h_need (rfl) (T.h_need (rfl) (T.h_need (rfl) (T.h_need (rfl) (T.h_need (rfl) (T.h_need (rfl) (T.h_need (rfl) (T.h_need (decide_eq_true (by omega)) (T.h_need (rfl) (T.h_need (decide_eq_true (by omega)) (T.h_need (decide_eq_true (by omega)) (T.h_need (decide_eq_true (by rw [strF_size]; omega)) (T.h_need (rfl) (T.h_need (rfl) (T.h_need (decide_eq_true (by omega)) (T.h_need (rfl) (T.h_need (decide_eq_true (by omega)) (T.h_need (decide_eq_true (by omega)) (T.h_leaf hl))))))))))))))))))))))))))))))))))))))))))))))))))))))))))))))))))))))))))))))))))))))))))))))))
  · exact Weak.fail _)).own
def getE : AV → Option Unit
  | .one (.str ⟨⟨[]⟩⟩) => some ()
  | _ => none
theorem getE_rel {a : AV} (h : getE a = some ()) (ρ : Rho) (v : Value) (hv : a.rel ρ v) : (AV.one (.str ⟨#[]⟩)).rel ρ v := by
  unfold getE at h
  split at h
  · exact hv
  · cases h
def stG (f0 : Nat → ByteArray) (f1 f2 f3 f4 f5 f6 f7 : Nat → Nat) (j : Nat) (a : ByteArray) : ByteArray := a ++ storeV (f0 j) (f1 j) (f2 j) (f3 j) (f4 j) (f5 j) (f6 j) (f7 j)
theorem room_of {a : ByteArray} {b : ByteArray} (h : a.size + b.size ≤ 9223372036854775807) : (!decide (((a.size + b.size : Nat) : Int) > IntKind.i64.max)) = true := by
  have hmax : IntKind.i64.max = 9223372036854775807 := by decide
  rw [hmax]
  rw [decide_eq_false (by omega)]; rfl
structure Csps where
  n : Nat
  m : Nat
  f0 : Nat → ByteArray
  f1 : Nat → Nat
  f2 : Nat → Nat
  f3 : Nat → Nat
  f4 : Nat → Nat
  f5 : Nat → Nat
  f6 : Nat → Nat
  f7 : Nat → Nat
  l : Int
def Csps.base (c : Csps) : Mem := [some (.cols c.m [.str c.f0, .fl .f32 c.f1, .fl .f32 c.f2, .fl .f32 c.f3, .fl .f32 c.f4, .fl .f32 c.f5, .fl .f32 c.f6, .fl .f32 c.f7])]
structure Vsps where
  a : ByteArray
  i : Int
noncomputable abbrev spsRoot : Code := bodyOf Try.f17
def sps_st (c : Csps) (v : Vsps) : FSt := ⟨[(0, .one (.su 0 8 0 c.n false)), (4, .one (.str v.a)), (10, .one (.num .i64 c.l)), (11, .one (.num .i64 v.i))], c.base ++ []⟩
def sps_step (c : Csps) (v : Vsps) : T (Nx Vsps) :=
  .ite (decide (v.2 < c.11)) (.need (decide (0 ≤ v.2) && decide (v.2 < ((c.1 : Nat) : Int))) (.need (decide (v.2.toNat + 0 < c.2)) (.need (decide ((c.3 (v.2.toNat + 0)).size ≤ 1048576)) (.need (!decide (↑(v.1.size + (storeV (c.3 (v.2.toNat + 0)) (c.4 (v.2.toNat + 0)) (c.5 (v.2.toNat + 0)) (c.6 (v.2.toNat + 0)) (c.7 (v.2.toNat + 0)) (c.8 (v.2.toNat + 0)) (c.9 (v.2.toNat + 0)) (c.10 (v.2.toNat + 0))).size) > IntKind.i64.max)) (.leaf (.go { a := v.1 ++ storeV (c.3 (v.2.toNat + 0)) (c.4 (v.2.toNat + 0)) (c.5 (v.2.toNat + 0)) (c.6 (v.2.toNat + 0)) (c.7 (v.2.toNat + 0)) (c.8 (v.2.toNat + 0)) (c.9 (v.2.toNat + 0)) (c.10 (v.2.toNat + 0)), i := IntKind.i64.wrap (v.2 + 1) })))))) (.leaf (.out (EX.exit 0) ⟨[(0, AV.one (SV.su 0 8 0 c.1 false)), (4, AV.one (SV.str v.1)), (10, AV.one (SV.num IntKind.i64 c.11)), (11, AV.one (SV.num IntKind.i64 v.2))], c.base ++ []⟩))
theorem sps_round (c : Csps) (v : Vsps) : roundF Try.prog 22 [k_sSyR] spsRoot [] c.base [0, 2, 3, 4, 5, 8, 10, 11, 12, 198] [0, 4, 10, 11] 0 (sps_st c v) = (sps_step c v).map (nxF (sps_st c)) := by kernel_rfl
def sps_g (c : Csps) (j : Nat) (a : ByteArray) : ByteArray := stG c.f0 c.f1 c.f2 c.f3 c.f4 c.f5 c.f6 c.f7 j a
def sps_ok (c : Csps) (v : Vsps) : Bool := decide (c.n ≤ c.m ∧ c.n ≤ 1048576 ∧ c.l = (c.n : Int) ∧ (∀ q, q < c.n → (c.f0 q).size ≤ 1048576) ∧ v.a.size ≤ v.i.toNat * 1048611 ∧ 0 ≤ v.i ∧ v.i ≤ ((c.n : Nat) : Int))
def sps_fin (c : Csps) (a : ByteArray) : FSt := sps_st c ({ a := a, i := (c.n : Int) })
noncomputable def sps_R (x : Csps × Vsps) : T (EX × FSt) := .need (sps_ok x.1 x.2) (.leaf (.normal, sps_fin x.1 (iter (sps_g x.1) (x.1.n - x.2.i.toNat) x.2.i.toNat x.2.a)))
theorem sps_tri (x : Csps × Vsps) : TriR Try.prog 22 x.1.base (.block 0 (.loop (bodyB spsRoot 0))) (sps_st x.1 x.2) (sps_R x) := by
  obtain ⟨c, v⟩ := x
  refine triR_of mix (root := spsRoot) (by kernel_rfl) (by kernel_rfl) [0, 2, 3, 4, 5, 8, 10, 11, 12, 198] [0, 4, 10, 11] (sps_st c) (sps_step c) (sps_round c) v _ ((c.n - v.i.toNat) + 1) (fun Φ h => ?_)
  have h0 := h.1
  have h1 : Φ (.normal, sps_fin c (iter (sps_g c) (c.n - v.i.toNat) v.i.toNat v.a)) := h.2
  simp only [sps_ok, decide_eq_true_eq] at h0
  obtain ⟨hk0, hk1, hk2, hk3, hk4, hi0, hin⟩ := h0
  have hv : v = (fun (j : Nat) (a : ByteArray) => ({ a := a, i := (j : Int) } : Vsps)) v.i.toNat v.a := by
    obtain ⟨a, i⟩ := v
    have hi0 : 0 ≤ i := hi0
    simp only [Int.toNat_of_nonneg hi0]
  have key := T_iterI (sps_step c) (fun (j : Nat) (a : ByteArray) => ({ a := a, i := (j : Int) } : Vsps)) c.n (sps_g c) (fun a => (.exit 0, sps_fin c a)) (fun (j : Nat) (a : ByteArray) => a.size ≤ j * 1048611) (fun j a hj hI => ?_) (fun j a hj hI Ψ hΨ => ?_) (fun a Ψ hΨ => ?_) (fun a => by simp) (c.n - v.i.toNat) v.i.toNat v.a (by omega) ?_ (fun r => Φ (blkEx 0 r.1, r.2)) (by simpa [blkEx] using h1)
  · exact (congrArg (fun z => (loopTree (sps_step c) (c.n - v.i.toNat + 1) z).holds fun r => Φ (blkEx 0 r.1, r.2)) hv).mpr key
  · show (stG c.f0 c.f1 c.f2 c.f3 c.f4 c.f5 c.f6 c.f7 j a).size ≤ (j + 1) * 1048611
    unfold stG
    rw [ByteArray.size_append, storeV_size]
    have := hk3 j hj
    have : a.size ≤ j * 1048611 := hI
    omega
  · unfold sps_step
    refine (T.h_ite (fun _ => ?_) (fun hc => absurd hc (by simp <;> omega)))
    refine (T.h_need (by simp <;> omega) (T.h_need (by simp <;> omega) (T.h_need (decide_eq_true (by simpa using hk3 _ hj)) (T.h_need (room_of (by rw [storeV_size]; have h1 : (c.f0 j).size ≤ 1048576 := hk3 j hj; have h2 : a.size ≤ j * 1048611 := hI; show a.size + (35 + (c.f0 j).size) ≤ 9223372036854775807; omega)) (T.h_leaf ?_)))))
    · rw [wrap_next (by omega)]
      exact hΨ
  · unfold sps_step
    refine (T.h_ite (fun hc => absurd hc (by simp <;> omega)) (fun _ => T.h_leaf hΨ))
  · exact hk4

def sps_dec (b : Mem) (f : FSt) : Option (Csps × Vsps) :=
  match getSu 0 8 (findF 0 f.sl), getI (findF 10 f.sl), getStr (findF 4 f.sl), getI (findF 11 f.sl), id b, f.mem with
  | some (0, n_), some l_, some q_a, some q_i, [some (.cols m_ [.str f0_, .fl .f32 f1_, .fl .f32 f2_, .fl .f32 f3_, .fl .f32 f4_, .fl .f32 f5_, .fl .f32 f6_, .fl .f32 f7_])], [_] => some ({ n := n_, m := m_, f0 := f0_, f1 := f1_, f2 := f2_, f3 := f3_, f4 := f4_, f5 := f5_, f6 := f6_, f7 := f7_, l := l_ }, { a := q_a, i := q_i })
  | _, _, _, _, _, _ => none
theorem sps_dec_ok (b : Mem) (f : FSt) (x : Csps × Vsps) (h : sps_dec b f = some x) : b = x.1.base ∧ FLe b f (sps_st x.1 x.2) := by
  unfold sps_dec at h
  split at h
  · rename_i e0 e1 e2 e3 hb hm
    cases h
    have hb : b = _ := hb
    subst hb
    refine ⟨rfl, fle_of (fun p hp => ?_) (by rw [hm]; exact trivial)⟩
    simp only [List.mem_cons, List.not_mem_nil, or_false] at hp
    rcases hp with rfl | rfl | rfl | rfl
    · exact getSu_rel e0
    · exact getStr_rel e2
    · exact getI_rel e1
    · exact getI_rel e3
  · cases h
noncomputable def sps_sum : SumF Try.prog 22 spsRoot :=
  sumL (pathB spsRoot 0) sps_dec (fun x => x.1.base) (fun x => sps_st x.1 x.2) sps_R sps_dec_ok (by
    intro code hc x
    have hc2 : code = .block 0 (.loop (bodyB spsRoot 0)) := by
      have h : subR spsRoot (pathB spsRoot 0) = some (.block 0 (.loop (bodyB spsRoot 0))) := by kernel_rfl
      rw [h] at hc; cases hc; rfl
    subst hc2
    exact sps_tri x)

structure Cspi where
  n : Nat
  m : Nat
  f0 : Nat → ByteArray
  f1 : Nat → Nat
  f2 : Nat → Nat
  f3 : Nat → Nat
  f4 : Nat → Nat
  f5 : Nat → Nat
  f6 : Nat → Nat
  f7 : Nat → Nat
  l : Int
def Cspi.base (c : Cspi) : Mem := [some (.cols c.m [.str c.f0, .fl .f32 c.f1, .fl .f32 c.f2, .fl .f32 c.f3, .fl .f32 c.f4, .fl .f32 c.f5, .fl .f32 c.f6, .fl .f32 c.f7])]
structure Vspi where
  a : ByteArray
  i : Int
noncomputable abbrev spiRoot : Code := bodyOf Try.f19
def spi_st (c : Cspi) (v : Vspi) : FSt := ⟨[(4, .one (.str v.a)), (10, .one (.su 0 8 0 c.n false)), (11, .one (.num .i64 c.l)), (12, .one (.num .i64 v.i))], c.base ++ []⟩
def spi_step (c : Cspi) (v : Vspi) : T (Nx Vspi) :=
  .ite (decide (v.2 < c.11)) (.need (decide (0 ≤ v.2) && decide (v.2 < ((c.1 : Nat) : Int))) (.need (decide (v.2.toNat + 0 < c.2)) (.need (decide ((c.3 (v.2.toNat + 0)).size ≤ 1048576)) (.need (!decide (↑(v.1.size + (storeV (c.3 (v.2.toNat + 0)) (c.4 (v.2.toNat + 0)) (c.5 (v.2.toNat + 0)) (c.6 (v.2.toNat + 0)) (c.7 (v.2.toNat + 0)) (c.8 (v.2.toNat + 0)) (c.9 (v.2.toNat + 0)) (c.10 (v.2.toNat + 0))).size) > IntKind.i64.max)) (.leaf (.go { a := v.1 ++ storeV (c.3 (v.2.toNat + 0)) (c.4 (v.2.toNat + 0)) (c.5 (v.2.toNat + 0)) (c.6 (v.2.toNat + 0)) (c.7 (v.2.toNat + 0)) (c.8 (v.2.toNat + 0)) (c.9 (v.2.toNat + 0)) (c.10 (v.2.toNat + 0)), i := IntKind.i64.wrap (v.2 + 1) })))))) (.leaf (.out (EX.exit 0) ⟨[(4, AV.one (SV.str v.1)), (10, AV.one (SV.su 0 8 0 c.1 false)), (11, AV.one (SV.num IntKind.i64 c.11)), (12, AV.one (SV.num IntKind.i64 v.2))], c.base ++ []⟩))
theorem spi_round (c : Cspi) (v : Vspi) : roundF Try.prog 22 [k_iSy] spiRoot [] c.base [0, 2, 3, 4, 6, 9, 10, 11, 12, 13, 198] [4, 10, 11, 12] 0 (spi_st c v) = (spi_step c v).map (nxF (spi_st c)) := by kernel_rfl
def spi_g (c : Cspi) (j : Nat) (a : ByteArray) : ByteArray := stG c.f0 c.f1 c.f2 c.f3 c.f4 c.f5 c.f6 c.f7 j a
def spi_ok (c : Cspi) (v : Vspi) : Bool := decide (c.n ≤ c.m ∧ c.n ≤ 1048576 ∧ c.l = (c.n : Int) ∧ (∀ q, q < c.n → (c.f0 q).size ≤ 1048576) ∧ v.a.size ≤ v.i.toNat * 1048611 ∧ 0 ≤ v.i ∧ v.i ≤ ((c.n : Nat) : Int))
def spi_fin (c : Cspi) (a : ByteArray) : FSt := spi_st c ({ a := a, i := (c.n : Int) })
noncomputable def spi_R (x : Cspi × Vspi) : T (EX × FSt) := .need (spi_ok x.1 x.2) (.leaf (.normal, spi_fin x.1 (iter (spi_g x.1) (x.1.n - x.2.i.toNat) x.2.i.toNat x.2.a)))
theorem spi_tri (x : Cspi × Vspi) : TriR Try.prog 22 x.1.base (.block 0 (.loop (bodyB spiRoot 0))) (spi_st x.1 x.2) (spi_R x) := by
  obtain ⟨c, v⟩ := x
  refine triR_of mix (root := spiRoot) (by kernel_rfl) (by kernel_rfl) [0, 2, 3, 4, 6, 9, 10, 11, 12, 13, 198] [4, 10, 11, 12] (spi_st c) (spi_step c) (spi_round c) v _ ((c.n - v.i.toNat) + 1) (fun Φ h => ?_)
  have h0 := h.1
  have h1 : Φ (.normal, spi_fin c (iter (spi_g c) (c.n - v.i.toNat) v.i.toNat v.a)) := h.2
  simp only [spi_ok, decide_eq_true_eq] at h0
  obtain ⟨hk0, hk1, hk2, hk3, hk4, hi0, hin⟩ := h0
  have hv : v = (fun (j : Nat) (a : ByteArray) => ({ a := a, i := (j : Int) } : Vspi)) v.i.toNat v.a := by
    obtain ⟨a, i⟩ := v
    have hi0 : 0 ≤ i := hi0
    simp only [Int.toNat_of_nonneg hi0]
  have key := T_iterI (spi_step c) (fun (j : Nat) (a : ByteArray) => ({ a := a, i := (j : Int) } : Vspi)) c.n (spi_g c) (fun a => (.exit 0, spi_fin c a)) (fun (j : Nat) (a : ByteArray) => a.size ≤ j * 1048611) (fun j a hj hI => ?_) (fun j a hj hI Ψ hΨ => ?_) (fun a Ψ hΨ => ?_) (fun a => by simp) (c.n - v.i.toNat) v.i.toNat v.a (by omega) ?_ (fun r => Φ (blkEx 0 r.1, r.2)) (by simpa [blkEx] using h1)
  · exact (congrArg (fun z => (loopTree (spi_step c) (c.n - v.i.toNat + 1) z).holds fun r => Φ (blkEx 0 r.1, r.2)) hv).mpr key
  · show (stG c.f0 c.f1 c.f2 c.f3 c.f4 c.f5 c.f6 c.f7 j a).size ≤ (j + 1) * 1048611
    unfold stG
    rw [ByteArray.size_append, storeV_size]
    have := hk3 j hj
    have : a.size ≤ j * 1048611 := hI
    omega
  · unfold spi_step
    refine (T.h_ite (fun _ => ?_) (fun hc => absurd hc (by simp <;> omega)))
    refine (T.h_need (by simp <;> omega) (T.h_need (by simp <;> omega) (T.h_need (decide_eq_true (by simpa using hk3 _ hj)) (T.h_need (room_of (by rw [storeV_size]; have h1 : (c.f0 j).size ≤ 1048576 := hk3 j hj; have h2 : a.size ≤ j * 1048611 := hI; show a.size + (35 + (c.f0 j).size) ≤ 9223372036854775807; omega)) (T.h_leaf ?_)))))
    · rw [wrap_next (by omega)]
      exact hΨ
  · unfold spi_step
    refine (T.h_ite (fun hc => absurd hc (by simp <;> omega)) (fun _ => T.h_leaf hΨ))
  · exact hk4

def spi_dec (b : Mem) (f : FSt) : Option (Cspi × Vspi) :=
  match getSu 0 8 (findF 10 f.sl), getI (findF 11 f.sl), getStr (findF 4 f.sl), getI (findF 12 f.sl), id b, f.mem with
  | some (0, n_), some l_, some q_a, some q_i, [some (.cols m_ [.str f0_, .fl .f32 f1_, .fl .f32 f2_, .fl .f32 f3_, .fl .f32 f4_, .fl .f32 f5_, .fl .f32 f6_, .fl .f32 f7_])], [_] => some ({ n := n_, m := m_, f0 := f0_, f1 := f1_, f2 := f2_, f3 := f3_, f4 := f4_, f5 := f5_, f6 := f6_, f7 := f7_, l := l_ }, { a := q_a, i := q_i })
  | _, _, _, _, _, _ => none
theorem spi_dec_ok (b : Mem) (f : FSt) (x : Cspi × Vspi) (h : spi_dec b f = some x) : b = x.1.base ∧ FLe b f (spi_st x.1 x.2) := by
  unfold spi_dec at h
  split at h
  · rename_i e0 e1 e2 e3 hb hm
    cases h
    have hb : b = _ := hb
    subst hb
    refine ⟨rfl, fle_of (fun p hp => ?_) (by rw [hm]; exact trivial)⟩
    simp only [List.mem_cons, List.not_mem_nil, or_false] at hp
    rcases hp with rfl | rfl | rfl | rfl
    · exact getStr_rel e2
    · exact getSu_rel e0
    · exact getI_rel e1
    · exact getI_rel e3
  · cases h
noncomputable def spi_sum : SumF Try.prog 22 spiRoot :=
  sumL (pathB spiRoot 0) spi_dec (fun x => x.1.base) (fun x => spi_st x.1 x.2) spi_R spi_dec_ok (by
    intro code hc x
    have hc2 : code = .block 0 (.loop (bodyB spiRoot 0)) := by
      have h : subR spiRoot (pathB spiRoot 0) = some (.block 0 (.loop (bodyB spiRoot 0))) := by kernel_rfl
      rw [h] at hc; cases hc; rfl
    subst hc2
    exact spi_tri x)

noncomputable def k_sSp0 : Ctr Try.prog := mkF0 Try.prog mix [k_sAeL, k_sSyR] 17 Try.f17 (bodyOf Try.f17) Try.func17 (by kernel_rfl) (by kernel_rfl) [0, 2, 3, 4, 5, 8, 10, 11, 12, 199] 22 (by kernel_rfl) (by kernel_rfl) [sps_sum]
noncomputable def k_iSp0 : Ctr Try.prog := mkF0 Try.prog mix [k_iAe, k_iSy] 19 Try.f19 (bodyOf Try.f19) Try.func19 (by kernel_rfl) (by kernel_rfl) [0, 2, 3, 4, 6, 9, 10, 11, 12, 13, 199] 22 (by kernel_rfl) (by kernel_rfl) [spi_sum]
theorem noneIn_get {b : Nat → Bool} : ∀ (c s : Nat), noneIn b c s = true → ∀ j, s ≤ j → j < s + c → b j = false
  | 0, s, _, j, h1, h2 => by omega
  | c + 1, s, h, j, h1, h2 => by
    unfold noneIn at h
    simp only [Bool.and_eq_true] at h
    by_cases hj : j = s
    · subst hj; exact bnot_t h.1
    · exact noneIn_get c (s + 1) h.2 j (by omega) (by omega)
theorem areE_small {n : Nat} {f0 : Nat → ByteArray} {f1 f2 f3 f4 f5 f6 f7 : Nat → Nat} (h : areE n f0 f1 f2 f3 f4 f5 f6 f7 = true) (j : Nat) (hj : j < n) : (f0 j).size ≤ 1048576 := by
  unfold areE at h
  cases hN : noneIn (entBad f0 f1 f2 f3 f4 f5 f6 f7) n 0 with
  | false => rw [hN] at h; cases h
  | true =>
    have hb := noneIn_get n 0 hN j (Nat.zero_le j) (by omega)
    unfold entBad at hb
    cases hE : entOK (f0 j) (f1 j) (f2 j) (f3 j) (f4 j) (f5 j) (f6 j) (f7 j) with
    | false => rw [hE] at hb; cases hb
    | true =>
      unfold entOK nameOK at hE
      cases h1 : noneIn (nameB (f0 j)) (f0 j).size 0 with
      | false => rw [h1] at hE; cases hE
      | true =>
        rw [h1, cond_true] at hE
        cases h2 : decide (1 ≤ ((f0 j).size : Int)) with
        | false => rw [h2] at hE; cases hE
        | true =>
          rw [h2, cond_true] at hE
          cases h3 : decide (((f0 j).size : Int) ≤ 8) with
          | false => rw [h3] at hE; cases hE
          | true => have := of_decide_eq_true h3; omega
def storesV (n : Nat) (f0 : Nat → ByteArray) (f1 f2 f3 f4 f5 f6 f7 : Nat → Nat) : ByteArray := iter (stG f0 f1 f2 f3 f4 f5 f6 f7) n 0 ⟨#[]⟩
def run_Sp : List AV → Mem → T Res
  | [.one (.su 0 8 0 n false)], [some (.cols m [.str f0, .fl .f32 f1, .fl .f32 f2, .fl .f32 f3, .fl .f32 f4, .fl .f32 f5, .fl .f32 f6, .fl .f32 f7])] => .need (decide (n ≤ m)) (.need (decide (n ≤ 1048576)) (.need (szOK n f0) (.ite (areE n f0 f1 f2 f3 f4 f5 f6 f7) (.leaf (.tup [.one (.str (storesV n f0 f1 f2 f3 f4 f5 f6 f7)), .one (.tt true)], [])) (.leaf (.tup [.one (.str ⟨#[]⟩), .one (.tt false)], [])))))
  | _, _ => .fail
theorem sSp0_ev (n m : Nat) (f0 : Nat → ByteArray) (f1 f2 f3 f4 f5 f6 f7 : Nat → Nat) : k_sSp0.run [.one (.su 0 8 0 n false)] [some (.cols m [.str f0, .fl .f32 f1, .fl .f32 f2, .fl .f32 f3, .fl .f32 f4, .fl .f32 f5, .fl .f32 f6, .fl .f32 f7])] =
    .need (decide (n ≤ m)) (.need (decide (n ≤ 1048576)) (.need (szOK n f0) (.ite (!areE n f0 f1 f2 f3 f4 f5 f6 f7) (.leaf (.tup [.one (.str ⟨#[]⟩), .one (.tt false)], [])) (.need (sps_ok { n := n, m := m, f0 := f0, f1 := f1, f2 := f2, f3 := f3, f4 := f4, f5 := f5, f6 := f6, f7 := f7, l := (n : Int) } { a := ⟨#[]⟩, i := 0 }) (.leaf (.tup [.one (.str (storesV n f0 f1 f2 f3 f4 f5 f6 f7)), .one (.tt true)], [])))))) := by kernel_rfl
noncomputable def k_sSp : Ctr Try.prog := ((k_sSp0.to run_Sp (by
  intro args mem hF
  unfold run_Sp
  split
  · rename_i n m f0 f1 f2 f3 f4 f5 f6 f7
    rw [sSp0_ev]
    constructor
    intro Φ hΦ h
    have hm : n ≤ m := of_decide_eq_true h.1
    have hn : n ≤ 1048576 := of_decide_eq_true h.2.1
    have hl := h.2.2.2
    refine T.h_need h.1 (T.h_need h.2.1 (T.h_need h.2.2.1 (T.h_ite (fun hc => T.h_leaf (hl.2 (bnot_t hc))) (fun hc => ?_))))
    have hA := bnot_f hc
    exact T.h_need (decide_eq_true ⟨hm, hn, rfl, fun q hq => areE_small hA q hq, Nat.zero_le _, Int.le_refl 0, Int.natCast_nonneg _⟩) (T.h_leaf (hl.1 hA))
  · exact Weak.fail _)).su).own
theorem iSp0_ev (n m : Nat) (f0 : Nat → ByteArray) (f1 f2 f3 f4 f5 f6 f7 : Nat → Nat) : k_iSp0.run [.one (.su 0 8 0 n false)] [some (.cols m [.str f0, .fl .f32 f1, .fl .f32 f2, .fl .f32 f3, .fl .f32 f4, .fl .f32 f5, .fl .f32 f6, .fl .f32 f7])] =
    .need (decide (n ≤ m)) (.need (decide (n ≤ 1048576)) (.need (szOK n f0) (.ite (!areE n f0 f1 f2 f3 f4 f5 f6 f7) (.leaf (.tup [.one (.str ⟨#[]⟩), .one (.tt false)], [])) (.need (spi_ok { n := n, m := m, f0 := f0, f1 := f1, f2 := f2, f3 := f3, f4 := f4, f5 := f5, f6 := f6, f7 := f7, l := (n : Int) } { a := ⟨#[]⟩, i := 0 }) (.leaf (.tup [.one (.str (storesV n f0 f1 f2 f3 f4 f5 f6 f7)), .one (.tt true)], [])))))) := by kernel_rfl
noncomputable def k_iSp : Ctr Try.prog := ((k_iSp0.to run_Sp (by
  intro args mem hF
  unfold run_Sp
  split
  · rename_i n m f0 f1 f2 f3 f4 f5 f6 f7
    rw [iSp0_ev]
    constructor
    intro Φ hΦ h
    have hm : n ≤ m := of_decide_eq_true h.1
    have hn : n ≤ 1048576 := of_decide_eq_true h.2.1
    have hl := h.2.2.2
    refine T.h_need h.1 (T.h_need h.2.1 (T.h_need h.2.2.1 (T.h_ite (fun hc => T.h_leaf (hl.2 (bnot_t hc))) (fun hc => ?_))))
    have hA := bnot_f hc
    exact T.h_need (decide_eq_true ⟨hm, hn, rfl, fun q hq => areE_small hA q hq, Nat.zero_le _, Int.le_refl 0, Int.natCast_nonneg _⟩) (T.h_leaf (hl.1 hA))
  · exact Weak.fail _)).su).own

end Go.Proofs.Ytdmcpgbnomhahaa
