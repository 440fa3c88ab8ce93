/-
  The bytes of an entry: both functions in the same words. No conditions.
-/
import Derived.Test.YtdmcpgbnomhahaaVn
import Derived.Test.YtdmcpgbnomhahaaRw
namespace Go.Proofs.Ytdmcpgbnomhahaa
set_option linter.unusedVariables false
set_option linter.unusedSimpArgs false
open Go.RowKit

noncomputable def k_BitsOf0 : Ctr Try.prog := mkC Try.prog mix [k_f32bits] 74 Try.f74 (bodyOf Try.f74) Try.func74 (by kernel_rfl) (by kernel_rfl) []
theorem BitsOf_ev (x : Nat) (mem : Mem) : k_BitsOf0.run [.one (.fl .f32 x)] mem = .ite (!feq .f32 x x) (.leaf (.one (.int .i64 2143289344), [])) (.need (!isNan .f32 x) (.leaf (.one (.num .i64 (IntKind.i64.wrap x)), []))) := by kernel_rfl
noncomputable def k_BitsOf : Ctr Try.prog := k_BitsOf0.to (runF .f32 fun x => .leaf (.one (.num .i64 x))) (weak_F (C := k_BitsOf0) fun x mem hx => ⟨fun Φ hΦ h => by
  rw [BitsOf_ev]
  have h32 : x < 2 ^ 32 := hx.1
  refine ⟨fun hc => hΦ _ _ (le2_ii ?_) h, fun hc => ⟨?_, hΦ _ _ (le2_in ?_) h⟩⟩
  · rw [feq_self] at hc
    rw [can_nan hx (by simpa using hc)]; rfl
  · rw [feq_self] at hc; simpa using hc
  · exact IntWalk.i64_in _ (by omega)⟩)
structure Ccks where
  s : ByteArray
def Ccks.base (c : Ccks) : Mem := []
structure Vcks where
  n : Int
  i : Int
noncomputable abbrev cksRoot : Code := bodyOf Try.f70
def cks_st (c : Ccks) (v : Vcks) : FSt := ⟨[(0, .one (.num .i64 v.n)), (1, .one (.str c.s)), (5, .one (.num .i64 v.i))], c.base ++ []⟩
def cks_step (c : Ccks) (v : Vcks) : T (Nx Vcks) :=
  .ite (decide (v.2 < ↑c.1.size)) (.need (decide (0 ≤ v.2 ∧ v.2 < ↑c.1.size)) (.need (true) (.leaf (.go { n := (IntKind.i64.wrap (IntKind.i64.wrap (IntKind.i64.wrap (809 * v.1) + IntKind.i64.wrap (byteAt c.1 v.2.toNat)) + 103)).tmod 65003, i := IntKind.i64.wrap (v.2 + 1) })))) (.leaf (.out (EX.exit 0) ⟨[(0, AV.one (SV.num IntKind.i64 v.1)), (1, AV.one (SV.str c.1)), (5, AV.one (SV.num IntKind.i64 v.2))], c.base ++ []⟩))
theorem cks_round (c : Ccks) (v : Vcks) : roundF Try.prog 22 [] cksRoot [] c.base [0, 1, 4, 5, 9, 198] [0, 1, 5] 0 (cks_st c v) = (cks_step c v).map (nxF (cks_st c)) := by kernel_rfl
def ckG (s : ByteArray) (j : Nat) (a : Int) : Int := (IntKind.i64.wrap (IntKind.i64.wrap (IntKind.i64.wrap (809 * a) + IntKind.i64.wrap (byteAt s j)) + 103)).tmod 65003
def cks_g (c : Ccks) (j : Nat) (a : Int) : Int := ckG c.s j a
def cks_ok (c : Ccks) (v : Vcks) : Bool := decide (c.s.size ≤ 1099511627776 ∧ 0 ≤ v.i ∧ v.i ≤ ((c.s.size : Nat) : Int))
def cks_fin (c : Ccks) (a : Int) : FSt := cks_st c ({ n := a, i := (c.s.size : Int) })
noncomputable def cks_R (x : Ccks × Vcks) : T (EX × FSt) := .need (cks_ok x.1 x.2) (.leaf (.normal, cks_fin x.1 (iter (cks_g x.1) (x.1.s.size - x.2.i.toNat) x.2.i.toNat x.2.n)))
theorem cks_tri (x : Ccks × Vcks) : TriR Try.prog 22 x.1.base (.block 0 (.loop (bodyB cksRoot 0))) (cks_st x.1 x.2) (cks_R x) := by
  obtain ⟨c, v⟩ := x
  refine triR_of mix (root := cksRoot) (by kernel_rfl) (by kernel_rfl) [0, 1, 4, 5, 9, 198] [0, 1, 5] (cks_st c) (cks_step c) (cks_round c) v _ ((c.s.size - v.i.toNat) + 1) (fun Φ h => ?_)
  have h0 := h.1
  have h1 : Φ (.normal, cks_fin c (iter (cks_g c) (c.s.size - v.i.toNat) v.i.toNat v.n)) := h.2
  simp only [cks_ok, decide_eq_true_eq] at h0
  obtain ⟨hk0, hi0, hin⟩ := h0
  have hv : v = (fun (j : Nat) (a : Int) => ({ n := a, i := (j : Int) } : Vcks)) v.i.toNat v.n := by
    obtain ⟨n, i⟩ := v
    have hi0 : 0 ≤ i := hi0
    simp only [Int.toNat_of_nonneg hi0]
  have key := T_iter (cks_step c) (fun (j : Nat) (a : Int) => ({ n := a, i := (j : Int) } : Vcks)) c.s.size (cks_g c) (fun a => (.exit 0, cks_fin c a)) (fun j a hj Ψ hΨ => ?_) (fun a Ψ hΨ => ?_) (fun a => by simp) (c.s.size - v.i.toNat) v.i.toNat v.n (by omega) (fun r => Φ (blkEx 0 r.1, r.2)) (by simpa [blkEx] using h1)
  · exact (congrArg (fun z => (loopTree (cks_step c) (c.s.size - v.i.toNat + 1) z).holds fun r => Φ (blkEx 0 r.1, r.2)) hv).mpr key
  · unfold cks_step
    refine (T.h_ite (fun _ => ?_) (fun hc => absurd hc (by simp <;> omega)))
    refine (T.h_need (by simp <;> omega) (T.h_need (by simp <;> omega) ?_))
    refine T.h_leaf ?_
    rw [wrap_next (by omega)]
    exact hΨ
  · unfold cks_step
    refine (T.h_ite (fun hc => absurd hc (by simp <;> omega)) (fun _ => T.h_leaf hΨ.2))

def cks_dec (b : Mem) (f : FSt) : Option (Ccks × Vcks) :=
  match getStr (findF 1 f.sl), getI (findF 0 f.sl), getI (findF 5 f.sl), id b, f.mem with
  | some s_, some q_n, some q_i, [], [] => some ({ s := s_ }, { n := q_n, i := q_i })
  | _, _, _, _, _ => none
theorem cks_dec_ok (b : Mem) (f : FSt) (x : Ccks × Vcks) (h : cks_dec b f = some x) : b = x.1.base ∧ FLe b f (cks_st x.1 x.2) := by
  unfold cks_dec at h
  split at h
  · rename_i e0 e1 e2 hb hm
    cases h
    have hb : b = _ := hb
    subst hb
    refine ⟨rfl, fle_of (fun p hp => ?_) (by rw [hm]; exact trivial)⟩
    simp only [List.mem_cons, List.not_mem_nil, or_false] at hp
    rcases hp with rfl | rfl | rfl
    · exact getI_rel e1
    · exact getStr_rel e0
    · exact getI_rel e2
  · cases h
noncomputable def cks_sum : SumF Try.prog 22 cksRoot :=
  sumL (pathB cksRoot 0) cks_dec (fun x => x.1.base) (fun x => cks_st x.1 x.2) cks_R cks_dec_ok (by
    intro code hc x
    have hc2 : code = .block 0 (.loop (bodyB cksRoot 0)) := by
      have h : subR cksRoot (pathB cksRoot 0) = some (.block 0 (.loop (bodyB cksRoot 0))) := by kernel_rfl
      rw [h] at hc; cases hc; rfl
    subst hc2
    exact cks_tri x)

structure Ccki where
  s : ByteArray
  l : Int
def Ccki.base (c : Ccki) : Mem := []
structure Vcki where
  n : Int
  i : Int
noncomputable abbrev ckiRoot : Code := bodyOf Try.f75
def cki_st (c : Ccki) (v : Vcki) : FSt := ⟨[(0, .one (.num .i64 v.n)), (1, .one (.str c.s)), (7, .one (.num .i64 c.l)), (8, .one (.num .i64 v.i))], c.base ++ []⟩
def cki_step (c : Ccki) (v : Vcki) : T (Nx Vcki) :=
  .ite (decide (v.2 < c.2)) (.need (decide (0 ≤ v.2 ∧ v.2 < ↑c.1.size)) (.need (true) (.leaf (.go { n := (IntKind.i64.wrap (IntKind.i64.wrap (IntKind.i64.wrap (809 * v.1) + IntKind.i64.wrap (byteAt c.1 v.2.toNat)) + 103)).tmod 65003, i := IntKind.i64.wrap (v.2 + 1) })))) (.leaf (.out (EX.exit 0) ⟨[(0, AV.one (SV.num IntKind.i64 v.1)), (1, AV.one (SV.str c.1)), (7, AV.one (SV.num IntKind.i64 c.2)), (8, AV.one (SV.num IntKind.i64 v.2))], c.base ++ []⟩))
theorem cki_round (c : Ccki) (v : Vcki) : roundF Try.prog 22 [] ckiRoot [] c.base [0, 1, 4, 5, 7, 8, 9, 198] [0, 1, 7, 8] 0 (cki_st c v) = (cki_step c v).map (nxF (cki_st c)) := by kernel_rfl
def cki_g (c : Ccki) (j : Nat) (a : Int) : Int := ckG c.s j a
def cki_ok (c : Ccki) (v : Vcki) : Bool := decide (c.s.size ≤ 1099511627776 ∧ c.l = (c.s.size : Int) ∧ 0 ≤ v.i ∧ v.i ≤ ((c.s.size : Nat) : Int))
def cki_fin (c : Ccki) (a : Int) : FSt := cki_st c ({ n := a, i := (c.s.size : Int) })
noncomputable def cki_R (x : Ccki × Vcki) : T (EX × FSt) := .need (cki_ok x.1 x.2) (.leaf (.normal, cki_fin x.1 (iter (cki_g x.1) (x.1.s.size - x.2.i.toNat) x.2.i.toNat x.2.n)))
theorem cki_tri (x : Ccki × Vcki) : TriR Try.prog 22 x.1.base (.block 0 (.loop (bodyB ckiRoot 0))) (cki_st x.1 x.2) (cki_R x) := by
  obtain ⟨c, v⟩ := x
  refine triR_of mix (root := ckiRoot) (by kernel_rfl) (by kernel_rfl) [0, 1, 4, 5, 7, 8, 9, 198] [0, 1, 7, 8] (cki_st c) (cki_step c) (cki_round c) v _ ((c.s.size - v.i.toNat) + 1) (fun Φ h => ?_)
  have h0 := h.1
  have h1 : Φ (.normal, cki_fin c (iter (cki_g c) (c.s.size - v.i.toNat) v.i.toNat v.n)) := h.2
  simp only [cki_ok, decide_eq_true_eq] at h0
  obtain ⟨hk0, hk1, hi0, hin⟩ := h0
  have hv : v = (fun (j : Nat) (a : Int) => ({ n := a, i := (j : Int) } : Vcki)) v.i.toNat v.n := by
    obtain ⟨n, i⟩ := v
    have hi0 : 0 ≤ i := hi0
    simp only [Int.toNat_of_nonneg hi0]
  have key := T_iter (cki_step c) (fun (j : Nat) (a : Int) => ({ n := a, i := (j : Int) } : Vcki)) c.s.size (cki_g c) (fun a => (.exit 0, cki_fin c a)) (fun j a hj Ψ hΨ => ?_) (fun a Ψ hΨ => ?_) (fun a => by simp) (c.s.size - v.i.toNat) v.i.toNat v.n (by omega) (fun r => Φ (blkEx 0 r.1, r.2)) (by simpa [blkEx] using h1)
  · exact (congrArg (fun z => (loopTree (cki_step c) (c.s.size - v.i.toNat + 1) z).holds fun r => Φ (blkEx 0 r.1, r.2)) hv).mpr key
  · unfold cki_step
    refine (T.h_ite (fun _ => ?_) (fun hc => absurd hc (by simp <;> omega)))
    refine (T.h_need (by simp <;> omega) (T.h_need (by simp <;> omega) ?_))
    refine T.h_leaf ?_
    rw [wrap_next (by omega)]
    exact hΨ
  · unfold cki_step
    refine (T.h_ite (fun hc => absurd hc (by simp <;> omega)) (fun _ => T.h_leaf hΨ.2))

def cki_dec (b : Mem) (f : FSt) : Option (Ccki × Vcki) :=
  match getStr (findF 1 f.sl), getI (findF 7 f.sl), getI (findF 0 f.sl), getI (findF 8 f.sl), id b, f.mem with
  | some s_, some l_, some q_n, some q_i, [], [] => some ({ s := s_, l := l_ }, { n := q_n, i := q_i })
  | _, _, _, _, _, _ => none
theorem cki_dec_ok (b : Mem) (f : FSt) (x : Ccki × Vcki) (h : cki_dec b f = some x) : b = x.1.base ∧ FLe b f (cki_st x.1 x.2) := by
  unfold cki_dec at h
  split at h
  · rename_i e0 e1 e2 e3 hb hm
    cases h
    have hb : b = _ := hb
    subst hb
    refine ⟨rfl, fle_of (fun p hp => ?_) (by rw [hm]; exact trivial)⟩
    simp only [List.mem_cons, List.not_mem_nil, or_false] at hp
    rcases hp with rfl | rfl | rfl | rfl
    · exact getI_rel e2
    · exact getStr_rel e0
    · exact getI_rel e1
    · exact getI_rel e3
  · cases h
noncomputable def cki_sum : SumF Try.prog 22 ckiRoot :=
  sumL (pathB ckiRoot 0) cki_dec (fun x => x.1.base) (fun x => cki_st x.1 x.2) cki_R cki_dec_ok (by
    intro code hc x
    have hc2 : code = .block 0 (.loop (bodyB ckiRoot 0)) := by
      have h : subR ckiRoot (pathB ckiRoot 0) = some (.block 0 (.loop (bodyB ckiRoot 0))) := by kernel_rfl
      rw [h] at hc; cases hc; rfl
    subst hc2
    exact cki_tri x)

noncomputable def k_sCk0 : Ctr Try.prog := (mkF0 Try.prog mix [] 70 Try.f70 (bodyOf Try.f70) Try.func70 (by kernel_rfl) (by kernel_rfl) [0, 1, 4, 5, 9, 198] 22 (by kernel_rfl) (by kernel_rfl) [cks_sum]).mg
noncomputable def k_iCk0 : Ctr Try.prog := (mkF0 Try.prog mix [] 75 Try.f75 (bodyOf Try.f75) Try.func75 (by kernel_rfl) (by kernel_rfl) [0, 1, 4, 5, 7, 8, 9, 198] 22 (by kernel_rfl) (by kernel_rfl) [cki_sum]).mg
def ckV (s : ByteArray) : Int := iter (ckG s) s.size 0 0
def run_ck : List AV → Mem → T Res
  | [.one (.int .i64 0), .one (.str s)], [] => .need (decide (s.size ≤ 1099511627776)) (.leaf (.one (.num .i64 (ckV s)), []))
  | _, _ => .fail
theorem sCk0_ev (s : ByteArray) : k_sCk0.run [.one (.int .i64 0), .one (.str s)] [] = .need (cks_ok { s := s } { n := 0, i := 0 }) (.leaf (.one (.num .i64 (ckV s)), [])) := by kernel_rfl
noncomputable def k_sCk : Ctr Try.prog := (k_sCk0.to run_ck (by
  intro args mem _
  unfold run_ck
  split
  · rename_i s _
    rw [sCk0_ev]
    constructor
    intro Φ hΦ h
    have hs := of_decide_eq_true h.1
    exact T.h_need (decide_eq_true ⟨hs, Int.le_refl 0, Int.natCast_nonneg _⟩) (T.h_leaf h.2)
  · exact Weak.fail _)).own
theorem iCk0_ev (s : ByteArray) : k_iCk0.run [.one (.int .i64 0), .one (.str s)] [] = .need (cki_ok { s := s, l := (s.size : Int) } { n := 0, i := 0 }) (.leaf (.one (.num .i64 (ckV s)), [])) := by kernel_rfl
noncomputable def k_iCk : Ctr Try.prog := (k_iCk0.to run_ck (by
  intro args mem _
  unfold run_ck
  split
  · rename_i s _
    rw [iCk0_ev]
    constructor
    intro Φ hΦ h
    have hs := of_decide_eq_true h.1
    exact T.h_need (decide_eq_true ⟨hs, rfl, Int.le_refl 0, Int.natCast_nonneg _⟩) (T.h_leaf h.2)
  · exact Weak.fail _)).own
noncomputable def k_s4 : Ctr Try.prog := mkF0 Try.prog mix [k_l01Bits] 69 Try.f69 (bodyOf Try.f69) Try.func69 (by kernel_rfl) (by kernel_rfl) [0, 2, 3, 198] 21 (by kernel_rfl) (by kernel_rfl) []
noncomputable def k_sNo0 : Ctr Try.prog := mkF0 Try.prog mix [] 68 Try.f68 (bodyOf Try.f68) Try.func68 (by kernel_rfl) (by kernel_rfl) [0, 2, 3, 198] 36 (by kernel_rfl) (by kernel_rfl) []
noncomputable def k_iNo : Ctr Try.prog := mkF0 Try.prog mix [] 73 Try.f73 (bodyOf Try.f73) Try.func73 (by kernel_rfl) (by kernel_rfl) [0, 1, 2, 198] 16 (by kernel_rfl) (by kernel_rfl) []
theorem sNo0_ev (s : ByteArray) (x0 x1 x2 x3 x4 x5 x6 : Nat) : k_sNo0.run [.one (.ptr 0 8 0 0)] [some (.box [.str s, .fl .f32 x0, .fl .f32 x1, .fl .f32 x2, .fl .f32 x3, .fl .f32 x4, .fl .f32 x5, .fl .f32 x6])] = .leaf (.one (.sl 1 1 0 7 7 true), [some (rowBlk 7 1 [.fl .f32 x0, .fl .f32 x1, .fl .f32 x2, .fl .f32 x3, .fl .f32 x4, .fl .f32 x5, .fl .f32 x6])]) := by kernel_rfl
theorem row7_le (x0 x1 x2 x3 x4 x5 x6 : Nat) : BlLe (rowBlk 7 1 [.fl .f32 x0, .fl .f32 x1, .fl .f32 x2, .fl .f32 x3, .fl .f32 x4, .fl .f32 x5, .fl .f32 x6]) (.cols 7 [.fl .f32 fun q => [x0, x1, x2, x3, x4, x5, x6].getD q 0]) := by
  refine BlLe.mk (Nat.le_refl 7) rfl fun i hi j hj => ?_
  have hi : i < 7 := hi
  have hj : j < 1 := hj
  obtain rfl : j = 0 := by omega
  match i, hi with
  | 0, _ => exact ⟨.fl .f32 x0, .fl .f32 x0, rfl, rfl, fun _ _ h => h⟩
  | 1, _ => exact ⟨.fl .f32 x1, .fl .f32 x1, rfl, rfl, fun _ _ h => h⟩
  | 2, _ => exact ⟨.fl .f32 x2, .fl .f32 x2, rfl, rfl, fun _ _ h => h⟩
  | 3, _ => exact ⟨.fl .f32 x3, .fl .f32 x3, rfl, rfl, fun _ _ h => h⟩
  | 4, _ => exact ⟨.fl .f32 x4, .fl .f32 x4, rfl, rfl, fun _ _ h => h⟩
  | 5, _ => exact ⟨.fl .f32 x5, .fl .f32 x5, rfl, rfl, fun _ _ h => h⟩
  | 6, _ => exact ⟨.fl .f32 x6, .fl .f32 x6, rfl, rfl, fun _ _ h => h⟩
theorem sl_su (id sz i len cap : Nat) (kn : Bool) (h : len ≤ cap) (ρ : Rho) (v : Value) (hv : (AV.one (.sl id sz i len cap kn)).rel ρ v) : (AV.one (.su id sz i len kn)).rel ρ v := by
  obtain ⟨b, o, h1, rfl⟩ := hv
  exact ⟨_, cap, rfl, h, fun _ => ⟨b, o, h1, rfl⟩⟩
theorem row7_le2 (x0 x1 x2 x3 x4 x5 x6 : Nat) : le2 ((.one (.sl 1 1 0 7 7 true), [some (rowBlk 7 1 [.fl .f32 x0, .fl .f32 x1, .fl .f32 x2, .fl .f32 x3, .fl .f32 x4, .fl .f32 x5, .fl .f32 x6])]) : Res) ((.one (.su 1 1 0 7 true), [some (.cols 7 [.fl .f32 fun q => [x0, x1, x2, x3, x4, x5, x6].getD q 0])]) : Res) := ⟨⟨row7_le x0 x1 x2 x3 x4 x5 x6, trivial⟩, sl_su 1 1 0 7 7 true (Nat.le_refl 7)⟩
def run_sNo : List AV → Mem → T Res
  | [.one (.ptr 0 8 0 0)], [some (.box [.str s, .fl .f32 x0, .fl .f32 x1, .fl .f32 x2, .fl .f32 x3, .fl .f32 x4, .fl .f32 x5, .fl .f32 x6])] => .leaf (.one (.su 1 1 0 7 true), [some (.cols 7 [.fl .f32 fun q => [x0, x1, x2, x3, x4, x5, x6].getD q 0])])
  | _, _ => .fail
noncomputable def k_sNo : Ctr Try.prog := (k_sNo0.to run_sNo (by
  intro args mem _
  unfold run_sNo
  split
  · rename_i s x0 x1 x2 x3 x4 x5 x6 _
    rw [sNo0_ev]
    constructor
    intro Φ hΦ h
    exact T.h_leaf (hΦ _ _ (row7_le2 x0 x1 x2 x3 x4 x5 x6) h)
  · exact Weak.fail _)).own
noncomputable def k_iSy0 : Ctr Try.prog := mkF0 Try.prog mix [k_iNo, k_BitsOf, k_iCk] 41 Try.f41 (bodyOf Try.f41) Try.func41 (by kernel_rfl) (by kernel_rfl) [0, 1, 2, 3, 5, 6, 7, 26, 27, 28, 29, 198] 61 (by kernel_rfl) (by kernel_rfl) []
noncomputable def k_sSy0 : Ctr Try.prog := mkF0 Try.prog mix [k_sNo, k_s4, k_sCk] 38 Try.f38 (bodyOf Try.f38) Try.func38 (by kernel_rfl) (by kernel_rfl) [0, 2, 3, 4, 5, 6, 27, 28, 29, 198] 52 (by kernel_rfl) (by kernel_rfl) []
theorem size_map {α : Type} (f : Nat → α) (n : Nat) : ((List.range n).map f).length = n := by simp
def apC (n : Nat) (f : Nat → Int) (l : List Int) : Nat → Int := fun j => if j < n then f j else l.getD (0 + (j - n)) 0
def strF (f : Nat → Int) (n : Nat) : ByteArray := strOfNums ((List.range n).map fun q => f (0 + q))
theorem strF_size (f : Nat → Int) (n : Nat) : (strF f n).size = n := by unfold strF; rw [strOfNums_size, size_map]
def stH (s : ByteArray) : Nat → Int := fun j => if j < 4 + 1 then (if j = 4 then IntKind.u8.wrap (s.size : Int) else [79, 82, 66, 49].getD j 0) else byteAt s (0 + (j - (4 + 1)))
def st7 (s : ByteArray) (b : Nat → List Int) (x0 x1 x2 x3 x4 x5 x6 : Nat) : Nat → Int := apC (4 + 1 + s.size + 4 + 4 + 4 + 4 + 4 + 4) (apC (4 + 1 + s.size + 4 + 4 + 4 + 4 + 4) (apC (4 + 1 + s.size + 4 + 4 + 4 + 4) (apC (4 + 1 + s.size + 4 + 4 + 4) (apC (4 + 1 + s.size + 4 + 4) (apC (4 + 1 + s.size + 4) (apC (4 + 1 + s.size) (stH s) (b x0)) (b x1)) (b x2)) (b x3)) (b x4)) (b x5)) (b x6)
def stV (s : ByteArray) (b : Nat → List Int) (c : Int → List Int) (x0 x1 x2 x3 x4 x5 x6 : Nat) : ByteArray := strF (apC (4 + 1 + s.size + 4 + 4 + 4 + 4 + 4 + 4 + 4) (st7 s b x0 x1 x2 x3 x4 x5 x6) (c (ckV (strF (st7 s b x0 x1 x2 x3 x4 x5 x6) (4 + 1 + s.size + 4 + 4 + 4 + 4 + 4 + 4 + 4))))) (4 + 1 + s.size + 4 + 4 + 4 + 4 + 4 + 4 + 4 + 2)
def iB (x : Nat) : List Int := [IntKind.u8.wrap (x : Int), IntKind.u8.wrap ((x : Int).fdiv (2 ^ 8)), IntKind.u8.wrap ((x : Int).fdiv (2 ^ 16)), IntKind.u8.wrap ((x : Int).fdiv (2 ^ 24))]
def sB (x : Nat) : List Int := [IntKind.u8.wrap ((x : Int).tmod 256), IntKind.u8.wrap ((IntKind.i64.wrap ((x : Int).tdiv 256)).tmod 256), IntKind.u8.wrap ((IntKind.i64.wrap ((x : Int).tdiv 65536)).tmod 256), IntKind.u8.wrap (IntKind.i64.wrap ((x : Int).tdiv 16777216))]
def iC (k : Int) : List Int := [IntKind.u8.wrap k, IntKind.u8.wrap (k.fdiv (2 ^ 8))]
def sC (k : Int) : List Int := [IntKind.u8.wrap (k.tmod 256), IntKind.u8.wrap (IntKind.i64.wrap (k.tdiv 256))]
theorem iB_eq {x : Nat} (h : Can .f32 x) : iB x = sB x := by
  have h32 : x < 4294967296 := h.1
  have e1 : (x : Int).fdiv (2 ^ 8) = (x : Int) / 256 := Int.fdiv_eq_ediv_of_nonneg _ (by decide)
  have e2 : (x : Int).fdiv (2 ^ 16) = (x : Int) / 65536 := Int.fdiv_eq_ediv_of_nonneg _ (by decide)
  have e3 : (x : Int).fdiv (2 ^ 24) = (x : Int) / 16777216 := Int.fdiv_eq_ediv_of_nonneg _ (by decide)
  have t1 : (x : Int).tdiv 256 = (x : Int) / 256 := Int.tdiv_eq_ediv_of_nonneg (by omega)
  have t2 : (x : Int).tdiv 65536 = (x : Int) / 65536 := Int.tdiv_eq_ediv_of_nonneg (by omega)
  have t3 : (x : Int).tdiv 16777216 = (x : Int) / 16777216 := Int.tdiv_eq_ediv_of_nonneg (by omega)
  have m0 : (x : Int).tmod 256 = (x : Int) % 256 := Int.tmod_eq_emod_of_nonneg (by omega)
  have w1 : IntKind.i64.wrap ((x : Int) / 256) = (x : Int) / 256 := IntWalk.i64_in _ (by omega)
  have w2 : IntKind.i64.wrap ((x : Int) / 65536) = (x : Int) / 65536 := IntWalk.i64_in _ (by omega)
  have w3 : IntKind.i64.wrap ((x : Int) / 16777216) = (x : Int) / 16777216 := IntWalk.i64_in _ (by omega)
  have m1 : ((x : Int) / 256).tmod 256 = (x : Int) / 256 % 256 := Int.tmod_eq_emod_of_nonneg (by omega)
  have m2 : ((x : Int) / 65536).tmod 256 = (x : Int) / 65536 % 256 := Int.tmod_eq_emod_of_nonneg (by omega)
  unfold iB sB
  rw [e1, e2, e3, t1, t2, t3, m0, w1, w2, w3, m1, m2]
  simp only [IntKind.wrap_u8, Int.emod_emod]
theorem iC_eq {k : Int} (h0 : 0 ≤ k) (h1 : k < 65536) : iC k = sC k := by
  have e1 : k.fdiv (2 ^ 8) = k / 256 := Int.fdiv_eq_ediv_of_nonneg _ (by decide)
  have t1 : k.tdiv 256 = k / 256 := Int.tdiv_eq_ediv_of_nonneg h0
  have m0 : k.tmod 256 = k % 256 := Int.tmod_eq_emod_of_nonneg h0
  have w1 : IntKind.i64.wrap (k / 256) = k / 256 := IntWalk.i64_in _ (by omega)
  unfold iC sC
  rw [e1, t1, m0, w1]
  simp only [IntKind.wrap_u8, Int.emod_emod]
theorem byteAt_in (s : ByteArray) (j : Nat) : 0 ≤ byteAt s j ∧ byteAt s j < 256 := by
  unfold byteAt
  split
  · rename_i b _
    have := b.toNat_lt
    omega
  · omega
theorem ckG_in (s : ByteArray) (j : Nat) (a : Int) (h : 0 ≤ a ∧ a < 65003) : 0 ≤ ckG s j a ∧ ckG s j a < 65003 := by
  have hb := byteAt_in s j
  unfold ckG
  rw [IntWalk.i64_in (809 * a) (by omega), IntWalk.i64_in (byteAt s j) (by omega), IntWalk.i64_in (809 * a + byteAt s j) (by omega), IntWalk.i64_in (809 * a + byteAt s j + 103) (by omega), Int.tmod_eq_emod_of_nonneg (by omega)]
  omega
theorem iter_in {α : Type} (g : Nat → α → α) (p : α → Prop) (hg : ∀ j a, p a → p (g j a)) : ∀ (n i : Nat) (a : α), p a → p (iter g n i a)
  | 0, _, _, h => h
  | n + 1, i, a, h => iter_in g p hg n (i + 1) (g i a) (hg i a h)
theorem ckV_in (s : ByteArray) : 0 ≤ ckV s ∧ ckV s < 65003 := iter_in (ckG s) (fun a => 0 ≤ a ∧ a < 65003) (fun j a h => ckG_in s j a h) s.size 0 0 (by decide)
def storeV (s : ByteArray) (x0 x1 x2 x3 x4 x5 x6 : Nat) : ByteArray := stV s sB sC x0 x1 x2 x3 x4 x5 x6
theorem storeV_size (s : ByteArray) (x0 x1 x2 x3 x4 x5 x6 : Nat) : (storeV s x0 x1 x2 x3 x4 x5 x6).size = 35 + s.size := by
  unfold storeV stV
  rw [strF_size]; omega
theorem stV_eq (s : ByteArray) (x0 x1 x2 x3 x4 x5 x6 : Nat) (h0 : Can .f32 x0) (h1 : Can .f32 x1) (h2 : Can .f32 x2) (h3 : Can .f32 x3) (h4 : Can .f32 x4) (h5 : Can .f32 x5) (h6 : Can .f32 x6) : stV s iB iC x0 x1 x2 x3 x4 x5 x6 = storeV s x0 x1 x2 x3 x4 x5 x6 := by
  have e : st7 s iB x0 x1 x2 x3 x4 x5 x6 = st7 s sB x0 x1 x2 x3 x4 x5 x6 := by
    unfold st7
    rw [iB_eq h0, iB_eq h1, iB_eq h2, iB_eq h3, iB_eq h4, iB_eq h5, iB_eq h6]
  have h := ckV_in (strF (st7 s sB x0 x1 x2 x3 x4 x5 x6) (4 + 1 + s.size + 4 + 4 + 4 + 4 + 4 + 4 + 4))
  unfold storeV stV
  rw [e, iC_eq h.1 (by omega)]
theorem iSy0_ev (s : ByteArray) (x0 x1 x2 x3 x4 x5 x6 : Nat) : k_iSy0.run [.agg [.str s, .fl .f32 x0, .fl .f32 x1, .fl .f32 x2, .fl .f32 x3, .fl .f32 x4, .fl .f32 x5, .fl .f32 x6]] [] =
  (.need (true) (.need (true) (.need (true) (.need (true) (.need (true) (.need (decide (4 + 1 + s.size ≤ 1073741824)) (.need (true) (.need (true) (.need (true) (.need (true) (.need (true) (.need (true) (.need (true) (.need (true) (.need (true) (.need (decide (4 + 1 + s.size ≤ 4 + 1 + s.size)) (.need (true) (.need (decide (4 + 1 + s.size + 4 ≤ 1073741824)) (.need (true) (.need (true) (.need (true) (.need (true) (.need (true) (.need (decide (4 + 1 + s.size + 4 ≤ 4 + 1 + s.size + 4)) (.need (true) (.need (decide (4 + 1 + s.size + 4 + 4 ≤ 1073741824)) (.need (true) (.need (true) (.need (true) (.need (true) (.need (true) (.need (decide (4 + 1 + s.size + 4 + 4 ≤ 4 + 1 + s.size + 4 + 4)) (.need (true) (.need (decide (4 + 1 + s.size + 4 + 4 + 4 ≤ 1073741824)) (.need (true) (.need (true) (.need (true) (.need (true) (.need (true) (.need (decide (4 + 1 + s.size + 4 + 4 + 4 ≤ 4 + 1 + s.size + 4 + 4 + 4)) (.need (true) (.need (decide (4 + 1 + s.size + 4 + 4 + 4 + 4 ≤ 1073741824)) (.need (true) (.need (true) (.need (true) (.need (true) (.need (true) (.need (decide (4 + 1 + s.size + 4 + 4 + 4 + 4 ≤ 4 + 1 + s.size + 4 + 4 + 4 + 4)) (.need (true) (.need (decide (4 + 1 + s.size + 4 + 4 + 4 + 4 + 4 ≤ 1073741824)) (.need (true) (.need (true) (.need (true) (.need (true) (.need (true) (.need (decide (4 + 1 + s.size + 4 + 4 + 4 + 4 + 4 ≤ 4 + 1 + s.size + 4 + 4 + 4 + 4 + 4)) (.need (true) (.need (decide (4 + 1 + s.size + 4 + 4 + 4 + 4 + 4 + 4 ≤ 1073741824)) (.need (true) (.need (true) (.need (true) (.need (true) (.need (true) (.need (decide (4 + 1 + s.size + 4 + 4 + 4 + 4 + 4 + 4 ≤ 4 + 1 + s.size + 4 + 4 + 4 + 4 + 4 + 4)) (.need (true) (.need (decide (4 + 1 + s.size + 4 + 4 + 4 + 4 + 4 + 4 + 4 ≤ 1073741824)) (.need (decide (0 + (4 + 1 + s.size + 4 + 4 + 4 + 4 + 4 + 4 + 4) ≤ 4 + 1 + s.size + 4 + 4 + 4 + 4 + 4 + 4 + 4)) (.need (decide ((strF (st7 s iB x0 x1 x2 x3 x4 x5 x6) (4 + 1 + s.size + 4 + 4 + 4 + 4 + 4 + 4 + 4)).size ≤ 1099511627776)) (.need (true) (.need (decide (4 + 1 + s.size + 4 + 4 + 4 + 4 + 4 + 4 + 4 ≤ 4 + 1 + s.size + 4 + 4 + 4 + 4 + 4 + 4 + 4)) (.need (true) (.need (decide (4 + 1 + s.size + 4 + 4 + 4 + 4 + 4 + 4 + 4 + 2 ≤ 1073741824)) (.need (decide (0 + (4 + 1 + s.size + 4 + 4 + 4 + 4 + 4 + 4 + 4 + 2) ≤ 4 + 1 + s.size + 4 + 4 + 4 + 4 + 4 + 4 + 4 + 2)) (.leaf (.one (.str (stV s iB iC x0 x1 x2 x3 x4 x5 x6)), []))))))))))))))))))))))))))))))))))))))))))))))))))))))))))))))))))))))))))) := by kernel_rfl
theorem sSy0_ev (s : ByteArray) (x0 x1 x2 x3 x4 x5 x6 : Nat) : k_sSy0.run [.one (.ptr 0 8 0 0)] [some (.box [.str s, .fl .f32 x0, .fl .f32 x1, .fl .f32 x2, .fl .f32 x3, .fl .f32 x4, .fl .f32 x5, .fl .f32 x6])] =
  (.need (true) (.need (true) (.need (true) (.need (true) (.need (true) (.need (decide (0 + s.size ≤ s.size)) (.need (decide (4 + 1 + s.size ≤ 1073741824)) (.need (true) (.need (true) (.need (true) (.need (true) (.need (true) (.need (true) (.need (true) (.need (true) (.need (decide (4 + 1 + s.size ≤ 4 + 1 + s.size)) (.need (true) (.need (decide (4 + 1 + s.size + 4 ≤ 1073741824)) (.need (true) (.need (true) (.need (true) (.need (true) (.need (true) (.need (true) (.need (true) (.need (true) (.need (decide (4 + 1 + s.size + 4 ≤ 4 + 1 + s.size + 4)) (.need (true) (.need (decide (4 + 1 + s.size + 4 + 4 ≤ 1073741824)) (.need (true) (.need (true) (.need (true) (.need (true) (.need (true) (.need (true) (.need (true) (.need (true) (.need (decide (4 + 1 + s.size + 4 + 4 ≤ 4 + 1 + s.size + 4 + 4)) (.need (true) (.need (decide (4 + 1 + s.size + 4 + 4 + 4 ≤ 1073741824)) (.need (true) (.need (true) (.need (true) (.need (true) (.need (true) (.need (true) (.need (true) (.need (true) (.need (decide (4 + 1 + s.size + 4 + 4 + 4 ≤ 4 + 1 + s.size + 4 + 4 + 4)) (.need (true) (.need (decide (4 + 1 + s.size + 4 + 4 + 4 + 4 ≤ 1073741824)) (.need (true) (.need (true) (.need (true) (.need (true) (.need (true) (.need (true) (.need (true) (.need (true) (.need (decide (4 + 1 + s.size + 4 + 4 + 4 + 4 ≤ 4 + 1 + s.size + 4 + 4 + 4 + 4)) (.need (true) (.need (decide (4 + 1 + s.size + 4 + 4 + 4 + 4 + 4 ≤ 1073741824)) (.need (true) (.need (true) (.need (true) (.need (true) (.need (true) (.need (true) (.need (true) (.need (true) (.need (decide (4 + 1 + s.size + 4 + 4 + 4 + 4 + 4 ≤ 4 + 1 + s.size + 4 + 4 + 4 + 4 + 4)) (.need (true) (.need (decide (4 + 1 + s.size + 4 + 4 + 4 + 4 + 4 + 4 ≤ 1073741824)) (.need (true) (.need (true) (.need (true) (.need (true) (.need (true) (.need (true) (.need (true) (.need (true) (.need (decide (4 + 1 + s.size + 4 + 4 + 4 + 4 + 4 + 4 ≤ 4 + 1 + s.size + 4 + 4 + 4 + 4 + 4 + 4)) (.need (true) (.need (decide (4 + 1 + s.size + 4 + 4 + 4 + 4 + 4 + 4 + 4 ≤ 1073741824)) (.need (decide (0 + (4 + 1 + s.size + 4 + 4 + 4 + 4 + 4 + 4 + 4) ≤ 4 + 1 + s.size + 4 + 4 + 4 + 4 + 4 + 4 + 4)) (.need (decide ((strF (st7 s sB x0 x1 x2 x3 x4 x5 x6) (4 + 1 + s.size + 4 + 4 + 4 + 4 + 4 + 4 + 4)).size ≤ 1099511627776)) (.need (true) (.need (true) (.need (decide (4 + 1 + s.size + 4 + 4 + 4 + 4 + 4 + 4 + 4 ≤ 4 + 1 + s.size + 4 + 4 + 4 + 4 + 4 + 4 + 4)) (.need (true) (.need (decide (4 + 1 + s.size + 4 + 4 + 4 + 4 + 4 + 4 + 4 + 2 ≤ 1073741824)) (.need (decide (0 + (4 + 1 + s.size + 4 + 4 + 4 + 4 + 4 + 4 + 4 + 2) ≤ 4 + 1 + s.size + 4 + 4 + 4 + 4 + 4 + 4 + 4 + 2)) (.leaf (.one (.str (stV s sB sC x0 x1 x2 x3 x4 x5 x6)), [])))))))))))))))))))))))))))))))))))))))))))))))))))))))))))))))))))))))))))))))))))))))))))))) := by kernel_rfl
def run_iSy : List AV → Mem → T Res
  | [.agg [.str s, .fl .f32 x0, .fl .f32 x1, .fl .f32 x2, .fl .f32 x3, .fl .f32 x4, .fl .f32 x5, .fl .f32 x6]], [] => .need (decide (s.size ≤ 1048576)) (.leaf (.one (.str (storeV s x0 x1 x2 x3 x4 x5 x6)), []))
  | _, _ => .fail
def run_sSy : List AV → Mem → T Res
  | [.one (.ptr 0 8 0 0)], [some (.box [.str s, .fl .f32 x0, .fl .f32 x1, .fl .f32 x2, .fl .f32 x3, .fl .f32 x4, .fl .f32 x5, .fl .f32 x6])] => .need (decide (s.size ≤ 1048576)) (.leaf (.one (.str (storeV s x0 x1 x2 x3 x4 x5 x6)), []))
  | _, _ => .fail
noncomputable def k_iSy : Ctr Try.prog := (k_iSy0.to run_iSy (by
  intro args mem hF
  unfold run_iSy
  split
  · rename_i s x0 x1 x2 x3 x4 x5 x6
    rw [iSy0_ev]
    constructor
    intro Φ hΦ h
    have hs : s.size ≤ 1048576 := of_decide_eq_true h.1
    have hl := h.2
    have he := stV_eq s x0 x1 x2 x3 x4 x5 x6 (hF.agg (by simp)) (hF.agg (by simp)) (hF.agg (by simp)) (hF.agg (by simp)) (hF.agg (by simp)) (hF.agg (by simp)) (hF.agg (by simp))
    rw [he]
    exact (T.h_need (rfl) (T.h_need (rfl) (T.h_need (rfl) (T.h_need (rfl) (T.h_need (rfl) (T.h_need (decide_eq_true (by omega)) (T.h_need (rfl) (T.h_need (rfl) (T.h_need (rfl) (T.h_need (rfl) (T.h_need (rfl) (T.h_need (rfl) (T.h_need (rfl) (T.h_need (rfl) (T.h_need (rfl) (T.h_need (decide_eq_true (by omega)) (T.h_need (rfl) (T.h_need (decide_eq_true (by omega)) (T.h_need (rfl) (T.h_need (rfl) (T.h_need (rfl) (T.h_need (rfl) (T.h_need (rfl) (T.h_need (decide_eq_true (by omega)) (T.h_need (rfl) (T.h_need (decide_eq_true (by omega)) (T.h_need (rfl) (T.h_need (rfl) (T.h_need (rfl) (T.h_need (rfl) (T.h_need (rfl) (T.h_need (decide_eq_true (by omega)) (T.h_need (rfl) (T.h_need (decide_eq_true (by omega)) (T.h_need (rfl) (T.h_need (rfl) (T.h_need (rfl) (T.h_need (rfl) (T.h_need (rfl) (T.h_need (decide_eq_true (by omega)) (T.h_need (rfl) (T.h_need (decide_eq_true (by omega)) (T.h_need (rfl) (T.h_need (rfl) (T.h_need (rfl) (T.h_need (rfl) (T.h_need (rfl) (T.h_need (decide_eq_true (by omega)) (T.h_need (rfl) (T.h_need (decide_eq_true (by omega)) (T.h_need (rfl) (T.h_need (rfl) (T.h_need (rfl) (T.h_need (rfl) (T.h_need (rfl) (T.h_need (decide_eq_true (by omega)) (T.h_need (rfl) (T.h_need (decide_eq_true (by omega)) (T.h_need (rfl) (T.h_need (rfl) (T.h_need (rfl) (T.h_need (rfl) (T.h_need (rfl) (T.h_need (decide_eq_true (by omega)) (T.h_need (rfl) (T.h_need (decide_eq_true (by omega)) (T.h_need (decide_eq_true (by omega)) (T.h_need (decide_eq_true (by rw [strF_size]; omega)) (T.h_need (rfl) (T.h_need (decide_eq_true (by omega)) (T.h_need (rfl) (T.h_need (decide_eq_true (by omega)) (T.h_need (decide_eq_true (by omega)) (T.h_leaf hl))))))))))))))))))))))))))))))))))))))))))))))))))))))))))))))))))))))))))
  · exact Weak.fail _)).own
noncomputable def k_sSy : Ctr Try.prog := (k_sSy0.to run_sSy (by
  intro args mem hF
  unfold run_sSy
  split
  · rename_i s x0 x1 x2 x3 x4 x5 x6
    rw [sSy0_ev]
    constructor
    intro Φ hΦ h
    have hs : s.size ≤ 1048576 := of_decide_eq_true h.1
    have hl := h.2
    exact (T.h_need (rfl) (T.h_need (rfl) (T.h_need (rfl) (T.h_need (rfl) (T.h_need (rfl) (T.h_need (decide_eq_true (by omega)) (T.h_need (decide_eq_true (by omega)) (T.h_need (rfl) (T.h_need (rfl) (T.h_need (rfl) (T.h_need (rfl) (T.h_need (rfl) (T.h_need (rfl) (T.h_need (rfl) (T.h_need (rfl) (T.h_need (decide_eq_true (by omega)) (T.h_need (rfl) (T.h_need (decide_eq_true (by omega)) (T.h_need (rfl) (T.h_need (rfl) (T.h_need (rfl) (T.h_need (rfl) (T.h_need (rfl) (T.h_need (rfl) (T.h_need (rfl) (T.h_need (rfl) (T.h_need (decide_eq_true (by omega)) (T.h_need (rfl) (T.h_need (decide_eq_true (by omega)) (T.h_need (rfl) (T.h_need (rfl) (T.h_need (rfl) (T.h_need (rfl) (T.h_need (rfl) (T.h_need (rfl) (T.h_need (rfl) (T.h_need (rfl) (T.h_need (decide_eq_true (by omega)) (T.h_need (rfl) (T.h_need (decide_eq_true (by omega)) (T.h_need (rfl) (T.h_need (rfl) (T.h_need (rfl) (T.h_need (rfl) (T.h_need (rfl) (T.h_need (rfl) (T.h_need (rfl) (T.h_need (rfl) (T.h_need (decide_eq_true (by omega)) (T.h_need (rfl) (T.h_need (decide_eq_true (by omega)) (T.h_need (rfl) (T.h_need (rfl) (T.h_need (rfl) (T.h_need (rfl) (T.h_need (rfl) (T.h_need (rfl) (T.h_need (rfl) (T.h_need (rfl) (T.h_need (decide_eq_true (by omega)) (T.h_need (rfl) (T.h_need (decide_eq_true (by omega)) (T.h_need (rfl) (T.h_need (rfl) (T.h_need (rfl) (T.h_need (rfl) (T.h_need (rfl) (T.h_need (rfl) (T.h_need (rfl) (T.h_need (rfl) (T.h_need (decide_eq_true (by omega)) (T.h_need (rfl) (T.h_need (decide_eq_true (by omega)) (T.h_need (rfl) (T.h_need (rfl) (T.h_need (rfl) (T.h_need (rfl) (T.h_need (rfl) (T.h_need (rfl) (T.h_need (rfl) (T.h_need (rfl) (T.h_need (decide_eq_true (by omega)) (T.h_need (rfl) (T.h_need (decide_eq_true (by omega)) (T.h_need (decide_eq_true (by omega)) (T.h_need (decide_eq_true (by rw [strF_size]; omega)) (T.h_need (rfl) (T.h_need (rfl) (T.h_need (decide_eq_true (by omega)) (T.h_need (rfl) (T.h_need (decide_eq_true (by omega)) (T.h_need (decide_eq_true (by omega)) (T.h_leaf hl)))))))))))))))))))))))))))))))))))))))))))))))))))))))))))))))))))))))))))))))))))))))))))))
  · exact Weak.fail _)).own

end Go.Proofs.Ytdmcpgbnomhahaa
