/-
  FnSinks: the loop over the list. No conditions.
-/
import Derived.Test.YtdmcpgbnomhahaaDx
namespace Go.Proofs.Ytdmcpgbnomhahaa
set_option linter.unusedVariables false
set_option linter.unusedSimpArgs false
open Go.RowKit

def nowAt (f : Nat → Nat) (lo : Nat) (j : Nat) : Nat := if j = 0 then lo else f (j - 1)
theorem nowAt_s (f : Nat → Nat) (lo j : Nat) : f j = nowAt f lo (j + 1) := by simp [nowAt]
noncomputable def lkS (ma ra sp stt ba sc dr now nxt : Nat) : Bool := (!fle .f32 now ra) && (skAll ma ra sp stt now dr ba sc (canon .f32 1048576000) && (decide (skX ma ra now dr ba sc (canon .f32 1048576000) = nxt) && (feq .f32 nxt nxt && !fgt .f32 nxt now)))
noncomputable def lkB (ma ra sp stt ba sc dr lo n : Nat) (f : Nat → Nat) : Bool := decide (∀ j, j < n → lkS ma ra sp stt ba sc dr (nowAt f lo j) (f j) = true)
theorem lk_cond {A q g : Bool} (hA : A = true) (hq : q = true) (hg : g = false) : (bif !A then true else bif !q then true else g) = false := by subst hA; subst hq; subst hg; rfl
theorem iter_f (f : Nat → Nat) (lo : Nat) : ∀ (c s : Nat) (a : Nat), a = nowAt f lo s → iter (fun j (_ : Nat) => f j) c s a = nowAt f lo (s + c)
  | 0, s, a, h => h
  | c + 1, s, a, h => by
    have := iter_f f lo c (s + 1) (f s) (nowAt_s f lo s)
    rw [iter, this, Nat.add_right_comm]; rfl
structure Cla where
  ma : Nat
  ra : Nat
  sp : Nat
  stt : Nat
  ba : Nat
  sc : Nat
  dr : Nat
  n : Nat
  n2 : Nat
  f : Nat → Nat
  st : Int
  e : Bool
  x0 : Option Blk
  x1 : Option Blk
def Cla.base (c : Cla) : Mem := [c.x0, c.x1]
structure Vla where
  now : Nat
  k : Int
noncomputable abbrev laRoot : Code := bodyOf Try.f8
def la_st (c : Cla) (v : Vla) : FSt := ⟨[(5, .one (.ptr 2 4 0 0)), (6, .one (.fl .f32 c.ba)), (7, .one (.fl .f32 c.sc)), (8, .one (.fl .f32 c.dr)), (16, .one (.num .i64 c.st)), (17, .one (.su 4 1 0 c.n false)), (18, .one (.bo c.e)), (20, .one (.fl .f32 v.now)), (21, .one (.num .i64 v.k))], c.base ++ [some (.box [.fl .f32 c.ma, .fl .f32 c.ra, .fl .f32 c.sp, .fl .f32 c.stt]), none, some (.cols c.n2 [.fl .f32 c.f])]⟩
structure Clb where
  ma : Nat
  ra : Nat
  sp : Nat
  stt : Nat
  ba : Nat
  sc : Nat
  dr : Nat
  n : Nat
  n2 : Nat
  f : Nat → Nat
  st : Int
  e : Bool
def Clb.base (c : Clb) : Mem := []
structure Vlb where
  now : Nat
  k : Int
noncomputable abbrev lbRoot : Code := bodyOf Try.f8
def lb_st (c : Clb) (v : Vlb) : FSt := ⟨[(5, .one (.ptr 0 4 0 0)), (6, .one (.fl .f32 c.ba)), (7, .one (.fl .f32 c.sc)), (8, .one (.fl .f32 c.dr)), (16, .one (.num .i64 c.st)), (17, .one (.su 2 1 0 c.n false)), (18, .one (.bo c.e)), (20, .one (.fl .f32 v.now)), (21, .one (.num .i64 v.k))], c.base ++ [some (.box [.fl .f32 c.ma, .fl .f32 c.ra, .fl .f32 c.sp, .fl .f32 c.stt]), none, some (.cols c.n2 [.fl .f32 c.f])]⟩
noncomputable def la_step (c : Cla) (v : Vla) : T (Nx Vla) :=
  .ite (decide (v.2 < ((c.8 : Nat) : Int))) (.need (bif fle FloatKind.f32 v.1 c.2 then true else bif !skAll c.1 c.2 c.3 c.4 v.1 c.7 c.5 c.6 (canon FloatKind.f32 1048576000) then true else decide (0 ≤ v.2) && decide (v.2 < ((c.8 : Nat) : Int))) (.need (bif fle FloatKind.f32 v.1 c.2 then true else bif !skAll c.1 c.2 c.3 c.4 v.1 c.7 c.5 c.6 (canon FloatKind.f32 1048576000) then true else decide (v.2.toNat + 0 < c.9)) (.ite (fle FloatKind.f32 v.1 c.2) (.leaf (.out (EX.ret) ⟨[(5, AV.one (SV.ptr 2 4 0 0)), (6, AV.one (SV.fl FloatKind.f32 c.5)), (7, AV.one (SV.fl FloatKind.f32 c.6)), (8, AV.one (SV.fl FloatKind.f32 c.7)), (16, AV.one (SV.num IntKind.i64 c.11)), (17, AV.one (SV.su 4 1 0 c.8 false)), (18, AV.one (SV.bo c.12)), (20, AV.one (SV.fl FloatKind.f32 v.1)), (21, AV.one (SV.num IntKind.i64 v.2))], c.base ++ [some (.box [.fl .f32 c.ma, .fl .f32 c.ra, .fl .f32 c.sp, .fl .f32 c.stt]), none, some (.cols c.n2 [.fl .f32 c.f])]⟩)) (.ite (bif !skAll c.1 c.2 c.3 c.4 v.1 c.7 c.5 c.6 (canon FloatKind.f32 1048576000) then true else bif !feq FloatKind.f32 (bif skAll c.1 c.2 c.3 c.4 v.1 c.7 c.5 c.6 (canon FloatKind.f32 1048576000) then skX c.1 c.2 v.1 c.7 c.5 c.6 (canon FloatKind.f32 1048576000) else 0) (c.10 (v.2.toNat + 0)) then true else fgt FloatKind.f32 (bif skAll c.1 c.2 c.3 c.4 v.1 c.7 c.5 c.6 (canon FloatKind.f32 1048576000) then skX c.1 c.2 v.1 c.7 c.5 c.6 (canon FloatKind.f32 1048576000) else 0) v.1) (.leaf (.out (EX.ret) ⟨[(5, AV.one (SV.ptr 2 4 0 0)), (6, AV.one (SV.fl FloatKind.f32 c.5)), (7, AV.one (SV.fl FloatKind.f32 c.6)), (8, AV.one (SV.fl FloatKind.f32 c.7)), (16, AV.one (SV.num IntKind.i64 c.11)), (17, AV.one (SV.su 4 1 0 c.8 false)), (18, AV.one (SV.bo c.12)), (20, AV.one (SV.fl FloatKind.f32 v.1)), (21, AV.one (SV.num IntKind.i64 v.2))], c.base ++ [some (.box [.fl .f32 c.ma, .fl .f32 c.ra, .fl .f32 c.sp, .fl .f32 c.stt]), none, some (.cols c.n2 [.fl .f32 c.f])]⟩)) (.leaf (.go { now := bif skAll c.1 c.2 c.3 c.4 v.1 c.7 c.5 c.6 (canon FloatKind.f32 1048576000) then skX c.1 c.2 v.1 c.7 c.5 c.6 (canon FloatKind.f32 1048576000) else 0, k := IntKind.i64.wrap (v.2 + 1) })))))) (.leaf (.out (EX.exit 0) ⟨[(5, AV.one (SV.ptr 2 4 0 0)), (6, AV.one (SV.fl FloatKind.f32 c.5)), (7, AV.one (SV.fl FloatKind.f32 c.6)), (8, AV.one (SV.fl FloatKind.f32 c.7)), (16, AV.one (SV.num IntKind.i64 c.11)), (17, AV.one (SV.su 4 1 0 c.8 false)), (18, AV.one (SV.bo c.12)), (20, AV.one (SV.fl FloatKind.f32 v.1)), (21, AV.one (SV.num IntKind.i64 v.2))], c.base ++ [some (.box [.fl .f32 c.ma, .fl .f32 c.ra, .fl .f32 c.sp, .fl .f32 c.stt]), none, some (.cols c.n2 [.fl .f32 c.f])]⟩))
theorem la_round (c : Cla) (v : Vla) : roundF Try.prog 187 [k_iSink] laRoot [] c.base [0, 1, 4, 5, 6, 7, 8, 9, 10, 11, 12, 13, 14, 15, 16, 17, 18, 19, 20, 21, 22, 23, 26, 135, 140, 146, 170, 198] [5, 6, 7, 8, 16, 17, 18, 20, 21] 0 (la_st c v) = (la_step c v).map (nxF (la_st c)) := by kernel_rfl
noncomputable def la_ok (c : Cla) (v : Vla) : Bool := decide (c.n = c.n2 ∧ c.n ≤ 64 ∧ v.k = 0 ∧ lkB c.ma c.ra c.sp c.stt c.ba c.sc c.dr v.now c.n c.f = true ∧ 0 ≤ v.k ∧ v.k ≤ ((c.n : Nat) : Int))
def la_fin (c : Cla) (a : Nat) : FSt := la_st c ({ now := a, k := (c.n : Int) })
noncomputable def la_R (x : Cla × Vla) : T (EX × FSt) := .need (la_ok x.1 x.2) (.leaf (.normal, la_fin x.1 (iter ((fun (c : Cla) j (_ : Nat) => c.f j) x.1) (x.1.n - x.2.k.toNat) x.2.k.toNat x.2.now)))
theorem la_tri (x : Cla × Vla) : TriR Try.prog 187 x.1.base (.block 0 (.loop (bodyB laRoot 0))) (la_st x.1 x.2) (la_R x) := by
  obtain ⟨c, v⟩ := x
  refine triR_of mix (root := laRoot) (by kernel_rfl) (by kernel_rfl) [0, 1, 4, 5, 6, 7, 8, 9, 10, 11, 12, 13, 14, 15, 16, 17, 18, 19, 20, 21, 22, 23, 26, 135, 140, 146, 170, 198] [5, 6, 7, 8, 16, 17, 18, 20, 21] (la_st c) (la_step c) (la_round c) v _ ((c.n - v.k.toNat) + 1) (fun Φ h => ?_)
  have h0 := h.1
  have h1 : Φ (.normal, la_fin c (iter ((fun (c : Cla) j (_ : Nat) => c.f j) c) (c.n - v.k.toNat) v.k.toNat v.now)) := h.2
  simp only [la_ok, decide_eq_true_eq] at h0
  obtain ⟨hk0, hk1, hk2, hk3, hi0, hin⟩ := h0
  have hv : v = (fun (j : Nat) (a : Nat) => ({ now := a, k := (j : Int) } : Vla)) v.k.toNat v.now := by
    obtain ⟨now, k⟩ := v
    have hi0 : 0 ≤ k := hi0
    simp only [Int.toNat_of_nonneg hi0]
  have key := T_iterI (la_step c) (fun (j : Nat) (a : Nat) => ({ now := a, k := (j : Int) } : Vla)) c.n ((fun (c : Cla) j (_ : Nat) => c.f j) c) (fun a => (.exit 0, la_fin c a)) (fun (j : Nat) (a : Nat) => a = nowAt c.f v.now j) (fun j a hj hI => ?_) (fun j a hj hI Ψ hΨ => ?_) (fun a Ψ hΨ => ?_) (fun a => by simp) (c.n - v.k.toNat) v.k.toNat v.now (by omega) ?_ (fun r => Φ (blkEx 0 r.1, r.2)) (by simpa [blkEx] using h1)
  · exact (congrArg (fun z => (loopTree (la_step c) (c.n - v.k.toNat + 1) z).holds fun r => Φ (blkEx 0 r.1, r.2)) hv).mpr key
  · exact nowAt_s c.f v.now j
  · unfold la_step
    refine (T.h_ite (fun _ => ?_) (fun hc => absurd hc (by simp <;> omega)))
    have hs : lkS c.ma c.ra c.sp c.stt c.ba c.sc c.dr a (c.f j) = true := by
      have h5 : ∀ j, j < c.n → lkS c.ma c.ra c.sp c.stt c.ba c.sc c.dr (nowAt c.f v.now j) (c.f j) = true := of_decide_eq_true hk3
      rw [hI]; exact h5 j hj
    unfold lkS at hs
    simp only [Bool.and_eq_true, Bool.not_eq_true', decide_eq_true_eq] at hs
    obtain ⟨s1, s2, s4, s3, s5⟩ := hs
    have s6 : (bif skAll c.ma c.ra c.sp c.stt a c.dr c.ba c.sc (canon FloatKind.f32 1048576000) then skX c.ma c.ra a c.dr c.ba c.sc (canon FloatKind.f32 1048576000) else 0) = c.f j := by rw [s2]; exact s4
    refine (T.h_need (needT fun c0 => (needT fun c1 => (show (decide ((0 : Int) ≤ (j : Int)) && decide ((j : Int) < (c.n : Int))) = true by rw [decide_eq_true (by omega), decide_eq_true (by omega)]; rfl))) (T.h_need (needT fun c0 => (needT fun c1 => (decide_eq_true (by show j < c.n2; omega)))) (T.h_ite (fun hc => (T.h_leaf ?_)) (fun hc => (T.h_ite (fun hc => (T.h_leaf ?_)) (fun hc => (T.h_leaf ?_)))))))
    · exact absurd (s1.symm.trans hc) (by decide)
    · rename_i hc0
      exact absurd ((lk_cond s2 (show feq .f32 (bif skAll c.ma c.ra c.sp c.stt a c.dr c.ba c.sc (canon FloatKind.f32 1048576000) then skX c.ma c.ra a c.dr c.ba c.sc (canon FloatKind.f32 1048576000) else 0) (c.f j) = true by rw [s6]; exact s3) (show fgt .f32 (bif skAll c.ma c.ra c.sp c.stt a c.dr c.ba c.sc (canon FloatKind.f32 1048576000) then skX c.ma c.ra a c.dr c.ba c.sc (canon FloatKind.f32 1048576000) else 0) a = false by rw [s6]; exact s5)).symm.trans hc) (by decide)
    · show Ψ (.go { now := (bif skAll c.ma c.ra c.sp c.stt a c.dr c.ba c.sc (canon FloatKind.f32 1048576000) then skX c.ma c.ra a c.dr c.ba c.sc (canon FloatKind.f32 1048576000) else 0), k := IntKind.i64.wrap ((j : Int) + 1) })
      rw [s6, wrap_next (by omega)]
      exact hΨ
  · unfold la_step
    refine (T.h_ite (fun hc => absurd hc (by simp <;> omega)) (fun _ => T.h_leaf hΨ))
  · exact (by rw [hk2]; rfl)

def la_dec (b : Mem) (f : FSt) : Option (Cla × Vla) :=
  match getPtr 2 4 (findF 5 f.sl), getF .f32 (findF 6 f.sl), getF .f32 (findF 7 f.sl), getF .f32 (findF 8 f.sl), getI (findF 16 f.sl), getSu 4 1 (findF 17 f.sl), getB (findF 18 f.sl), getF .f32 (findF 20 f.sl), getI (findF 21 f.sl), id b, f.mem with
  | some (), some ba_, some sc_, some dr_, some st_, some (0, n_), some e_, some q_now, some q_k, [x0_, x1_], [_, _, some (.box [.fl .f32 ma_, .fl .f32 ra_, .fl .f32 sp_, .fl .f32 stt_]), none, some (.cols n2_ [.fl .f32 f_])] => some ({ ma := ma_, ra := ra_, sp := sp_, stt := stt_, ba := ba_, sc := sc_, dr := dr_, n := n_, n2 := n2_, f := f_, st := st_, e := e_, x0 := x0_, x1 := x1_ }, { now := q_now, k := q_k })
  | _, _, _, _, _, _, _, _, _, _, _ => none
theorem la_dec_ok (b : Mem) (f : FSt) (x : Cla × Vla) (h : la_dec b f = some x) : b = x.1.base ∧ FLe b f (la_st x.1 x.2) := by
  unfold la_dec at h
  split at h
  · rename_i e0 e1 e2 e3 e4 e5 e6 e7 e8 hb hm
    cases h
    have hb : b = _ := hb
    subst hb
    refine ⟨rfl, fle_of (fun p hp => ?_) (by rw [hm]; exact memLe_refl _)⟩
    simp only [List.mem_cons, List.not_mem_nil, or_false] at hp
    rcases hp with rfl | rfl | rfl | rfl | rfl | rfl | rfl | rfl | rfl
    · exact getPtr_rel e0
    · exact getF_rel e1
    · exact getF_rel e2
    · exact getF_rel e3
    · exact getI_rel e4
    · exact getSu_rel e5
    · exact getB_rel e6
    · exact getF_rel e7
    · exact getI_rel e8
  · cases h
noncomputable def la_sum : SumF Try.prog 187 laRoot :=
  sumL (pathB laRoot 0) la_dec (fun x => x.1.base) (fun x => la_st x.1 x.2) la_R la_dec_ok (by
    intro code hc x
    have hc2 : code = .block 0 (.loop (bodyB laRoot 0)) := by
      have h : subR laRoot (pathB laRoot 0) = some (.block 0 (.loop (bodyB laRoot 0))) := by kernel_rfl
      rw [h] at hc; cases hc; rfl
    subst hc2
    exact la_tri x)

noncomputable def lb_step (c : Clb) (v : Vlb) : T (Nx Vlb) :=
  .ite (decide (v.2 < ((c.8 : Nat) : Int))) (.need (bif fle FloatKind.f32 v.1 c.2 then true else bif !skAll c.1 c.2 c.3 c.4 v.1 c.7 c.5 c.6 (canon FloatKind.f32 1048576000) then true else decide (0 ≤ v.2) && decide (v.2 < ((c.8 : Nat) : Int))) (.need (bif fle FloatKind.f32 v.1 c.2 then true else bif !skAll c.1 c.2 c.3 c.4 v.1 c.7 c.5 c.6 (canon FloatKind.f32 1048576000) then true else decide (v.2.toNat + 0 < c.9)) (.ite (fle FloatKind.f32 v.1 c.2) (.leaf (.out (EX.ret) ⟨[(5, AV.one (SV.ptr 0 4 0 0)), (6, AV.one (SV.fl FloatKind.f32 c.5)), (7, AV.one (SV.fl FloatKind.f32 c.6)), (8, AV.one (SV.fl FloatKind.f32 c.7)), (16, AV.one (SV.num IntKind.i64 c.11)), (17, AV.one (SV.su 2 1 0 c.8 false)), (18, AV.one (SV.bo c.12)), (20, AV.one (SV.fl FloatKind.f32 v.1)), (21, AV.one (SV.num IntKind.i64 v.2))], c.base ++ [some (.box [.fl .f32 c.ma, .fl .f32 c.ra, .fl .f32 c.sp, .fl .f32 c.stt]), none, some (.cols c.n2 [.fl .f32 c.f])]⟩)) (.ite (bif !skAll c.1 c.2 c.3 c.4 v.1 c.7 c.5 c.6 (canon FloatKind.f32 1048576000) then true else bif !feq FloatKind.f32 (bif skAll c.1 c.2 c.3 c.4 v.1 c.7 c.5 c.6 (canon FloatKind.f32 1048576000) then skX c.1 c.2 v.1 c.7 c.5 c.6 (canon FloatKind.f32 1048576000) else 0) (c.10 (v.2.toNat + 0)) then true else fgt FloatKind.f32 (bif skAll c.1 c.2 c.3 c.4 v.1 c.7 c.5 c.6 (canon FloatKind.f32 1048576000) then skX c.1 c.2 v.1 c.7 c.5 c.6 (canon FloatKind.f32 1048576000) else 0) v.1) (.leaf (.out (EX.ret) ⟨[(5, AV.one (SV.ptr 0 4 0 0)), (6, AV.one (SV.fl FloatKind.f32 c.5)), (7, AV.one (SV.fl FloatKind.f32 c.6)), (8, AV.one (SV.fl FloatKind.f32 c.7)), (16, AV.one (SV.num IntKind.i64 c.11)), (17, AV.one (SV.su 2 1 0 c.8 false)), (18, AV.one (SV.bo c.12)), (20, AV.one (SV.fl FloatKind.f32 v.1)), (21, AV.one (SV.num IntKind.i64 v.2))], c.base ++ [some (.box [.fl .f32 c.ma, .fl .f32 c.ra, .fl .f32 c.sp, .fl .f32 c.stt]), none, some (.cols c.n2 [.fl .f32 c.f])]⟩)) (.leaf (.go { now := bif skAll c.1 c.2 c.3 c.4 v.1 c.7 c.5 c.6 (canon FloatKind.f32 1048576000) then skX c.1 c.2 v.1 c.7 c.5 c.6 (canon FloatKind.f32 1048576000) else 0, k := IntKind.i64.wrap (v.2 + 1) })))))) (.leaf (.out (EX.exit 0) ⟨[(5, AV.one (SV.ptr 0 4 0 0)), (6, AV.one (SV.fl FloatKind.f32 c.5)), (7, AV.one (SV.fl FloatKind.f32 c.6)), (8, AV.one (SV.fl FloatKind.f32 c.7)), (16, AV.one (SV.num IntKind.i64 c.11)), (17, AV.one (SV.su 2 1 0 c.8 false)), (18, AV.one (SV.bo c.12)), (20, AV.one (SV.fl FloatKind.f32 v.1)), (21, AV.one (SV.num IntKind.i64 v.2))], c.base ++ [some (.box [.fl .f32 c.ma, .fl .f32 c.ra, .fl .f32 c.sp, .fl .f32 c.stt]), none, some (.cols c.n2 [.fl .f32 c.f])]⟩))
theorem lb_round (c : Clb) (v : Vlb) : roundF Try.prog 187 [k_iSink] lbRoot [] c.base [0, 1, 4, 5, 6, 7, 8, 9, 10, 11, 12, 13, 14, 15, 16, 17, 18, 19, 20, 21, 22, 23, 26, 135, 140, 146, 170, 198] [5, 6, 7, 8, 16, 17, 18, 20, 21] 0 (lb_st c v) = (lb_step c v).map (nxF (lb_st c)) := by kernel_rfl
noncomputable def lb_ok (c : Clb) (v : Vlb) : Bool := decide (c.n = c.n2 ∧ c.n ≤ 64 ∧ v.k = 0 ∧ lkB c.ma c.ra c.sp c.stt c.ba c.sc c.dr v.now c.n c.f = true ∧ 0 ≤ v.k ∧ v.k ≤ ((c.n : Nat) : Int))
def lb_fin (c : Clb) (a : Nat) : FSt := lb_st c ({ now := a, k := (c.n : Int) })
noncomputable def lb_R (x : Clb × Vlb) : T (EX × FSt) := .need (lb_ok x.1 x.2) (.leaf (.normal, lb_fin x.1 (iter ((fun (c : Clb) j (_ : Nat) => c.f j) x.1) (x.1.n - x.2.k.toNat) x.2.k.toNat x.2.now)))
theorem lb_tri (x : Clb × Vlb) : TriR Try.prog 187 x.1.base (.block 0 (.loop (bodyB lbRoot 0))) (lb_st x.1 x.2) (lb_R x) := by
  obtain ⟨c, v⟩ := x
  refine triR_of mix (root := lbRoot) (by kernel_rfl) (by kernel_rfl) [0, 1, 4, 5, 6, 7, 8, 9, 10, 11, 12, 13, 14, 15, 16, 17, 18, 19, 20, 21, 22, 23, 26, 135, 140, 146, 170, 198] [5, 6, 7, 8, 16, 17, 18, 20, 21] (lb_st c) (lb_step c) (lb_round c) v _ ((c.n - v.k.toNat) + 1) (fun Φ h => ?_)
  have h0 := h.1
  have h1 : Φ (.normal, lb_fin c (iter ((fun (c : Clb) j (_ : Nat) => c.f j) c) (c.n - v.k.toNat) v.k.toNat v.now)) := h.2
  simp only [lb_ok, decide_eq_true_eq] at h0
  obtain ⟨hk0, hk1, hk2, hk3, hi0, hin⟩ := h0
  have hv : v = (fun (j : Nat) (a : Nat) => ({ now := a, k := (j : Int) } : Vlb)) v.k.toNat v.now := by
    obtain ⟨now, k⟩ := v
    have hi0 : 0 ≤ k := hi0
    simp only [Int.toNat_of_nonneg hi0]
  have key := T_iterI (lb_step c) (fun (j : Nat) (a : Nat) => ({ now := a, k := (j : Int) } : Vlb)) c.n ((fun (c : Clb) j (_ : Nat) => c.f j) c) (fun a => (.exit 0, lb_fin c a)) (fun (j : Nat) (a : Nat) => a = nowAt c.f v.now j) (fun j a hj hI => ?_) (fun j a hj hI Ψ hΨ => ?_) (fun a Ψ hΨ => ?_) (fun a => by simp) (c.n - v.k.toNat) v.k.toNat v.now (by omega) ?_ (fun r => Φ (blkEx 0 r.1, r.2)) (by simpa [blkEx] using h1)
  · exact (congrArg (fun z => (loopTree (lb_step c) (c.n - v.k.toNat + 1) z).holds fun r => Φ (blkEx 0 r.1, r.2)) hv).mpr key
  · exact nowAt_s c.f v.now j
  · unfold lb_step
    refine (T.h_ite (fun _ => ?_) (fun hc => absurd hc (by simp <;> omega)))
    have hs : lkS c.ma c.ra c.sp c.stt c.ba c.sc c.dr a (c.f j) = true := by
      have h5 : ∀ j, j < c.n → lkS c.ma c.ra c.sp c.stt c.ba c.sc c.dr (nowAt c.f v.now j) (c.f j) = true := of_decide_eq_true hk3
      rw [hI]; exact h5 j hj
    unfold lkS at hs
    simp only [Bool.and_eq_true, Bool.not_eq_true', decide_eq_true_eq] at hs
    obtain ⟨s1, s2, s4, s3, s5⟩ := hs
    have s6 : (bif skAll c.ma c.ra c.sp c.stt a c.dr c.ba c.sc (canon FloatKind.f32 1048576000) then skX c.ma c.ra a c.dr c.ba c.sc (canon FloatKind.f32 1048576000) else 0) = c.f j := by rw [s2]; exact s4
    refine (T.h_need (needT fun c0 => (needT fun c1 => (show (decide ((0 : Int) ≤ (j : Int)) && decide ((j : Int) < (c.n : Int))) = true by rw [decide_eq_true (by omega), decide_eq_true (by omega)]; rfl))) (T.h_need (needT fun c0 => (needT fun c1 => (decide_eq_true (by show j < c.n2; omega)))) (T.h_ite (fun hc => (T.h_leaf ?_)) (fun hc => (T.h_ite (fun hc => (T.h_leaf ?_)) (fun hc => (T.h_leaf ?_)))))))
    · exact absurd (s1.symm.trans hc) (by decide)
    · rename_i hc0
      exact absurd ((lk_cond s2 (show feq .f32 (bif skAll c.ma c.ra c.sp c.stt a c.dr c.ba c.sc (canon FloatKind.f32 1048576000) then skX c.ma c.ra a c.dr c.ba c.sc (canon FloatKind.f32 1048576000) else 0) (c.f j) = true by rw [s6]; exact s3) (show fgt .f32 (bif skAll c.ma c.ra c.sp c.stt a c.dr c.ba c.sc (canon FloatKind.f32 1048576000) then skX c.ma c.ra a c.dr c.ba c.sc (canon FloatKind.f32 1048576000) else 0) a = false by rw [s6]; exact s5)).symm.trans hc) (by decide)
    · show Ψ (.go { now := (bif skAll c.ma c.ra c.sp c.stt a c.dr c.ba c.sc (canon FloatKind.f32 1048576000) then skX c.ma c.ra a c.dr c.ba c.sc (canon FloatKind.f32 1048576000) else 0), k := IntKind.i64.wrap ((j : Int) + 1) })
      rw [s6, wrap_next (by omega)]
      exact hΨ
  · unfold lb_step
    refine (T.h_ite (fun hc => absurd hc (by simp <;> omega)) (fun _ => T.h_leaf hΨ))
  · exact (by rw [hk2]; rfl)

def lb_dec (b : Mem) (f : FSt) : Option (Clb × Vlb) :=
  match getPtr 0 4 (findF 5 f.sl), getF .f32 (findF 6 f.sl), getF .f32 (findF 7 f.sl), getF .f32 (findF 8 f.sl), getI (findF 16 f.sl), getSu 2 1 (findF 17 f.sl), getB (findF 18 f.sl), getF .f32 (findF 20 f.sl), getI (findF 21 f.sl), id b, f.mem with
  | some (), some ba_, some sc_, some dr_, some st_, some (0, n_), some e_, some q_now, some q_k, [], [some (.box [.fl .f32 ma_, .fl .f32 ra_, .fl .f32 sp_, .fl .f32 stt_]), none, some (.cols n2_ [.fl .f32 f_])] => some ({ ma := ma_, ra := ra_, sp := sp_, stt := stt_, ba := ba_, sc := sc_, dr := dr_, n := n_, n2 := n2_, f := f_, st := st_, e := e_ }, { now := q_now, k := q_k })
  | _, _, _, _, _, _, _, _, _, _, _ => none
theorem lb_dec_ok (b : Mem) (f : FSt) (x : Clb × Vlb) (h : lb_dec b f = some x) : b = x.1.base ∧ FLe b f (lb_st x.1 x.2) := by
  unfold lb_dec at h
  split at h
  · rename_i e0 e1 e2 e3 e4 e5 e6 e7 e8 hb hm
    cases h
    have hb : b = _ := hb
    subst hb
    refine ⟨rfl, fle_of (fun p hp => ?_) (by rw [hm]; exact memLe_refl _)⟩
    simp only [List.mem_cons, List.not_mem_nil, or_false] at hp
    rcases hp with rfl | rfl | rfl | rfl | rfl | rfl | rfl | rfl | rfl
    · exact getPtr_rel e0
    · exact getF_rel e1
    · exact getF_rel e2
    · exact getF_rel e3
    · exact getI_rel e4
    · exact getSu_rel e5
    · exact getB_rel e6
    · exact getF_rel e7
    · exact getI_rel e8
  · cases h
noncomputable def lb_sum : SumF Try.prog 187 lbRoot :=
  sumL (pathB lbRoot 0) lb_dec (fun x => x.1.base) (fun x => lb_st x.1 x.2) lb_R lb_dec_ok (by
    intro code hc x
    have hc2 : code = .block 0 (.loop (bodyB lbRoot 0)) := by
      have h : subR lbRoot (pathB lbRoot 0) = some (.block 0 (.loop (bodyB lbRoot 0))) := by kernel_rfl
      rw [h] at hc; cases hc; rfl
    subst hc2
    exact lb_tri x)


end Go.Proofs.Ytdmcpgbnomhahaa
