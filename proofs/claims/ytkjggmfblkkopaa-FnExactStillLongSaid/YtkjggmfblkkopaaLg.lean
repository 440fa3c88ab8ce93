/-
  The logarithm. No conditions.
-/
import Derived.Test.YtkjggmfblkkopaaSc
import Derived.Test.YtkjggmfblkkopaaEx
import Derived.Test.YtkjggmfblkkopaaWl
import Derived.Test.YtkjggmfblkkopaaLb
namespace Go.Proofs.Ytkjggmfblkkopaa
set_option linter.unusedVariables false
set_option linter.unusedSimpArgs false
open Go.RowKit

structure Cla where
def Cla.base (c : Cla) : Mem := []
structure Vla where
  y : Nat
  e : Int
noncomputable abbrev laRoot : Code := bodyOf Try.f133
def la_st (c : Cla) (v : Vla) : FSt := ⟨[(0, .one (.fl .f64 v.y)), (3, .one (.num .i64 v.e))], c.base ++ []⟩
def la_step (c : Cla) (v : Vla) : T (Nx Vla) :=
  .ite (fge FloatKind.f64 v.1 (canon FloatKind.f64 4609434218613702656)) (.leaf (.go { y := fdiv FloatKind.f64 v.1 (canon FloatKind.f64 4611686018427387904), e := IntKind.i64.wrap (v.2 + 1) })) (.leaf (.out (EX.exit 1) ⟨[(0, AV.one (SV.fl FloatKind.f64 v.1)), (3, AV.one (SV.num IntKind.i64 v.2))], c.base ++ []⟩))
theorem la_round (c : Cla) (v : Vla) : roundF Try.prog 64 [] laRoot [] c.base [0, 2, 3, 4, 5, 6, 7, 8, 17, 21, 26, 32, 46, 198] [0, 3] 1 (la_st c v) = (la_step c v).map (nxF (la_st c)) := by kernel_rfl
def la_b (v : Vla) : Bool := fge .f64 v.y 4609434218613702656
def la_f (v : Vla) : Vla := { y := fdiv .f64 v.y 4611686018427387904, e := IntKind.i64.wrap (v.e + 1) }
def la_ok (c : Cla) (v : Vla) : Bool := decide (dnI 128 v.y)
def la_R (x : Cla × Vla) : T (EX × FSt) := .need (la_ok x.1 x.2) (.leaf (.normal, la_st x.1 (whl la_b la_f 128 x.2)))
theorem la_tri (x : Cla × Vla) : TriR Try.prog 64 x.1.base (.block 1 (.loop (bodyB laRoot 1))) (la_st x.1 x.2) (la_R x) := by
  obtain ⟨c, v⟩ := x
  refine triR_of mix (root := laRoot) (by kernel_rfl) (by kernel_rfl) [0, 2, 3, 4, 5, 6, 7, 8, 17, 21, 26, 32, 46, 198] [0, 3] (la_st c) (la_step c) (la_round c) v _ (128 + 1) (fun Φ h => ?_)
  have h0 : dnI 128 v.y := of_decide_eq_true h.1
  have h1 : Φ (.normal, la_st c (whl la_b la_f 128 v)) := h.2
  refine T_while (la_step c) la_b la_f (fun v => (.exit 1, la_st c v)) (fun k v => dnI k v.y) (fun k v hi hb => dn_step hi hb) (fun v hi => dn_end hi) (fun v hb Ψ hΨ => ?_) (fun v hb Ψ hΨ => ?_) (fun v => by simp) 128 v h0 _ (by simpa [blkEx] using h1)
  · unfold la_step
    exact T.h_ite (fun _ => T.h_leaf hΨ) (fun hc => absurd (hb.symm.trans hc) (by decide))
  · unfold la_step
    exact T.h_ite (fun hc => absurd (hc.symm.trans hb) (by decide)) (fun _ => T.h_leaf hΨ)

def la_dec (b : Mem) (f : FSt) : Option (Cla × Vla) :=
  match getF .f64 (findF 0 f.sl), getI (findF 3 f.sl), id b, f.mem with
  | some q_y, some q_e, [], [] => some ({  }, { y := q_y, e := q_e })
  | _, _, _, _ => none
theorem la_dec_ok (b : Mem) (f : FSt) (x : Cla × Vla) (h : la_dec b f = some x) : b = x.1.base ∧ FLe b f (la_st x.1 x.2) := by
  unfold la_dec at h
  split at h
  · rename_i e0 e1 hb hm
    cases h
    have hb : b = _ := hb
    subst hb
    refine ⟨rfl, fle_of (fun p hp => ?_) (by rw [hm]; exact trivial)⟩
    simp only [List.mem_cons, List.not_mem_nil, or_false] at hp
    rcases hp with rfl | rfl
    · exact getF_rel e0
    · exact getI_rel e1
  · cases h
noncomputable def la_sum : SumF Try.prog 64 laRoot :=
  sumL (pathB laRoot 1) la_dec (fun x => x.1.base) (fun x => la_st x.1 x.2) la_R la_dec_ok (by
    intro code hc x
    have hc2 : code = .block 1 (.loop (bodyB laRoot 1)) := by
      have h : subR laRoot (pathB laRoot 1) = some (.block 1 (.loop (bodyB laRoot 1))) := by kernel_rfl
      rw [h] at hc; cases hc; rfl
    subst hc2
    exact la_tri x)

structure Clb where
def Clb.base (c : Clb) : Mem := []
structure Vlb where
  y : Nat
  e : Int
noncomputable abbrev lbRoot : Code := bodyOf Try.f133
def lb_st (c : Clb) (v : Vlb) : FSt := ⟨[(0, .one (.fl .f64 v.y)), (3, .one (.num .i64 v.e))], c.base ++ []⟩
def lb_step (c : Clb) (v : Vlb) : T (Nx Vlb) :=
  .ite (flt FloatKind.f64 v.1 (canon FloatKind.f64 4604930618986332160)) (.leaf (.go { y := fmul FloatKind.f64 v.1 (canon FloatKind.f64 4611686018427387904), e := IntKind.i64.wrap (v.2 - 1) })) (.leaf (.out (EX.exit 3) ⟨[(0, AV.one (SV.fl FloatKind.f64 v.1)), (3, AV.one (SV.num IntKind.i64 v.2))], c.base ++ []⟩))
theorem lb_round (c : Clb) (v : Vlb) : roundF Try.prog 64 [] lbRoot [] c.base [0, 2, 3, 4, 5, 6, 7, 8, 17, 21, 26, 32, 46, 198] [0, 3] 3 (lb_st c v) = (lb_step c v).map (nxF (lb_st c)) := by kernel_rfl
def lb_b (v : Vlb) : Bool := flt .f64 v.y 4604930618986332160
def lb_f (v : Vlb) : Vlb := { y := fmul .f64 v.y 4611686018427387904, e := IntKind.i64.wrap (v.e - 1) }
def lb_ok (c : Clb) (v : Vlb) : Bool := decide (upI 149 v.y)
def lb_R (x : Clb × Vlb) : T (EX × FSt) := .need (lb_ok x.1 x.2) (.leaf (.normal, lb_st x.1 (whl lb_b lb_f 149 x.2)))
theorem lb_tri (x : Clb × Vlb) : TriR Try.prog 64 x.1.base (.block 3 (.loop (bodyB lbRoot 3))) (lb_st x.1 x.2) (lb_R x) := by
  obtain ⟨c, v⟩ := x
  refine triR_of mix (root := lbRoot) (by kernel_rfl) (by kernel_rfl) [0, 2, 3, 4, 5, 6, 7, 8, 17, 21, 26, 32, 46, 198] [0, 3] (lb_st c) (lb_step c) (lb_round c) v _ (149 + 1) (fun Φ h => ?_)
  have h0 : upI 149 v.y := of_decide_eq_true h.1
  have h1 : Φ (.normal, lb_st c (whl lb_b lb_f 149 v)) := h.2
  refine T_while (lb_step c) lb_b lb_f (fun v => (.exit 3, lb_st c v)) (fun k v => upI k v.y) (fun k v hi hb => up_step hi hb) (fun v hi => up_end hi) (fun v hb Ψ hΨ => ?_) (fun v hb Ψ hΨ => ?_) (fun v => by simp) 149 v h0 _ (by simpa [blkEx] using h1)
  · unfold lb_step
    exact T.h_ite (fun _ => T.h_leaf hΨ) (fun hc => absurd (hb.symm.trans hc) (by decide))
  · unfold lb_step
    exact T.h_ite (fun hc => absurd (hc.symm.trans hb) (by decide)) (fun _ => T.h_leaf hΨ)

def lb_dec (b : Mem) (f : FSt) : Option (Clb × Vlb) :=
  match getF .f64 (findF 0 f.sl), getI (findF 3 f.sl), id b, f.mem with
  | some q_y, some q_e, [], [] => some ({  }, { y := q_y, e := q_e })
  | _, _, _, _ => none
theorem lb_dec_ok (b : Mem) (f : FSt) (x : Clb × Vlb) (h : lb_dec b f = some x) : b = x.1.base ∧ FLe b f (lb_st x.1 x.2) := by
  unfold lb_dec at h
  split at h
  · rename_i e0 e1 hb hm
    cases h
    have hb : b = _ := hb
    subst hb
    refine ⟨rfl, fle_of (fun p hp => ?_) (by rw [hm]; exact trivial)⟩
    simp only [List.mem_cons, List.not_mem_nil, or_false] at hp
    rcases hp with rfl | rfl
    · exact getF_rel e0
    · exact getI_rel e1
  · cases h
noncomputable def lb_sum : SumF Try.prog 64 lbRoot :=
  sumL (pathB lbRoot 3) lb_dec (fun x => x.1.base) (fun x => lb_st x.1 x.2) lb_R lb_dec_ok (by
    intro code hc x
    have hc2 : code = .block 3 (.loop (bodyB lbRoot 3)) := by
      have h : subR lbRoot (pathB lbRoot 3) = some (.block 3 (.loop (bodyB lbRoot 3))) := by kernel_rfl
      rw [h] at hc; cases hc; rfl
    subst hc2
    exact lb_tri x)

structure Clc where
def Clc.base (c : Clc) : Mem := []
structure Vlc where
  y : Nat
  e : Nat
noncomputable abbrev lcRoot : Code := bodyOf Try.f150
def lc_st (c : Clc) (v : Vlc) : FSt := ⟨[(0, .one (.fl .f64 v.y)), (3, .one (.fl .f64 v.e))], c.base ++ []⟩
def lc_step (c : Clc) (v : Vlc) : T (Nx Vlc) :=
  .ite (fge FloatKind.f64 v.1 (canon FloatKind.f64 4609434218613702656)) (.leaf (.go { y := fdiv FloatKind.f64 v.1 (canon FloatKind.f64 4611686018427387904), e := fadd FloatKind.f64 v.2 (canon FloatKind.f64 4607182418800017408) })) (.leaf (.out (EX.exit 0) ⟨[(0, AV.one (SV.fl FloatKind.f64 v.1)), (3, AV.one (SV.fl FloatKind.f64 v.2))], c.base ++ []⟩))
theorem lc_round (c : Clc) (v : Vlc) : roundF Try.prog 46 [] lcRoot [] c.base [0, 2, 3, 4, 5, 6, 7, 9, 15, 29, 198] [0, 3] 0 (lc_st c v) = (lc_step c v).map (nxF (lc_st c)) := by kernel_rfl
def lc_b (v : Vlc) : Bool := fge .f64 v.y 4609434218613702656
def lc_f (v : Vlc) : Vlc := { y := fdiv .f64 v.y 4611686018427387904, e := fadd .f64 v.e 4607182418800017408 }
def lc_ok (c : Clc) (v : Vlc) : Bool := decide (dnI 128 v.y)
def lc_R (x : Clc × Vlc) : T (EX × FSt) := .need (lc_ok x.1 x.2) (.leaf (.normal, lc_st x.1 (whl lc_b lc_f 128 x.2)))
theorem lc_tri (x : Clc × Vlc) : TriR Try.prog 46 x.1.base (.block 0 (.loop (bodyB lcRoot 0))) (lc_st x.1 x.2) (lc_R x) := by
  obtain ⟨c, v⟩ := x
  refine triR_of mix (root := lcRoot) (by kernel_rfl) (by kernel_rfl) [0, 2, 3, 4, 5, 6, 7, 9, 15, 29, 198] [0, 3] (lc_st c) (lc_step c) (lc_round c) v _ (128 + 1) (fun Φ h => ?_)
  have h0 : dnI 128 v.y := of_decide_eq_true h.1
  have h1 : Φ (.normal, lc_st c (whl lc_b lc_f 128 v)) := h.2
  refine T_while (lc_step c) lc_b lc_f (fun v => (.exit 0, lc_st c v)) (fun k v => dnI k v.y) (fun k v hi hb => dn_step hi hb) (fun v hi => dn_end hi) (fun v hb Ψ hΨ => ?_) (fun v hb Ψ hΨ => ?_) (fun v => by simp) 128 v h0 _ (by simpa [blkEx] using h1)
  · unfold lc_step
    exact T.h_ite (fun _ => T.h_leaf hΨ) (fun hc => absurd (hb.symm.trans hc) (by decide))
  · unfold lc_step
    exact T.h_ite (fun hc => absurd (hc.symm.trans hb) (by decide)) (fun _ => T.h_leaf hΨ)

def lc_dec (b : Mem) (f : FSt) : Option (Clc × Vlc) :=
  match getF .f64 (findF 0 f.sl), getF .f64 (findF 3 f.sl), id b, f.mem with
  | some q_y, some q_e, [], [] => some ({  }, { y := q_y, e := q_e })
  | _, _, _, _ => none
theorem lc_dec_ok (b : Mem) (f : FSt) (x : Clc × Vlc) (h : lc_dec b f = some x) : b = x.1.base ∧ FLe b f (lc_st x.1 x.2) := by
  unfold lc_dec at h
  split at h
  · rename_i e0 e1 hb hm
    cases h
    have hb : b = _ := hb
    subst hb
    refine ⟨rfl, fle_of (fun p hp => ?_) (by rw [hm]; exact trivial)⟩
    simp only [List.mem_cons, List.not_mem_nil, or_false] at hp
    rcases hp with rfl | rfl
    · exact getF_rel e0
    · exact getF_rel e1
  · cases h
noncomputable def lc_sum : SumF Try.prog 46 lcRoot :=
  sumL (pathB lcRoot 0) lc_dec (fun x => x.1.base) (fun x => lc_st x.1 x.2) lc_R lc_dec_ok (by
    intro code hc x
    have hc2 : code = .block 0 (.loop (bodyB lcRoot 0)) := by
      have h : subR lcRoot (pathB lcRoot 0) = some (.block 0 (.loop (bodyB lcRoot 0))) := by kernel_rfl
      rw [h] at hc; cases hc; rfl
    subst hc2
    exact lc_tri x)

structure Cld where
def Cld.base (c : Cld) : Mem := []
structure Vld where
  y : Nat
  e : Nat
noncomputable abbrev ldRoot : Code := bodyOf Try.f150
def ld_st (c : Cld) (v : Vld) : FSt := ⟨[(0, .one (.fl .f64 v.y)), (3, .one (.fl .f64 v.e))], c.base ++ []⟩
def ld_step (c : Cld) (v : Vld) : T (Nx Vld) :=
  .ite (flt FloatKind.f64 v.1 (canon FloatKind.f64 4604930618986332160)) (.leaf (.go { y := fmul FloatKind.f64 v.1 (canon FloatKind.f64 4611686018427387904), e := fsub FloatKind.f64 v.2 (canon FloatKind.f64 4607182418800017408) })) (.leaf (.out (EX.exit 2) ⟨[(0, AV.one (SV.fl FloatKind.f64 v.1)), (3, AV.one (SV.fl FloatKind.f64 v.2))], c.base ++ []⟩))
theorem ld_round (c : Cld) (v : Vld) : roundF Try.prog 46 [] ldRoot [] c.base [0, 2, 3, 4, 5, 6, 7, 9, 15, 29, 198] [0, 3] 2 (ld_st c v) = (ld_step c v).map (nxF (ld_st c)) := by kernel_rfl
def ld_b (v : Vld) : Bool := flt .f64 v.y 4604930618986332160
def ld_f (v : Vld) : Vld := { y := fmul .f64 v.y 4611686018427387904, e := fsub .f64 v.e 4607182418800017408 }
def ld_ok (c : Cld) (v : Vld) : Bool := decide (upI 149 v.y)
def ld_R (x : Cld × Vld) : T (EX × FSt) := .need (ld_ok x.1 x.2) (.leaf (.normal, ld_st x.1 (whl ld_b ld_f 149 x.2)))
theorem ld_tri (x : Cld × Vld) : TriR Try.prog 46 x.1.base (.block 2 (.loop (bodyB ldRoot 2))) (ld_st x.1 x.2) (ld_R x) := by
  obtain ⟨c, v⟩ := x
  refine triR_of mix (root := ldRoot) (by kernel_rfl) (by kernel_rfl) [0, 2, 3, 4, 5, 6, 7, 9, 15, 29, 198] [0, 3] (ld_st c) (ld_step c) (ld_round c) v _ (149 + 1) (fun Φ h => ?_)
  have h0 : upI 149 v.y := of_decide_eq_true h.1
  have h1 : Φ (.normal, ld_st c (whl ld_b ld_f 149 v)) := h.2
  refine T_while (ld_step c) ld_b ld_f (fun v => (.exit 2, ld_st c v)) (fun k v => upI k v.y) (fun k v hi hb => up_step hi hb) (fun v hi => up_end hi) (fun v hb Ψ hΨ => ?_) (fun v hb Ψ hΨ => ?_) (fun v => by simp) 149 v h0 _ (by simpa [blkEx] using h1)
  · unfold ld_step
    exact T.h_ite (fun _ => T.h_leaf hΨ) (fun hc => absurd (hb.symm.trans hc) (by decide))
  · unfold ld_step
    exact T.h_ite (fun hc => absurd (hc.symm.trans hb) (by decide)) (fun _ => T.h_leaf hΨ)

def ld_dec (b : Mem) (f : FSt) : Option (Cld × Vld) :=
  match getF .f64 (findF 0 f.sl), getF .f64 (findF 3 f.sl), id b, f.mem with
  | some q_y, some q_e, [], [] => some ({  }, { y := q_y, e := q_e })
  | _, _, _, _ => none
theorem ld_dec_ok (b : Mem) (f : FSt) (x : Cld × Vld) (h : ld_dec b f = some x) : b = x.1.base ∧ FLe b f (ld_st x.1 x.2) := by
  unfold ld_dec at h
  split at h
  · rename_i e0 e1 hb hm
    cases h
    have hb : b = _ := hb
    subst hb
    refine ⟨rfl, fle_of (fun p hp => ?_) (by rw [hm]; exact trivial)⟩
    simp only [List.mem_cons, List.not_mem_nil, or_false] at hp
    rcases hp with rfl | rfl
    · exact getF_rel e0
    · exact getF_rel e1
  · cases h
noncomputable def ld_sum : SumF Try.prog 46 ldRoot :=
  sumL (pathB ldRoot 2) ld_dec (fun x => x.1.base) (fun x => ld_st x.1 x.2) ld_R ld_dec_ok (by
    intro code hc x
    have hc2 : code = .block 2 (.loop (bodyB ldRoot 2)) := by
      have h : subR ldRoot (pathB ldRoot 2) = some (.block 2 (.loop (bodyB ldRoot 2))) := by kernel_rfl
      rw [h] at hc; cases hc; rfl
    subst hc2
    exact ld_tri x)

noncomputable def k_lw0 : Ctr Try.prog := mkF0 Try.prog mix [k_nan, k_inf, k_isinf] 133 Try.f133 (bodyOf Try.f133) Try.func133 (by kernel_rfl) (by kernel_rfl) [0, 2, 3, 4, 5, 6, 7, 8, 17, 21, 26, 32, 46, 198] 64 (by kernel_rfl) (by kernel_rfl) [la_sum, lb_sum]
noncomputable def k_nl0 : Ctr Try.prog := mkF0 Try.prog mix [] 150 Try.f150 (bodyOf Try.f150) Try.func150 (by kernel_rfl) (by kernel_rfl) [0, 2, 3, 4, 5, 6, 7, 9, 15, 29, 198] 46 (by kernel_rfl) (by kernel_rfl) [lc_sum, ld_sum]
def lgA (y : Nat) : Vla := whl la_b la_f 128 { y := y, e := 0 }
def lgB (y : Nat) : Vlb := whl lb_b lb_f 149 { y := (lgA y).y, e := (lgA y).e }
def lgC (y : Nat) : Vlc := whl lc_b lc_f 128 { y := y, e := canon .f64 0 }
def lgD (y : Nat) : Vld := whl ld_b ld_f 149 { y := (lgC y).y, e := (lgC y).e }
def lgF (y : Nat) : Nat := lgT (lgB y).y (fint .f64 (lgB y).e)
def lwV (y : Nat) : Nat := bif (bif !feq .f64 y y then true else flt .f64 y 0) then qnan .f64 else bif feq .f64 y 0 then 18442240474082181120 else bif fgt .f64 y 9218868437227405311 then y else lgF y
def lgIn (y : Nat) : Bool := bif (bif !feq .f64 y y then true else flt .f64 y 0) then true else bif feq .f64 y 0 then true else bif fgt .f64 y 9218868437227405311 then true else decide (dnI 128 y)
def lgR1 (k : Nat) (v : Vla) (w : Vlc) : Prop := v.y = w.y ∧ dnI k v.y ∧ w.e = fint .f64 v.e ∧ 0 ≤ v.e ∧ v.e + k ≤ 128
def lgR2 (k : Nat) (v : Vlb) (w : Vld) : Prop := v.y = w.y ∧ upI k v.y ∧ w.e = fint .f64 v.e ∧ (k : Int) - 149 ≤ v.e ∧ v.e ≤ 128
theorem lgR1_step (k : Nat) (v : Vla) (w : Vlc) (h : lgR1 (k + 1) v w) (hb : la_b v = true) : lgR1 k (la_f v) (lc_f w) := by
  obtain ⟨h1, h2, h3, h4, h5⟩ := h
  have hw : IntKind.i64.wrap (v.e + 1) = v.e + 1 := IntWalk.i64_in _ (by omega)
  refine ⟨?_, dn_step h2 hb, ?_, ?_, ?_⟩
  · exact congrArg (fun z => fdiv .f64 z 4611686018427387904) h1
  · show fadd .f64 w.e 4607182418800017408 = fint .f64 (IntKind.i64.wrap (v.e + 1)); rw [hw, h3, e_up h4 (by omega)]
  · show 0 ≤ IntKind.i64.wrap (v.e + 1); omega
  · show IntKind.i64.wrap (v.e + 1) + k ≤ 128; omega
theorem lgR2_step (k : Nat) (v : Vlb) (w : Vld) (h : lgR2 (k + 1) v w) (hb : lb_b v = true) : lgR2 k (lb_f v) (ld_f w) := by
  obtain ⟨h1, h2, h3, h4, h5⟩ := h
  have hw : IntKind.i64.wrap (v.e - 1) = v.e - 1 := IntWalk.i64_in _ (by omega)
  refine ⟨?_, up_step h2 hb, ?_, ?_, ?_⟩
  · exact congrArg (fun z => fmul .f64 z 4611686018427387904) h1
  · show fsub .f64 w.e 4607182418800017408 = fint .f64 (IntKind.i64.wrap (v.e - 1)); rw [hw, h3, e_dn (by omega) (by omega)]
  · show (k : Int) - 149 ≤ IntKind.i64.wrap (v.e - 1); omega
  · show IntKind.i64.wrap (v.e - 1) ≤ 128; omega
theorem lg_mid {y : Nat} (h : dnI 128 y) : (lgA y).y = (lgC y).y ∧ (lgC y).e = fint .f64 (lgA y).e ∧ 0 ≤ (lgA y).e ∧ (lgA y).e ≤ 128 ∧ upI 149 (lgA y).y := by
  obtain ⟨j, h1, h2, h3, h4, h5⟩ := whl_rel (b := la_b) (f := la_f) (b' := lc_b) (f' := lc_f) lgR1 (fun k v w h => congrArg (fun z => fge .f64 z 4609434218613702656) h.1) lgR1_step 128 { y := y, e := 0 } { y := y, e := canon .f64 0 } ⟨rfl, h, (show canon .f64 0 = fint .f64 0 by decide +kernel), Int.le_refl 0, (show (0 : Int) + (128 : Nat) ≤ 128 by decide)⟩
  obtain ⟨g1, _⟩ := whl_end (b := la_b) (f := la_f) (fun k v => dnI k v.y) (fun k v hi hb => dn_step hi hb) (fun v hi => dn_end hi) 128 { y := y, e := 0 } h
  exact ⟨h1, h3, h4, by show (whl la_b la_f 128 { y := y, e := 0 }).e ≤ 128; omega, up_start h2 g1⟩
theorem lg_end {y : Nat} (h : dnI 128 y) : (lgB y).y = (lgD y).y ∧ (lgD y).e = fint .f64 (lgB y).e ∧ -149 ≤ (lgB y).e ∧ (lgB y).e ≤ 128 ∧ (∃ j, upI j (lgB y).y) ∧ flt .f64 (lgB y).y 4604930618986332160 = false := by
  obtain ⟨m1, m2, m3, m4, m5⟩ := lg_mid h
  obtain ⟨j, h1, h2, h3, h4, h5⟩ := whl_rel (b := lb_b) (f := lb_f) (b' := ld_b) (f' := ld_f) lgR2 (fun k v w h => congrArg (fun z => flt .f64 z 4604930618986332160) h.1) lgR2_step 149 { y := (lgA y).y, e := (lgA y).e } { y := (lgC y).y, e := (lgC y).e } ⟨m1, m5, m2, by show ((149 : Nat) : Int) - 149 ≤ (lgA y).e; omega, m4⟩
  obtain ⟨g1, _⟩ := whl_end (b := lb_b) (f := lb_f) (fun k v => upI k v.y) (fun k v hi hb => up_step hi hb) (fun v hi => up_end hi) 149 { y := (lgA y).y, e := (lgA y).e } m5
  exact ⟨h1, h3, by show -149 ≤ (whl lb_b lb_f 149 { y := (lgA y).y, e := (lgA y).e }).e; omega, h5, ⟨j, h2⟩, g1⟩
theorem lgF_b {y : Nat} (h : dnI 128 y) : rung FloatKind.f64.format (lgF y) ≤ 4637159503819702272 := by
  obtain ⟨h1, h2, h3, h4, ⟨j, h5⟩, h6⟩ := lg_end h
  have hf := upI_fin h5
  rw [flt_rung hf c075_f.1 h5.2.1 c075_f.2.1, c075_f.2.2] at h6
  exact lgT_b hf h5.2.1 (Nat.le_of_not_lt (of_decide_eq_false h6)) h5.2.2.2 (by omega) (by omega)
theorem lgF_i {y : Nat} (h : dnI 128 y) : lgT (lgD y).y (lgD y).e = lgF y := by
  obtain ⟨h1, h2, _⟩ := lg_end h
  unfold lgF
  rw [h1, h2]
def run_lw : List AV → Mem → T Res
  | [.one (.fl .f64 y)], [] => .need (lgIn y) (.leaf (.one (.fl .f64 (lwV y)), []))
  | _, _ => .fail
theorem lw0_ev (y : Nat) : k_lw0.run [.one (.fl .f64 y)] [] = .ite (bif !feq .f64 y y then true else flt .f64 y 0) (.leaf (.one (.fl .f64 (qnan .f64)), [])) (.ite (feq .f64 y 0) (.leaf (.one (.fl .f64 18442240474082181120), [])) (.ite (fgt .f64 y 9218868437227405311) (.leaf (.one (.fl .f64 y), []))
    (.need (decide (dnI 128 y)) (.need (decide (upI 149 (lgA y).y)) (.leaf (.one (.fl .f64 (lgF y)), [])))))) := by kernel_rfl
noncomputable def k_lw : Ctr Try.prog := (k_lw0.to run_lw (by
  intro args mem _
  unfold run_lw
  split
  · rename_i y _
    constructor
    intro Φ hΦ h
    rw [lw0_ev]
    obtain ⟨hn, hl⟩ := h
    have hl : Φ (.one (.fl .f64 (lwV y)), []) := hl
    unfold lgIn at hn
    unfold lwV at hl
    refine T.h_ite (fun h1 => T.h_leaf ?_) (fun h1 => T.h_ite (fun h2 => T.h_leaf ?_) (fun h2 => T.h_ite (fun h3 => T.h_leaf ?_) (fun h3 => ?_)))
    · rw [h1, cond_true] at hl; exact hl
    · rw [h1, h2, cond_false, cond_true] at hl; exact hl
    · rw [h1, h2, h3, cond_false, cond_false, cond_true] at hl; exact hl
    · rw [h1, h2, h3, cond_false, cond_false, cond_false] at hl
      rw [h1, h2, h3, cond_false, cond_false, cond_false] at hn
      have hd : dnI 128 y := of_decide_eq_true hn
      exact T.h_need hn (T.h_need (decide_eq_true (lg_mid hd).2.2.2.2) (T.h_leaf hl))
  · exact Weak.fail _)).own
def run_nl : List AV → Mem → T Res
  | [.one (.fl .f64 y)], [] => .need (decide (dnI 128 y)) (.leaf (.one (.fl .f64 (lgF y)), []))
  | _, _ => .fail
theorem nl0_ev (y : Nat) : k_nl0.run [.one (.fl .f64 y)] [] = .need (decide (dnI 128 y)) (.need (decide (upI 149 (lgC y).y)) (.leaf (.one (.fl .f64 (lgT (lgD y).y (lgD y).e)), []))) := by kernel_rfl
noncomputable def k_nl : Ctr Try.prog := (k_nl0.to run_nl (by
  intro args mem _
  unfold run_nl
  split
  · rename_i y _
    constructor
    intro Φ hΦ h
    rw [nl0_ev]
    have hd : dnI 128 y := of_decide_eq_true h.1
    have hl : Φ (.one (.fl .f64 (lgF y)), []) := h.2
    have hm := lg_mid hd
    refine T.h_need h.1 (T.h_need (decide_eq_true ?_) (T.h_leaf ?_))
    · rw [← hm.1]; exact hm.2.2.2.2
    · rw [lgF_i hd]; exact hl
  · exact Weak.fail _)).own
/-! ### In 32 bits -/
def logV (x : Nat) : Nat := fcvt .f64 .f32 (lwV (fcvt .f32 .f64 x))
theorem inf_cvt {x : Nat} (hn : isNan .f32 x = false) (hf : fin .f32 x = false) : fcvt .f32 .f64 x = if sgn FloatKind.f32.format x then 18442240474082181120 else 9218868437227405312 := by
  unfold fcvt
  rw [hn, if_neg (by simp), if_neg (by decide)]
  show FloatKind.f64.encode (FloatKind.f32.format.read x) = _
  rw [read_inf .f32 (inf_rung hn hf)]
  cases sgn FloatKind.f32.format x <;> decide +kernel
theorem nan_cvt {x : Nat} (hn : isNan .f32 x = true) : fcvt .f32 .f64 x = qnan .f64 := by
  unfold fcvt; rw [hn, if_pos rfl]
/-- What a number can be. -/
inductive LgKind (x : Nat) : Prop where
  | nan (h : fcvt .f32 .f64 x = qnan .f64)
  | ninf (h : fcvt .f32 .f64 x = 18442240474082181120)
  | pinf (h : fcvt .f32 .f64 x = 9218868437227405312)
  | neg (h1 : flt .f32 x 0 = true) (h2 : fin .f32 x = true)
  | zero (h1 : flt .f32 x 0 = false) (h2 : feq .f32 x 0 = true) (h3 : fin .f32 x = true)
  | pos (h1 : flt .f32 x 0 = false) (h2 : feq .f32 x 0 = false) (h3 : fin .f32 x = true) (h4 : dnI 128 (fcvt .f32 .f64 x))
theorem lk (x : Nat) : LgKind x := by
  cases hn : isNan .f32 x with
  | true => exact .nan (nan_cvt hn)
  | false =>
    cases hf : fin .f32 x with
    | false =>
      have := inf_cvt hn hf
      cases hs : sgn FloatKind.f32.format x with
      | true => rw [hs, if_pos rfl] at this; exact .ninf this
      | false => rw [hs, if_neg (by simp)] at this; exact .pinf this
    | true =>
      cases h1 : flt .f32 x 0 with
      | true => exact .neg h1 hf
      | false =>
        cases h2 : feq .f32 x 0 with
        | true => exact .zero h1 h2 hf
        | false =>
          refine .pos h1 h2 hf (wide_dn hf ?_)
          rw [flt_iff, hn, show isNan .f32 0 = false by decide +kernel] at h1
          rw [feq_iff, hn, show isNan .f32 0 = false by decide +kernel] at h2
          rw [fgt_iff, hn, show isNan .f32 0 = false by decide +kernel]
          simp only [Bool.not_false, Bool.true_and, decide_eq_false_iff_not, decide_eq_true_eq] at h1 h2 ⊢
          omega
theorem fin_no_inf {x : Nat} (hf : fin .f32 x = true) : fgt .f64 (fcvt .f32 .f64 x) 9218868437227405311 = false := by
  have h1 : fin .f64 (fcvt .f32 .f64 x) = true := by rw [fin_wide]; exact hf
  have h3 := (fin_iff .f64 _).1 h1
  rw [fgt_iff, fin_not_nan h1, show isNan .f64 9218868437227405311 = false by decide +kernel, show sgv FloatKind.f64.format 9218868437227405311 = V FloatKind.f64.format 9218868437227405311 by decide +kernel]
  have e2 : FloatKind.f64.format.infRung = 9218868437227405312 := by decide
  have := V_le FloatKind.f64.format (show rung FloatKind.f64.format (fcvt .f32 .f64 x) ≤ 9218868437227405311 by omega)
  simp only [Bool.not_false, Bool.true_and, decide_eq_false_iff_not]
  unfold sgv
  split <;> omega
theorem wide_tests {x : Nat} (hf : fin .f32 x = true) : (bif !feq .f64 (fcvt .f32 .f64 x) (fcvt .f32 .f64 x) then true else flt .f64 (fcvt .f32 .f64 x) 0) = flt .f32 x 0 ∧ feq .f64 (fcvt .f32 .f64 x) 0 = feq .f32 x 0 := by
  rw [feq_wide, feq_self, fin_not_nan hf, flt_zero, feq_zero]
  exact ⟨rfl, rfl⟩
theorem lw_nan : lwV (qnan .f64) = qnan .f64 := by decide +kernel
theorem lw_ninf : lwV 18442240474082181120 = qnan .f64 := by decide +kernel
theorem lw_pinf : lwV 9218868437227405312 = 9218868437227405312 := by decide +kernel
theorem lw_neg {x : Nat} (h1 : flt .f32 x 0 = true) (hf : fin .f32 x = true) : lwV (fcvt .f32 .f64 x) = qnan .f64 := by
  unfold lwV; rw [(wide_tests hf).1, h1, cond_true]
theorem lw_zero {x : Nat} (h1 : flt .f32 x 0 = false) (h2 : feq .f32 x 0 = true) (hf : fin .f32 x = true) : lwV (fcvt .f32 .f64 x) = 18442240474082181120 := by
  unfold lwV; rw [(wide_tests hf).1, (wide_tests hf).2, h1, h2, cond_false, cond_true]
theorem lw_pos {x : Nat} (h1 : flt .f32 x 0 = false) (h2 : feq .f32 x 0 = false) (hf : fin .f32 x = true) : lwV (fcvt .f32 .f64 x) = lgF (fcvt .f32 .f64 x) := by
  unfold lwV; rw [(wide_tests hf).1, (wide_tests hf).2, h1, h2, fin_no_inf hf, cond_false, cond_false, cond_false]
theorem lgIn_ok (x : Nat) : lgIn (fcvt .f32 .f64 x) = true := by
  rcases lk x with h | h | h | ⟨h1, h2⟩ | ⟨h1, h2, h3⟩ | ⟨h1, h2, h3, h4⟩
  · rw [h]; decide +kernel
  · rw [h]; decide +kernel
  · rw [h]; decide +kernel
  · unfold lgIn; rw [(wide_tests h2).1, h1, cond_true]
  · unfold lgIn; rw [(wide_tests h3).1, (wide_tests h3).2, h1, h2, cond_false, cond_true]
  · unfold lgIn; rw [(wide_tests h3).1, (wide_tests h3).2, h1, h2, fin_no_inf h3, cond_false, cond_false, cond_false]; exact decide_eq_true h4
theorem lw_fits (x : Nat) : cvtFits .f64 .f32 (lwV (fcvt .f32 .f64 x)) = true := by
  rcases lk x with h | h | h | ⟨h1, h2⟩ | ⟨h1, h2, h3⟩ | ⟨h1, h2, h3, h4⟩
  · rw [h, lw_nan]; decide +kernel
  · rw [h, lw_ninf]; decide +kernel
  · rw [h, lw_pinf]; decide +kernel
  · rw [lw_neg h1 h2]; decide +kernel
  · rw [lw_zero h1 h2 h3]; decide +kernel
  · rw [lw_pos h1 h2 h3]; exact lg_fits (lgF_b h4)
theorem log_third (x : Nat) : exOk (fdiv .f32 (logV x) 1077936128) = true := by
  unfold logV
  rcases lk x with h | h | h | ⟨h1, h2⟩ | ⟨h1, h2, h3⟩ | ⟨h1, h2, h3, h4⟩
  · rw [h, lw_nan]; exact exOk_of (by decide +kernel)
  · rw [h, lw_ninf]; exact exOk_of (by decide +kernel)
  · rw [h, lw_pinf]; exact (exOk_iff _).2 (by decide +kernel)
  · rw [lw_neg h1 h2]; exact exOk_of (by decide +kernel)
  · rw [lw_zero h1 h2 h3]; exact exOk_of (by decide +kernel)
  · rw [lw_pos h1 h2 h3]; exact lg_third (lgF_b h4)
noncomputable def k_l01NarrowL : Ctr Try.prog := mkC Try.prog mix [] 121 Try.f121 (bodyOf Try.f121) Try.func121 (by kernel_rfl) (by kernel_rfl) []
noncomputable def k_l01Log0 : Ctr Try.prog := mkC Try.prog mix [k_l01NarrowL, k_lw] 88 Try.f88 (bodyOf Try.f88) Try.func88 (by kernel_rfl) (by kernel_rfl) []
theorem l01Log0_ev (x : Nat) (mem : Mem) : k_l01Log0.run [.one (.fl .f32 x)] mem = .need (lgIn (fcvt .f32 .f64 x)) (.need (cvtFits .f64 .f32 (lwV (fcvt .f32 .f64 x))) (.leaf (.one (.fl .f32 (logV x)), []))) := by kernel_rfl
noncomputable def k_l01Log : Ctr Try.prog := k_l01Log0.to (runF .f32 fun x => .leaf (.one (.fl .f32 (logV x)))) (weak_F (C := k_l01Log0) fun x mem _ => ⟨fun Φ hΦ h => by
  rw [l01Log0_ev]; exact T.h_need (lgIn_ok x) (T.h_need (lw_fits x) h)⟩)
noncomputable def k_logarithm : Ctr Try.prog := mkC Try.prog mix [k_nl] 135 Try.f135 (bodyOf Try.f135) Try.func135 (by kernel_rfl) (by kernel_rfl) []
noncomputable def k_LogNumber0 : Ctr Try.prog := mkC Try.prog mix [k_IsFinite, k_nan, k_inf, k_logarithm] 90 Try.f90 (bodyOf Try.f90) Try.func90 (by kernel_rfl) (by kernel_rfl) []
theorem iLog0_ev (x : Nat) (mem : Mem) : k_LogNumber0.run [.one (.fl .f32 x)] mem = .ite (!feq .f32 x x) (.need true (.leaf (.one (.fl .f32 (fcvt .f64 .f32 (qnan .f64))), []))) (.ite (flt .f32 x 0) (.need true (.leaf (.one (.fl .f32 (fcvt .f64 .f32 (qnan .f64))), []))) (.ite (feq .f32 x 0) (.need true (.leaf (.one (.fl .f32 (fcvt .f64 .f32 18442240474082181120)), []))) (.ite (!fin .f32 x) (.leaf (.one (.fl .f32 x), []))
    (.need (decide (dnI 128 (fcvt .f32 .f64 x))) (.need (cvtFits .f64 .f32 (lgF (fcvt .f32 .f64 x))) (.leaf (.one (.fl .f32 (fcvt .f64 .f32 (lgF (fcvt .f32 .f64 x)))), []))))))) := by kernel_rfl
def iLog (x : Nat) : Nat := bif !feq .f32 x x then fcvt .f64 .f32 (qnan .f64) else bif flt .f32 x 0 then fcvt .f64 .f32 (qnan .f64) else bif feq .f32 x 0 then fcvt .f64 .f32 18442240474082181120 else bif !fin .f32 x then x else fcvt .f64 .f32 (lgF (fcvt .f32 .f64 x))
theorem iLog_eq {x : Nat} (hc : Can .f32 x) : iLog x = logV x ∧ ((!feq .f32 x x) = false → flt .f32 x 0 = false → feq .f32 x 0 = false → (!fin .f32 x) = false → dnI 128 (fcvt .f32 .f64 x)) := by
  unfold iLog logV
  rcases lk x with h | h | h | ⟨h1, h2⟩ | ⟨h1, h2, h3⟩ | ⟨h1, h2, h3, h4⟩
  · have e : (!feq .f32 x x) = true := by rw [feq_self, ← isNan_cvt (s := .f32) (k := .f64) x, h]; decide +kernel
    rw [h, e, lw_nan, cond_true]; exact ⟨rfl, fun a => by cases a⟩
  · have e : (!feq .f32 x x) = false := by rw [feq_self, ← isNan_cvt (s := .f32) (k := .f64) x, h]; decide +kernel
    have e2 : flt .f32 x 0 = true := by rw [← flt_zero, h]; decide +kernel
    rw [h, e, e2, lw_ninf, cond_true, cond_false]; exact ⟨rfl, fun _ a => by cases a⟩
  · have e : (!feq .f32 x x) = false := by rw [feq_self, ← isNan_cvt (s := .f32) (k := .f64) x, h]; decide +kernel
    have e2 : flt .f32 x 0 = false := by rw [← flt_zero, h]; decide +kernel
    have e3 : feq .f32 x 0 = false := by rw [← feq_zero, h]; decide +kernel
    have e4 : fin .f32 x = false := by rw [← fin_wide, h]; decide +kernel
    have hn : isNan .f32 x = false := by rw [← isNan_cvt (s := .f32) (k := .f64) x, h]; decide +kernel
    have hs : sgn FloatKind.f32.format x = false := by rw [← sgn_wide hn, h]; decide +kernel
    have hx : x = 2139095040 := by
      rw [word_split hc.1, hs, inf_rung hn e4]; decide +kernel
    rw [h, e, e2, e3, e4, lw_pinf, cond_false, cond_false, cond_false, Bool.not_false, cond_true]
    exact ⟨by rw [hx]; decide +kernel, fun _ _ _ a => by cases a⟩
  · have e : (!feq .f32 x x) = false := by rw [feq_self, fin_not_nan h2]; rfl
    rw [e, h1, lw_neg h1 h2, cond_false, cond_true]; exact ⟨rfl, fun _ a => by cases a⟩
  · have e : (!feq .f32 x x) = false := by rw [feq_self, fin_not_nan h3]; rfl
    rw [e, h1, h2, lw_zero h1 h2 h3, cond_false, cond_false, cond_true]; exact ⟨rfl, fun _ _ a => by cases a⟩
  · have e : (!feq .f32 x x) = false := by rw [feq_self, fin_not_nan h3]; rfl
    rw [e, h1, h2, h3, lw_pos h1 h2 h3, cond_false, cond_false, cond_false, Bool.not_true, cond_false]; exact ⟨rfl, fun _ _ _ _ => h4⟩
noncomputable def k_LogNumber : Ctr Try.prog := k_LogNumber0.to (runF .f32 fun x => .leaf (.one (.fl .f32 (logV x)))) (weak_F (C := k_LogNumber0) fun x mem hc => ⟨fun Φ hΦ h => by
  rw [iLog0_ev]
  obtain ⟨he, hd⟩ := iLog_eq hc
  have h : Φ (.one (.fl .f32 (logV x)), []) := h
  rw [← he] at h
  unfold iLog at h
  refine T.h_ite (fun h1 => T.h_need rfl (T.h_leaf ?_)) (fun h1 => T.h_ite (fun h2 => T.h_need rfl (T.h_leaf ?_)) (fun h2 => T.h_ite (fun h3 => T.h_need rfl (T.h_leaf ?_)) (fun h3 => T.h_ite (fun h4 => T.h_leaf ?_) (fun h4 => T.h_need (decide_eq_true (hd h1 h2 h3 h4)) (T.h_need (lg_fits (lgF_b (hd h1 h2 h3 h4))) (T.h_leaf ?_))))))
  · rw [h1, cond_true] at h; exact h
  · rw [h1, h2, cond_false, cond_true] at h; exact h
  · rw [h1, h2, h3, cond_false, cond_false, cond_true] at h; exact h
  · rw [h1, h2, h3, h4, cond_false, cond_false, cond_false, cond_true] at h; exact h
  · rw [h1, h2, h3, h4, cond_false, cond_false, cond_false, cond_false] at h; exact h⟩)
noncomputable def k_sl_s_l02Number : Ctr Try.prog := (mkF Try.prog mix [k_l01Finite] 66 Try.f66 (bodyOf Try.f66) Try.func66 (by kernel_rfl) (by kernel_rfl) [0, 2, 3, 6, 198] 8 (by kernel_rfl) (by kernel_rfl)).mg
noncomputable def k_sl_s_StillLong : Ctr Try.prog := (mkF Try.prog mix [k_svb, k_sl_s_l02Number, k_l01Exp, k_l01Log] 32 Try.f32 (bodyOf Try.f32) Try.func32 (by kernel_rfl) (by kernel_rfl) [0, 1, 2, 3, 4, 12, 198] 28 (by kernel_rfl) (by kernel_rfl)).mg
noncomputable def k_sl_i_told : Ctr Try.prog := (mkF Try.prog mix [k_IsFinite] 69 Try.f69 (bodyOf Try.f69) Try.func69 (by kernel_rfl) (by kernel_rfl) [0, 2, 3, 6, 198] 8 (by kernel_rfl) (by kernel_rfl)).mg
noncomputable def k_sl_i_StillLong : Ctr Try.prog := (mkF Try.prog mix [k_ivb, k_sl_i_told, k_ExpNumber, k_LogNumber] 33 Try.f33 (bodyOf Try.f33) Try.func33 (by kernel_rfl) (by kernel_rfl) [0, 1, 2, 3, 4, 13, 198] 29 (by kernel_rfl) (by kernel_rfl)).mg
def stlC (ma ra sp stt : Nat) : Bool := bif !vb ma ra sp stt then true else !fgt .f32 sp 0
noncomputable def stlZ (ma sp : Nat) : Nat := exV (fdiv .f32 (logV (fdiv .f32 ma (fmul .f32 (fmul .f32 1086918619 sp) (fmul .f32 1086918619 sp)))) 1077936128)
noncomputable def stlX (ma ra sp stt : Nat) : Nat := bif stlC ma ra sp stt then 0 else bif !fin .f32 (stlZ ma sp) then 0 else stlZ ma sp
noncomputable def stlB (ma ra sp stt : Nat) : Bool := bif stlC ma ra sp stt then false else !!fin .f32 (stlZ ma sp)
noncomputable def run_St : List AV → Mem → T Res
  | [.agg [.fl .f32 ma, .fl .f32 ra, .fl .f32 sp, .fl .f32 stt]], _ => .leaf (.tup [.one (.fl .f32 (stlX ma ra sp stt)), .one (.bo (stlB ma ra sp stt))], [])
  | _, _ => .fail
theorem sSt_ev (ma ra sp stt : Nat) (mem : Mem) : k_sl_s_StillLong.run [.agg [.fl .f32 ma, .fl .f32 ra, .fl .f32 sp, .fl .f32 stt]] mem = .need (bif stlC ma ra sp stt then true else exOk (fdiv .f32 (logV (fdiv .f32 ma (fmul .f32 (fmul .f32 1086918619 sp) (fmul .f32 1086918619 sp)))) 1077936128)) (.leaf (.tup [.one (.fl .f32 (stlX ma ra sp stt)), .one (.bo (stlB ma ra sp stt))], [])) := by kernel_rfl
noncomputable def k_sSt : Ctr Try.prog := k_sl_s_StillLong.to run_St (by
  intro args mem _
  unfold run_St
  split
  · rename_i ma ra sp stt _
    constructor
    intro Φ hΦ h
    rw [sSt_ev]
    exact T.h_need (needT fun _ => log_third _) h
  · exact Weak.fail _)
theorem iSt_ev (ma ra sp stt : Nat) (mem : Mem) : k_sl_i_StillLong.run [.agg [.fl .f32 ma, .fl .f32 ra, .fl .f32 sp, .fl .f32 stt]] mem = .need (bif stlC ma ra sp stt then true else exOk (fdiv .f32 (logV (fdiv .f32 ma (fmul .f32 (fmul .f32 1086918619 sp) (fmul .f32 1086918619 sp)))) 1077936128)) (.leaf (.tup [.one (.fl .f32 (stlX ma ra sp stt)), .one (.bo (stlB ma ra sp stt))], [])) := by kernel_rfl
noncomputable def k_iSt : Ctr Try.prog := k_sl_i_StillLong.to run_St (by
  intro args mem _
  unfold run_St
  split
  · rename_i ma ra sp stt _
    constructor
    intro Φ hΦ h
    rw [iSt_ev]
    exact T.h_need (needT fun _ => log_third _) h
  · exact Weak.fail _)

end Go.Proofs.Ytkjggmfblkkopaa
