/-
  Rows of looks, copied. No conditions.
-/
import Derived.Test.YtilfbhlekfoloaaLp
import Derived.Test.YtilfbhlekfoloaaMs
import Derived.Test.YtilfbhlekfoloaaNum
namespace Go.Proofs.Ytilfbhlekfoloaa
set_option linter.unusedVariables false
set_option linter.unusedSimpArgs false
open Go.RowKit

noncomputable def k_toLook : Ctr Try.prog := mkC Try.prog mix [] 67 Try.f67 (bodyOf Try.f67) Try.func67 (by kernel_rfl) (by kernel_rfl) []

/-! ### toLookS -/

noncomputable abbrev toLookSRoot : Code := bodyOf Try.f31

structure CpLk where
  n : Nat
  cap : Nat
  m : Nat
  f0 : Nat → Nat
  f1 : Nat → Nat
  f2 : Nat → Nat
  f3 : Nat → Nat
  f4 : Nat → Nat
  n' : Nat
  cap' : Nat
  m' : Nat
  z0 : Nat → Nat
  z1 : Nat → Nat
  z2 : Nat → Nat
  z3 : Nat → Nat
  z4 : Nat → Nat
  i : Nat

def CpLk.sl (x : CpLk) : List AV := mkSl 23 0 [(0, .one (.sl 0 5 0 x.n x.cap false)), (3, .one (.sl 1 5 0 x.n' x.cap' false)), (4, .one (.num .i64 x.i))]
def CpLk.row0 (x : CpLk) (j : Nat) : Nat := if j < x.i then x.f0 j else x.z0 j
def CpLk.row1 (x : CpLk) (j : Nat) : Nat := if j < x.i then x.f1 j else x.z1 j
def CpLk.row2 (x : CpLk) (j : Nat) : Nat := if j < x.i then x.f2 j else x.z2 j
def CpLk.row3 (x : CpLk) (j : Nat) : Nat := if j < x.i then x.f3 j else x.z3 j
def CpLk.row4 (x : CpLk) (j : Nat) : Nat := if j < x.i then x.f4 j else x.z4 j
def CpLk.st (x : CpLk) : St := ⟨x.sl, [some (.cols x.m [.fl .f32 x.f0, .fl .f32 x.f1, .fl .f32 x.f2, .fl .f32 x.f3, .fl .f32 x.f4]), some (.cols x.m' [.fl .f32 x.row0, .fl .f32 x.row1, .fl .f32 x.row2, .fl .f32 x.row3, .fl .f32 x.row4])]⟩

theorem toLookS_round (x : CpLk) : roundB Try.prog [k_toLook] toLookSRoot 1 0 [0, 3, 4] x.st =
    .ite (decide ((x.i : Int) < x.n)) (.need (decide (0 ≤ (x.i : Int)) && decide ((x.i : Int) < x.n)) (.need (decide ((x.i : Int).toNat + 0 < x.m)) (.need (decide (0 ≤ (x.i : Int)) && decide ((x.i : Int) < x.n')) (.need (decide ((x.i : Int).toNat + 0 < x.m'))
      (.leaf (.normal, ⟨mkSl 23 0 [(0, .one (.sl 0 5 0 x.n x.cap false)), (3, .one (.sl 1 5 0 x.n' x.cap' false)), (4, .one (.num .i64 (IntKind.i64.wrap ((x.i : Int) + 1))))],
        [some (.cols x.m [.fl .f32 x.f0, .fl .f32 x.f1, .fl .f32 x.f2, .fl .f32 x.f3, .fl .f32 x.f4]), some (.cols x.m' [.fl .f32 fun q => if q = (x.i : Int).toNat + 0 then x.f0 ((x.i : Int).toNat + 0) else x.row0 q, .fl .f32 fun q => if q = (x.i : Int).toNat + 0 then x.f1 ((x.i : Int).toNat + 0) else x.row1 q, .fl .f32 fun q => if q = (x.i : Int).toNat + 0 then x.f2 ((x.i : Int).toNat + 0) else x.row2 q, .fl .f32 fun q => if q = (x.i : Int).toNat + 0 then x.f3 ((x.i : Int).toNat + 0) else x.row3 q, .fl .f32 fun q => if q = (x.i : Int).toNat + 0 then x.f4 ((x.i : Int).toNat + 0) else x.row4 q])]⟩)))))) (.leaf (.exit 0, x.st)) := by kernel_rfl

def CpLk.ok (x : CpLk) : Prop := x.n ≤ x.m ∧ x.n ≤ x.n' ∧ x.n ≤ x.m' ∧ x.n ≤ 1099511627776 ∧ x.i ≤ x.n
instance (x : CpLk) : Decidable x.ok := by unfold CpLk.ok; infer_instance

theorem CpLk.done {x : CpLk} (h : x.i = x.n) : { x with i := x.n } = x := by
  cases x; simp_all

theorem CpLk.next0 (x : CpLk) : (fun q => if q = (x.i : Int).toNat + 0 then x.f0 ((x.i : Int).toNat + 0) else x.row0 q) = CpLk.row0 { x with i := x.i + 1 } := by
  funext q
  simp only [CpLk.row0, Int.toNat_natCast, Nat.add_zero]
  by_cases hq : q = x.i
  · subst hq; rw [if_pos rfl, if_pos (by omega)]
  · rw [if_neg hq]
    by_cases hq2 : q < x.i
    · rw [if_pos hq2, if_pos (by omega)]
    · rw [if_neg hq2, if_neg (by omega)]

theorem CpLk.next1 (x : CpLk) : (fun q => if q = (x.i : Int).toNat + 0 then x.f1 ((x.i : Int).toNat + 0) else x.row1 q) = CpLk.row1 { x with i := x.i + 1 } := by
  funext q
  simp only [CpLk.row1, Int.toNat_natCast, Nat.add_zero]
  by_cases hq : q = x.i
  · subst hq; rw [if_pos rfl, if_pos (by omega)]
  · rw [if_neg hq]
    by_cases hq2 : q < x.i
    · rw [if_pos hq2, if_pos (by omega)]
    · rw [if_neg hq2, if_neg (by omega)]

theorem CpLk.next2 (x : CpLk) : (fun q => if q = (x.i : Int).toNat + 0 then x.f2 ((x.i : Int).toNat + 0) else x.row2 q) = CpLk.row2 { x with i := x.i + 1 } := by
  funext q
  simp only [CpLk.row2, Int.toNat_natCast, Nat.add_zero]
  by_cases hq : q = x.i
  · subst hq; rw [if_pos rfl, if_pos (by omega)]
  · rw [if_neg hq]
    by_cases hq2 : q < x.i
    · rw [if_pos hq2, if_pos (by omega)]
    · rw [if_neg hq2, if_neg (by omega)]

theorem CpLk.next3 (x : CpLk) : (fun q => if q = (x.i : Int).toNat + 0 then x.f3 ((x.i : Int).toNat + 0) else x.row3 q) = CpLk.row3 { x with i := x.i + 1 } := by
  funext q
  simp only [CpLk.row3, Int.toNat_natCast, Nat.add_zero]
  by_cases hq : q = x.i
  · subst hq; rw [if_pos rfl, if_pos (by omega)]
  · rw [if_neg hq]
    by_cases hq2 : q < x.i
    · rw [if_pos hq2, if_pos (by omega)]
    · rw [if_neg hq2, if_neg (by omega)]

theorem CpLk.next4 (x : CpLk) : (fun q => if q = (x.i : Int).toNat + 0 then x.f4 ((x.i : Int).toNat + 0) else x.row4 q) = CpLk.row4 { x with i := x.i + 1 } := by
  funext q
  simp only [CpLk.row4, Int.toNat_natCast, Nat.add_zero]
  by_cases hq : q = x.i
  · subst hq; rw [if_pos rfl, if_pos (by omega)]
  · rw [if_neg hq]
    by_cases hq2 : q < x.i
    · rw [if_pos hq2, if_pos (by omega)]
    · rw [if_neg hq2, if_neg (by omega)]

theorem toLookS_loop (x : CpLk) (hx : x.ok) : Tri Try.prog 1 (.block 0 (.loop (bodyB toLookSRoot 0))) x.st fun e s => e = .normal ∧ StLe s { x with i := x.n }.st := by
  refine loopB_tri mix (env := [k_toLook]) (root := toLookSRoot) (by kernel_rfl) [0, 3, 4] CpLk.st CpLk.ok (fun x => x.n - x.i) (fun x e s => e = .normal ∧ StLe s { x with i := x.n }.st) (fun x hx => ?_) x hx
  have h1 : x.n ≤ x.m := hx.1
  have h2 : x.n ≤ x.n' := hx.2.1
  have h3 : x.n ≤ x.m' := hx.2.2.1
  have h4 : x.n ≤ 1099511627776 := hx.2.2.2.1
  have h5 : x.i ≤ x.n := hx.2.2.2.2
  rw [toLookS_round]
  refine T.h_ite (fun hc => ?_) (fun hc => ?_)
  · have hi : x.i < x.n := by simpa using hc
    refine T.h_need (by simp; omega) (T.h_need (by simp; omega) (T.h_need (by simp; omega) (T.h_need (by simp; omega) (T.h_leaf ?_))))
    refine .inl ⟨rfl, { x with i := x.i + 1 }, ⟨h1, h2, h3, h4, hi⟩, by show x.n - (x.i + 1) < x.n - x.i; omega, StLe.of_eq ?_, fun e s h => h⟩
    have hw : IntKind.i64.wrap ((x.i : Int) + 1) = ((x.i + 1 : Nat) : Int) := by rw [IntWalk.i64_in _ (by omega)]; simp
    show (⟨_, _⟩ : St) = ⟨_, _⟩
    rw [hw, CpLk.next0 x, CpLk.next1 x, CpLk.next2 x, CpLk.next3 x, CpLk.next4 x]; rfl
  · have hi : x.i = x.n := by
      have : ¬ ((x.i : Int) < x.n) := by simpa using hc
      omega
    refine T.h_leaf (.inr ⟨by simp, fun s hs => ⟨rfl, ?_⟩⟩)
    rw [CpLk.done hi]
    exact hs

def decCpLk (st : St) : Option CpLk :=
  if st.sl.length = 23 then
    match st.sl.getD 0 .und, st.sl.getD 3 .und, st.sl.getD 4 .und, st.mem with
    | .one (.sl 0 5 0 n cap false), .one (.sl 1 5 0 n' cap' false), .one (.int .i64 0), [some (.cols m [.fl .f32 f0, .fl .f32 f1, .fl .f32 f2, .fl .f32 f3, .fl .f32 f4]), some (.cols m' [.fl .f32 z0, .fl .f32 z1, .fl .f32 z2, .fl .f32 z3, .fl .f32 z4])] => some { n := n, cap := cap, m := m, f0 := f0, f1 := f1, f2 := f2, f3 := f3, f4 := f4, n' := n', cap' := cap', m' := m', z0 := z0, z1 := z1, z2 := z2, z3 := z3, z4 := z4, i := 0 }
    | _, _, _, _ => none
  else none

theorem decCpLk_le (st : St) (x : CpLk) (h : decCpLk st = some x) : StLe st x.st := by
  unfold decCpLk at h
  split at h
  · rename_i hlen
    split at h
    · rename_i h1 h2 h3 h4
      cases h
      refine ⟨SlLe.mk hlen fun p hp => ?_, ?_⟩
      · simp only [List.mem_cons, List.not_mem_nil, or_false] at hp
        rcases hp with rfl | rfl | rfl
        · rw [h1]; exact AvLe.refl _
        · rw [h2]; exact AvLe.refl _
        · rw [h3]; exact fun _ _ hv => hv
      · rw [h4]; exact MemLe.refl _
    · cases h
  · cases h

noncomputable def toLookS_sum : Sum Try.prog toLookSRoot :=
  sumOf (pathB toLookSRoot 0) 1 decCpLk CpLk.st (fun x => decide x.ok) (fun x => (.normal, { x with i := x.n }.st)) decCpLk_le (by
    intro c hc x hx
    have : c = .block 0 (.loop (bodyB toLookSRoot 0)) := by
      have h : subR toLookSRoot (pathB toLookSRoot 0) = some (.block 0 (.loop (bodyB toLookSRoot 0))) := by kernel_rfl
      rw [h] at hc; cases hc; rfl
    subst this
    exact toLookS_loop x (of_decide_eq_true hx))

noncomputable def k_toLookS1 : Ctr Try.prog := mkC0 Try.prog mix [k_toLook] 31 Try.f31 toLookSRoot Try.func31 (by kernel_rfl) (by kernel_rfl) [toLookS_sum]
noncomputable def k_toLookS2 : Ctr Try.prog := mkC0 Try.prog mix [k_toLook] 31 Try.f31 toLookSRoot Try.func31 (by kernel_rfl) (by kernel_rfl) []
noncomputable def k_toLookS0 : Ctr Try.prog := k_toLookS1.pick k_toLookS2 (by kernel_rfl) nilArg

theorem toLookS_ev (n cap m : Nat) (f0 : Nat → Nat) (f1 : Nat → Nat) (f2 : Nat → Nat) (f3 : Nat → Nat) (f4 : Nat → Nat) : k_toLookS0.run [.one (.sl 0 5 0 n cap false)] [some (.cols m [.fl .f32 f0, .fl .f32 f1, .fl .f32 f2, .fl .f32 f3, .fl .f32 f4])] =
    .need (decide (0 ≤ (n : Int) ∧ (n : Int) ≤ 2 ^ 30 ∧ (n : Int) = n)) (.need (decide (CpLk.ok { n := n, cap := cap, m := m, f0 := f0, f1 := f1, f2 := f2, f3 := f3, f4 := f4, n' := n, cap' := n, m' := n, z0 := fun _ => 0, z1 := fun _ => 0, z2 := fun _ => 0, z3 := fun _ => 0, z4 := fun _ => 0, i := 0 })) (.leaf (.one (.sl 1 5 0 n n false), [some (.cols n [.fl .f32 (CpLk.row0 { n := n, cap := cap, m := m, f0 := f0, f1 := f1, f2 := f2, f3 := f3, f4 := f4, n' := n, cap' := n, m' := n, z0 := fun _ => 0, z1 := fun _ => 0, z2 := fun _ => 0, z3 := fun _ => 0, z4 := fun _ => 0, i := n }), .fl .f32 (CpLk.row1 { n := n, cap := cap, m := m, f0 := f0, f1 := f1, f2 := f2, f3 := f3, f4 := f4, n' := n, cap' := n, m' := n, z0 := fun _ => 0, z1 := fun _ => 0, z2 := fun _ => 0, z3 := fun _ => 0, z4 := fun _ => 0, i := n }), .fl .f32 (CpLk.row2 { n := n, cap := cap, m := m, f0 := f0, f1 := f1, f2 := f2, f3 := f3, f4 := f4, n' := n, cap' := n, m' := n, z0 := fun _ => 0, z1 := fun _ => 0, z2 := fun _ => 0, z3 := fun _ => 0, z4 := fun _ => 0, i := n }), .fl .f32 (CpLk.row3 { n := n, cap := cap, m := m, f0 := f0, f1 := f1, f2 := f2, f3 := f3, f4 := f4, n' := n, cap' := n, m' := n, z0 := fun _ => 0, z1 := fun _ => 0, z2 := fun _ => 0, z3 := fun _ => 0, z4 := fun _ => 0, i := n }), .fl .f32 (CpLk.row4 { n := n, cap := cap, m := m, f0 := f0, f1 := f1, f2 := f2, f3 := f3, f4 := f4, n' := n, cap' := n, m' := n, z0 := fun _ => 0, z1 := fun _ => 0, z2 := fun _ => 0, z3 := fun _ => 0, z4 := fun _ => 0, i := n })])]))) := by kernel_rfl

theorem toLookS_nil (a : Option Addr) : k_toLookS0.run [.one (.val (.slice a 0 0))] [] = .need (decide (0 ≤ (0 : Int) ∧ (0 : Int) ≤ 2 ^ 30 ∧ (0 : Int) = 0)) (.leaf (.one (.sl 0 5 0 0 0 true), [some (.cols 0 [.fl .f32 fun _ => 0, .fl .f32 fun _ => 0, .fl .f32 fun _ => 0, .fl .f32 fun _ => 0, .fl .f32 fun _ => 0])])) := by kernel_rfl

def runCpLk : List AV → Mem → T Res
  | [.one (.sl 0 5 0 n cap false)], [some (.cols m [.fl .f32 f0, .fl .f32 f1, .fl .f32 f2, .fl .f32 f3, .fl .f32 f4])] => .need (decide (n ≤ 1048576)) (.need (decide (n ≤ m)) (.leaf (.one (.sl 1 5 0 n n false), [some (.cols n [.fl .f32 f0, .fl .f32 f1, .fl .f32 f2, .fl .f32 f3, .fl .f32 f4])])))
  | [.one (.val (.slice a 0 0))], [] => .leaf (.one (.sl 0 5 0 0 0 false), [some (.cols 0 [.fl .f32 fun _ => 0, .fl .f32 fun _ => 0, .fl .f32 fun _ => 0, .fl .f32 fun _ => 0, .fl .f32 fun _ => 0])])
  | _, _ => .fail

noncomputable def k_toLookS : Ctr Try.prog := (k_toLookS0.to runCpLk (by
  intro args mem _
  unfold runCpLk
  split
  · rename_i n cap m f0 f1 f2 f3 f4 _
    rw [toLookS_ev]
    constructor
    intro Φ hΦ h
    have hn : n ≤ 1048576 := of_decide_eq_true h.1
    have hm : n ≤ m := of_decide_eq_true h.2.1
    refine T.h_need (by simp; omega) (T.h_need (decide_eq_true ⟨hm, Nat.le_refl n, Nat.le_refl n, by show n ≤ 1099511627776; omega, Nat.zero_le n⟩) (T.h_leaf (hΦ _ (.one (.sl 1 5 0 n n false), [some (.cols n [.fl .f32 f0, .fl .f32 f1, .fl .f32 f2, .fl .f32 f3, .fl .f32 f4])]) (le2_row (fun _ _ hv => hv) (BlLe.cols_eq (fun i hi => by simp only [colsAt, Col.at, CpLk.row0, CpLk.row1, CpLk.row2, CpLk.row3, CpLk.row4, if_pos hi]) rfl)) h.2.2)))
  · rename_i a _
    rw [toLookS_nil]
    constructor
    intro Φ hΦ h
    exact T.h_need (by decide) (T.h_leaf (hΦ _ (.one (.sl 0 5 0 0 0 false), [some (.cols 0 [.fl .f32 fun _ => 0, .fl .f32 fun _ => 0, .fl .f32 fun _ => 0, .fl .f32 fun _ => 0, .fl .f32 fun _ => 0])]) (le2_row (fun _ _ hv => hv) (BlLe.refl _)) h))
  · exact Weak.fail _)).own

/-! ### sameFloat, where the two are the same -/
noncomputable def k_sameFloat0 : Ctr Try.prog := mkC Try.prog mix [] 38 Try.f38 (bodyOf Try.f38) Try.func38 (by kernel_rfl) (by kernel_rfl) []

theorem sameFloat_ev (x : Nat) (mem : Mem) : k_sameFloat0.run [.one (.fl .f64 x), .one (.fl .f64 x)] mem =
    .ite (!feq .f64 x x) (.ite (!feq .f64 x x) (.leaf (.one (.bo (!feq .f64 x x)), [])) (.leaf (.one (.tt false), [])))
      (.ite (!feq .f64 x x) (.ite (!feq .f64 x x) (.leaf (.one (.bo (!feq .f64 x x)), [])) (.leaf (.one (.tt false), [])))
        (.ite (feq .f64 x 0) (.ite (feq .f64 x 0) (.leaf (.one (.bo (fgt .f64 (fdiv .f64 4607182418800017408 x) 0 == fgt .f64 (fdiv .f64 4607182418800017408 x) 0)), [])) (.leaf (.one (.bo (feq .f64 x x)), [])))
          (.leaf (.one (.bo (feq .f64 x x)), [])))) := by kernel_rfl

noncomputable def k_sameFloat : Ctr Try.prog := k_sameFloat0.to (runFF .f64 fun x y => .need (decide (x = y)) (.leaf (.one (.tt true)))) (weak_FF (C := k_sameFloat0) fun x y mem _ _ => ⟨fun Φ hΦ h => by
  have hxy : x = y := of_decide_eq_true h.1
  have h2 : Φ (.one (.tt true), []) := h.2
  subst hxy
  rw [sameFloat_ev]
  have key : ∀ b : Bool, b = true → Φ (.one (.bo b), []) := fun b hb => hΦ _ _ (le2_tb hb) h2
  refine T.h_ite (fun hc => T.h_ite (fun _ => T.h_leaf (key _ hc)) fun hd => ?_) fun hc => T.h_ite (fun hd => ?_) fun hd => T.h_ite (fun _ => T.h_ite (fun _ => T.h_leaf (key _ (by simp))) fun _ => T.h_leaf (key _ (by simpa using hc))) fun _ => T.h_leaf (key _ (by simpa using hc))
  · rw [hc] at hd; cases hd
  · rw [hc] at hd; cases hd⟩)

noncomputable def k_eqLook0 : Ctr Try.prog := mkC Try.prog mix [k_sameFloat] 71 Try.f71 (bodyOf Try.f71) Try.func71 (by kernel_rfl) (by kernel_rfl) []
def run_eqLook : List AV → Mem → T Res
  | [.agg [.fl .f32 x0, .fl .f32 x1, .fl .f32 x2, .fl .f32 x3, .fl .f32 x4], .agg [.fl .f32 y0, .fl .f32 y1, .fl .f32 y2, .fl .f32 y3, .fl .f32 y4]], _ => .need (decide (x0 = y0 ∧ x1 = y1 ∧ x2 = y2 ∧ x3 = y3 ∧ x4 = y4)) (.leaf (.one (.tt true), []))
  | _, _ => .fail
theorem eqLook_ev (x0 x1 x2 x3 x4 y0 y1 y2 y3 y4 : Nat) (mem : Mem) : k_eqLook0.run [.agg [.fl .f32 x0, .fl .f32 x1, .fl .f32 x2, .fl .f32 x3, .fl .f32 x4], .agg [.fl .f32 y0, .fl .f32 y1, .fl .f32 y2, .fl .f32 y3, .fl .f32 y4]] mem =
    .need (decide (fcvt .f32 .f64 x0 = fcvt .f32 .f64 y0)) (.need (decide (fcvt .f32 .f64 x1 = fcvt .f32 .f64 y1)) (.need (decide (fcvt .f32 .f64 x2 = fcvt .f32 .f64 y2)) (.need (decide (fcvt .f32 .f64 x3 = fcvt .f32 .f64 y3)) (.need (decide (fcvt .f32 .f64 x4 = fcvt .f32 .f64 y4)) (.leaf (.one (.tt true), [])))))) := by kernel_rfl
noncomputable def k_eqLook : Ctr Try.prog := k_eqLook0.to run_eqLook (by
  intro args mem _
  unfold run_eqLook
  split
  · rename_i x0 x1 x2 x3 x4 y0 y1 y2 y3 y4 _
    rw [eqLook_ev]
    constructor
    intro Φ hΦ h
    obtain ⟨h0, h1, h2, h3, h4⟩ := of_decide_eq_true h.1
    have hΦ2 : Φ (.one (.tt true), []) := h.2
    exact T.h_need (by simp [h0, h1, h2, h3, h4]) (T.h_need (by simp [h0, h1, h2, h3, h4]) (T.h_need (by simp [h0, h1, h2, h3, h4]) (T.h_need (by simp [h0, h1, h2, h3, h4]) (T.h_need (by simp [h0, h1, h2, h3, h4]) (T.h_leaf hΦ2)))))
  · exact Weak.fail _)

/-! ### eqLookS -/

noncomputable abbrev eqLookSRoot : Code := bodyOf Try.f33

structure EqLk where
  n : Nat
  cap : Nat
  m : Nat
  f0 : Nat → Nat
  f1 : Nat → Nat
  f2 : Nat → Nat
  f3 : Nat → Nat
  f4 : Nat → Nat
  n' : Nat
  cap' : Nat
  m' : Nat
  g0 : Nat → Nat
  g1 : Nat → Nat
  g2 : Nat → Nat
  g3 : Nat → Nat
  g4 : Nat → Nat
  i : Nat

def EqLk.st (x : EqLk) : St := ⟨mkSl 27 0 [(0, .one (.sl 0 5 0 x.n x.cap false)), (1, .one (.sl 1 5 0 x.n' x.cap' false)), (5, .one (.num .i64 x.i))], [some (.cols x.m [.fl .f32 x.f0, .fl .f32 x.f1, .fl .f32 x.f2, .fl .f32 x.f3, .fl .f32 x.f4]), some (.cols x.m' [.fl .f32 x.g0, .fl .f32 x.g1, .fl .f32 x.g2, .fl .f32 x.g3, .fl .f32 x.g4])]⟩

theorem eqLookS_round (x : EqLk) : roundB Try.prog [k_eqLook] eqLookSRoot 2 0 [0, 1, 5] x.st =
    .ite (decide ((x.i : Int) < x.n)) (.need (decide (0 ≤ (x.i : Int)) && decide ((x.i : Int) < x.n)) (.need (decide ((x.i : Int).toNat + 0 < x.m)) (.need (decide (0 ≤ (x.i : Int)) && decide ((x.i : Int) < x.n')) (.need (decide ((x.i : Int).toNat + 0 < x.m'))
      (.need (decide (x.f0 ((x.i : Int).toNat + 0) = x.g0 ((x.i : Int).toNat + 0) ∧ x.f1 ((x.i : Int).toNat + 0) = x.g1 ((x.i : Int).toNat + 0) ∧ x.f2 ((x.i : Int).toNat + 0) = x.g2 ((x.i : Int).toNat + 0) ∧ x.f3 ((x.i : Int).toNat + 0) = x.g3 ((x.i : Int).toNat + 0) ∧ x.f4 ((x.i : Int).toNat + 0) = x.g4 ((x.i : Int).toNat + 0))) (.leaf (.normal, ⟨mkSl 27 0 [(0, .one (.sl 0 5 0 x.n x.cap false)), (1, .one (.sl 1 5 0 x.n' x.cap' false)), (5, .one (.num .i64 (IntKind.i64.wrap ((x.i : Int) + 1))))], [some (.cols x.m [.fl .f32 x.f0, .fl .f32 x.f1, .fl .f32 x.f2, .fl .f32 x.f3, .fl .f32 x.f4]), some (.cols x.m' [.fl .f32 x.g0, .fl .f32 x.g1, .fl .f32 x.g2, .fl .f32 x.g3, .fl .f32 x.g4])]⟩))))))) (.leaf (.exit 0, x.st)) := by kernel_rfl

def EqLk.same (x : EqLk) : Prop := (∀ i, i < x.n → x.f0 i = x.g0 i) ∧ (∀ i, i < x.n → x.f1 i = x.g1 i) ∧ (∀ i, i < x.n → x.f2 i = x.g2 i) ∧ (∀ i, i < x.n → x.f3 i = x.g3 i) ∧ (∀ i, i < x.n → x.f4 i = x.g4 i)
def EqLk.ok (x : EqLk) : Prop := x.n ≤ x.m ∧ x.n = x.n' ∧ x.n ≤ x.m' ∧ x.n ≤ 1099511627776 ∧ x.i ≤ x.n ∧ x.same

theorem EqLk.done {x : EqLk} (h : x.i = x.n) : { x with i := x.n } = x := by
  cases x; simp_all

theorem eqLookS_loop (x : EqLk) (hx : x.ok) : Tri Try.prog 2 (.block 0 (.loop (bodyB eqLookSRoot 0))) x.st fun e s => e = .normal ∧ StLe s { x with i := x.n }.st := by
  refine loopB_tri mix (env := [k_eqLook]) (root := eqLookSRoot) (by kernel_rfl) [0, 1, 5] EqLk.st EqLk.ok (fun x => x.n - x.i) (fun x e s => e = .normal ∧ StLe s { x with i := x.n }.st) (fun x hx => ?_) x hx
  have h1 : x.n ≤ x.m := hx.1
  have h2 : x.n = x.n' := hx.2.1
  have h3 : x.n ≤ x.m' := hx.2.2.1
  have h4 : x.n ≤ 1099511627776 := hx.2.2.2.1
  have h5 : x.i ≤ x.n := hx.2.2.2.2.1
  have h6 : x.same := hx.2.2.2.2.2
  rw [eqLookS_round]
  refine T.h_ite (fun hc => ?_) (fun hc => ?_)
  · have hi : x.i < x.n := by simpa using hc
    refine T.h_need (by simp; omega) (T.h_need (by simp; omega) (T.h_need (by simp; omega) (T.h_need (by simp; omega) (T.h_need (decide_eq_true ?_) (T.h_leaf ?_)))))
    · simp only [Int.toNat_natCast, Nat.add_zero]
      exact ⟨h6.1 _ hi, h6.2.1 _ hi, h6.2.2.1 _ hi, h6.2.2.2.1 _ hi, h6.2.2.2.2 _ hi⟩
    refine .inl ⟨rfl, { x with i := x.i + 1 }, ⟨h1, h2, h3, h4, hi, h6⟩, by show x.n - (x.i + 1) < x.n - x.i; omega, StLe.of_eq ?_, fun e s h => h⟩
    have hw : IntKind.i64.wrap ((x.i : Int) + 1) = ((x.i + 1 : Nat) : Int) := by rw [IntWalk.i64_in _ (by omega)]; simp
    show (⟨_, _⟩ : St) = ⟨_, _⟩
    rw [hw]
  · have hi : x.i = x.n := by
      have : ¬ ((x.i : Int) < x.n) := by simpa using hc
      omega
    refine T.h_leaf (.inr ⟨by simp, fun s hs => ⟨rfl, ?_⟩⟩)
    rw [EqLk.done hi]
    exact hs

noncomputable def cdecEqLk (x : EqLk) : Bool := @decide x.ok (Classical.propDecidable _)
theorem cdecEqLk_ok {x : EqLk} (h : cdecEqLk x = true) : x.ok := @of_decide_eq_true _ (Classical.propDecidable _) h
theorem cdecEqLk_mk {x : EqLk} (h : x.ok) : cdecEqLk x = true := @decide_eq_true _ (Classical.propDecidable _) h

def decEqLk (st : St) : Option EqLk :=
  if st.sl.length = 27 then
    match st.sl.getD 0 .und, st.sl.getD 1 .und, st.sl.getD 5 .und, st.mem with
    | .one (.sl 0 5 0 n cap false), .one (.sl 1 5 0 n' cap' false), .one (.int .i64 0), [some (.cols m [.fl .f32 f0, .fl .f32 f1, .fl .f32 f2, .fl .f32 f3, .fl .f32 f4]), some (.cols m' [.fl .f32 g0, .fl .f32 g1, .fl .f32 g2, .fl .f32 g3, .fl .f32 g4])] => some { n := n, cap := cap, m := m, f0 := f0, f1 := f1, f2 := f2, f3 := f3, f4 := f4, n' := n', cap' := cap', m' := m', g0 := g0, g1 := g1, g2 := g2, g3 := g3, g4 := g4, i := 0 }
    | _, _, _, _ => none
  else none

theorem decEqLk_le (st : St) (x : EqLk) (h : decEqLk st = some x) : StLe st x.st := by
  unfold decEqLk at h
  split at h
  · rename_i hlen
    split at h
    · rename_i h1 h2 h3 h4
      cases h
      refine ⟨SlLe.mk hlen fun p hp => ?_, ?_⟩
      · simp only [List.mem_cons, List.not_mem_nil, or_false] at hp
        rcases hp with rfl | rfl | rfl
        · rw [h1]; exact AvLe.refl _
        · rw [h2]; exact AvLe.refl _
        · rw [h3]; exact fun _ _ hv => hv
      · rw [h4]; exact MemLe.refl _
    · cases h
  · cases h

noncomputable def eqLookS_sum : Sum Try.prog eqLookSRoot :=
  sumOf (pathB eqLookSRoot 0) 2 decEqLk EqLk.st cdecEqLk (fun x => (.normal, { x with i := x.n }.st)) decEqLk_le (by
    intro c hc x hx
    have : c = .block 0 (.loop (bodyB eqLookSRoot 0)) := by
      have h : subR eqLookSRoot (pathB eqLookSRoot 0) = some (.block 0 (.loop (bodyB eqLookSRoot 0))) := by kernel_rfl
      rw [h] at hc; cases hc; rfl
    subst this
    exact eqLookS_loop x (cdecEqLk_ok hx))

noncomputable def k_eqLookS0 : Ctr Try.prog := mkC0 Try.prog mix [k_eqLook] 33 Try.f33 eqLookSRoot Try.func33 (by kernel_rfl) (by kernel_rfl) [eqLookS_sum]

theorem eqLookS_ev (n cap m : Nat) (f0 : Nat → Nat) (f1 : Nat → Nat) (f2 : Nat → Nat) (f3 : Nat → Nat) (f4 : Nat → Nat) (n' cap' m' : Nat) (g0 : Nat → Nat) (g1 : Nat → Nat) (g2 : Nat → Nat) (g3 : Nat → Nat) (g4 : Nat → Nat) : k_eqLookS0.run [.one (.sl 0 5 0 n cap false), .one (.sl 1 5 0 n' cap' false)] [some (.cols m [.fl .f32 f0, .fl .f32 f1, .fl .f32 f2, .fl .f32 f3, .fl .f32 f4]), some (.cols m' [.fl .f32 g0, .fl .f32 g1, .fl .f32 g2, .fl .f32 g3, .fl .f32 g4])] =
    .ite (!decide ((n : Int) = n')) (.leaf (.one (.tt false), [])) (.need (cdecEqLk { n := n, cap := cap, m := m, f0 := f0, f1 := f1, f2 := f2, f3 := f3, f4 := f4, n' := n', cap' := cap', m' := m', g0 := g0, g1 := g1, g2 := g2, g3 := g3, g4 := g4, i := 0 }) (.leaf (.one (.tt true), []))) := by kernel_rfl

noncomputable def runEqLk : List AV → Mem → T Res
  | [.one (.sl 0 5 0 n cap false), .one (.sl 1 5 0 n' cap' false)], [some (.cols m [.fl .f32 f0, .fl .f32 f1, .fl .f32 f2, .fl .f32 f3, .fl .f32 f4]), some (.cols m' [.fl .f32 g0, .fl .f32 g1, .fl .f32 g2, .fl .f32 g3, .fl .f32 g4])] =>
    .need (cdecEqLk { n := n, cap := cap, m := m, f0 := f0, f1 := f1, f2 := f2, f3 := f3, f4 := f4, n' := n', cap' := cap', m' := m', g0 := g0, g1 := g1, g2 := g2, g3 := g3, g4 := g4, i := 0 }) (.leaf (.one (.tt true), []))
  | _, _ => .fail

noncomputable def k_eqLookS : Ctr Try.prog := (k_eqLookS0.to runEqLk (by
  intro args mem _
  unfold runEqLk
  split
  · rename_i n cap n' cap' m f0 f1 f2 f3 f4 m' g0 g1 g2 g3 g4 _
    rw [eqLookS_ev]
    constructor
    intro Φ hΦ h
    have hok := cdecEqLk_ok h.1
    have hnn : n = n' := hok.2.1
    exact T.h_ite (fun hc => by subst hnn; simp at hc) (fun _ => T.h_need h.1 (T.h_leaf h.2))
  · exact Weak.fail _)).own


end Go.Proofs.Ytilfbhlekfoloaa
