/-
  Rows of bodies, copied. No conditions.
-/
import Derived.Test.YtjaohecdhnhhbaaLp
import Derived.Test.YtjaohecdhnhhbaaMs
import Derived.Test.YtjaohecdhnhhbaaNum
namespace Go.Proofs.Ytjaohecdhnhhbaa
set_option linter.unusedVariables false
set_option linter.unusedSimpArgs false
open Go.RowKit

noncomputable def k_toVector : Ctr Try.prog := mkC Try.prog mix [] 57 Try.f57 (bodyOf Try.f57) Try.func57 (by kernel_rfl) (by kernel_rfl) []
noncomputable def k_toBody : Ctr Try.prog := mkC Try.prog mix [k_toVector] 35 Try.f35 (bodyOf Try.f35) Try.func35 (by kernel_rfl) (by kernel_rfl) []

/-! ### toBodyS -/

noncomputable abbrev toBodySRoot : Code := bodyOf Try.f11

structure CpBd where
  n : Nat
  cap : Nat
  m : Nat
  f0 : Nat → Nat
  f1 : Nat → Nat
  f2 : Nat → Nat
  f3 : Nat → Nat
  f4 : Nat → Nat
  f5 : Nat → Nat
  f6 : Nat → Nat
  n' : Nat
  cap' : Nat
  m' : Nat
  z0 : Nat → Nat
  z1 : Nat → Nat
  z2 : Nat → Nat
  z3 : Nat → Nat
  z4 : Nat → Nat
  z5 : Nat → Nat
  z6 : Nat → Nat
  i : Nat

def CpBd.sl (x : CpBd) : List AV := mkSl 23 0 [(0, .one (.sl 0 7 0 x.n x.cap false)), (3, .one (.sl 1 7 0 x.n' x.cap' false)), (4, .one (.num .i64 x.i))]
def CpBd.row0 (x : CpBd) (j : Nat) : Nat := if j < x.i then x.f0 j else x.z0 j
def CpBd.row1 (x : CpBd) (j : Nat) : Nat := if j < x.i then x.f1 j else x.z1 j
def CpBd.row2 (x : CpBd) (j : Nat) : Nat := if j < x.i then x.f2 j else x.z2 j
def CpBd.row3 (x : CpBd) (j : Nat) : Nat := if j < x.i then x.f3 j else x.z3 j
def CpBd.row4 (x : CpBd) (j : Nat) : Nat := if j < x.i then x.f4 j else x.z4 j
def CpBd.row5 (x : CpBd) (j : Nat) : Nat := if j < x.i then x.f5 j else x.z5 j
def CpBd.row6 (x : CpBd) (j : Nat) : Nat := if j < x.i then x.f6 j else x.z6 j
def CpBd.st (x : CpBd) : St := ⟨x.sl, [some (.cols x.m [.fl .f32 x.f0, .fl .f32 x.f1, .fl .f32 x.f2, .fl .f32 x.f3, .fl .f32 x.f4, .fl .f32 x.f5, .fl .f32 x.f6]), some (.cols x.m' [.fl .f32 x.row0, .fl .f32 x.row1, .fl .f32 x.row2, .fl .f32 x.row3, .fl .f32 x.row4, .fl .f32 x.row5, .fl .f32 x.row6])]⟩

theorem toBodyS_round (x : CpBd) : roundB Try.prog [k_toBody] toBodySRoot 1 0 [0, 3, 4] x.st =
    .ite (decide ((x.i : Int) < x.n)) (.need (decide (0 ≤ (x.i : Int)) && decide ((x.i : Int) < x.n)) (.need (decide ((x.i : Int).toNat + 0 < x.m)) (.need (decide (0 ≤ (x.i : Int)) && decide ((x.i : Int) < x.n')) (.need (decide ((x.i : Int).toNat + 0 < x.m'))
      (.leaf (.normal, ⟨mkSl 23 0 [(0, .one (.sl 0 7 0 x.n x.cap false)), (3, .one (.sl 1 7 0 x.n' x.cap' false)), (4, .one (.num .i64 (IntKind.i64.wrap ((x.i : Int) + 1))))],
        [some (.cols x.m [.fl .f32 x.f0, .fl .f32 x.f1, .fl .f32 x.f2, .fl .f32 x.f3, .fl .f32 x.f4, .fl .f32 x.f5, .fl .f32 x.f6]), some (.cols x.m' [.fl .f32 fun q => if q = (x.i : Int).toNat + 0 then x.f0 ((x.i : Int).toNat + 0) else x.row0 q, .fl .f32 fun q => if q = (x.i : Int).toNat + 0 then x.f1 ((x.i : Int).toNat + 0) else x.row1 q, .fl .f32 fun q => if q = (x.i : Int).toNat + 0 then x.f2 ((x.i : Int).toNat + 0) else x.row2 q, .fl .f32 fun q => if q = (x.i : Int).toNat + 0 then x.f3 ((x.i : Int).toNat + 0) else x.row3 q, .fl .f32 fun q => if q = (x.i : Int).toNat + 0 then x.f4 ((x.i : Int).toNat + 0) else x.row4 q, .fl .f32 fun q => if q = (x.i : Int).toNat + 0 then x.f5 ((x.i : Int).toNat + 0) else x.row5 q, .fl .f32 fun q => if q = (x.i : Int).toNat + 0 then x.f6 ((x.i : Int).toNat + 0) else x.row6 q])]⟩)))))) (.leaf (.exit 0, x.st)) := by kernel_rfl

def CpBd.ok (x : CpBd) : Prop := x.n ≤ x.m ∧ x.n ≤ x.n' ∧ x.n ≤ x.m' ∧ x.n ≤ 1099511627776 ∧ x.i ≤ x.n
instance (x : CpBd) : Decidable x.ok := by unfold CpBd.ok; infer_instance

theorem CpBd.done {x : CpBd} (h : x.i = x.n) : { x with i := x.n } = x := by
  cases x; simp_all

theorem CpBd.next0 (x : CpBd) : (fun q => if q = (x.i : Int).toNat + 0 then x.f0 ((x.i : Int).toNat + 0) else x.row0 q) = CpBd.row0 { x with i := x.i + 1 } := by
  funext q
  simp only [CpBd.row0, Int.toNat_natCast, Nat.add_zero]
  by_cases hq : q = x.i
  · subst hq; rw [if_pos rfl, if_pos (by omega)]
  · rw [if_neg hq]
    by_cases hq2 : q < x.i
    · rw [if_pos hq2, if_pos (by omega)]
    · rw [if_neg hq2, if_neg (by omega)]

theorem CpBd.next1 (x : CpBd) : (fun q => if q = (x.i : Int).toNat + 0 then x.f1 ((x.i : Int).toNat + 0) else x.row1 q) = CpBd.row1 { x with i := x.i + 1 } := by
  funext q
  simp only [CpBd.row1, Int.toNat_natCast, Nat.add_zero]
  by_cases hq : q = x.i
  · subst hq; rw [if_pos rfl, if_pos (by omega)]
  · rw [if_neg hq]
    by_cases hq2 : q < x.i
    · rw [if_pos hq2, if_pos (by omega)]
    · rw [if_neg hq2, if_neg (by omega)]

theorem CpBd.next2 (x : CpBd) : (fun q => if q = (x.i : Int).toNat + 0 then x.f2 ((x.i : Int).toNat + 0) else x.row2 q) = CpBd.row2 { x with i := x.i + 1 } := by
  funext q
  simp only [CpBd.row2, Int.toNat_natCast, Nat.add_zero]
  by_cases hq : q = x.i
  · subst hq; rw [if_pos rfl, if_pos (by omega)]
  · rw [if_neg hq]
    by_cases hq2 : q < x.i
    · rw [if_pos hq2, if_pos (by omega)]
    · rw [if_neg hq2, if_neg (by omega)]

theorem CpBd.next3 (x : CpBd) : (fun q => if q = (x.i : Int).toNat + 0 then x.f3 ((x.i : Int).toNat + 0) else x.row3 q) = CpBd.row3 { x with i := x.i + 1 } := by
  funext q
  simp only [CpBd.row3, Int.toNat_natCast, Nat.add_zero]
  by_cases hq : q = x.i
  · subst hq; rw [if_pos rfl, if_pos (by omega)]
  · rw [if_neg hq]
    by_cases hq2 : q < x.i
    · rw [if_pos hq2, if_pos (by omega)]
    · rw [if_neg hq2, if_neg (by omega)]

theorem CpBd.next4 (x : CpBd) : (fun q => if q = (x.i : Int).toNat + 0 then x.f4 ((x.i : Int).toNat + 0) else x.row4 q) = CpBd.row4 { x with i := x.i + 1 } := by
  funext q
  simp only [CpBd.row4, Int.toNat_natCast, Nat.add_zero]
  by_cases hq : q = x.i
  · subst hq; rw [if_pos rfl, if_pos (by omega)]
  · rw [if_neg hq]
    by_cases hq2 : q < x.i
    · rw [if_pos hq2, if_pos (by omega)]
    · rw [if_neg hq2, if_neg (by omega)]

theorem CpBd.next5 (x : CpBd) : (fun q => if q = (x.i : Int).toNat + 0 then x.f5 ((x.i : Int).toNat + 0) else x.row5 q) = CpBd.row5 { x with i := x.i + 1 } := by
  funext q
  simp only [CpBd.row5, Int.toNat_natCast, Nat.add_zero]
  by_cases hq : q = x.i
  · subst hq; rw [if_pos rfl, if_pos (by omega)]
  · rw [if_neg hq]
    by_cases hq2 : q < x.i
    · rw [if_pos hq2, if_pos (by omega)]
    · rw [if_neg hq2, if_neg (by omega)]

theorem CpBd.next6 (x : CpBd) : (fun q => if q = (x.i : Int).toNat + 0 then x.f6 ((x.i : Int).toNat + 0) else x.row6 q) = CpBd.row6 { x with i := x.i + 1 } := by
  funext q
  simp only [CpBd.row6, Int.toNat_natCast, Nat.add_zero]
  by_cases hq : q = x.i
  · subst hq; rw [if_pos rfl, if_pos (by omega)]
  · rw [if_neg hq]
    by_cases hq2 : q < x.i
    · rw [if_pos hq2, if_pos (by omega)]
    · rw [if_neg hq2, if_neg (by omega)]

theorem toBodyS_loop (x : CpBd) (hx : x.ok) : Tri Try.prog 1 (.block 0 (.loop (bodyB toBodySRoot 0))) x.st fun e s => e = .normal ∧ StLe s { x with i := x.n }.st := by
  refine loopB_tri mix (env := [k_toBody]) (root := toBodySRoot) (by kernel_rfl) [0, 3, 4] CpBd.st CpBd.ok (fun x => x.n - x.i) (fun x e s => e = .normal ∧ StLe s { x with i := x.n }.st) (fun x hx => ?_) x hx
  have h1 : x.n ≤ x.m := hx.1
  have h2 : x.n ≤ x.n' := hx.2.1
  have h3 : x.n ≤ x.m' := hx.2.2.1
  have h4 : x.n ≤ 1099511627776 := hx.2.2.2.1
  have h5 : x.i ≤ x.n := hx.2.2.2.2
  rw [toBodyS_round]
  refine T.h_ite (fun hc => ?_) (fun hc => ?_)
  · have hi : x.i < x.n := by simpa using hc
    refine T.h_need (by simp; omega) (T.h_need (by simp; omega) (T.h_need (by simp; omega) (T.h_need (by simp; omega) (T.h_leaf ?_))))
    refine .inl ⟨rfl, { x with i := x.i + 1 }, ⟨h1, h2, h3, h4, hi⟩, by show x.n - (x.i + 1) < x.n - x.i; omega, StLe.of_eq ?_, fun e s h => h⟩
    have hw : IntKind.i64.wrap ((x.i : Int) + 1) = ((x.i + 1 : Nat) : Int) := by rw [IntWalk.i64_in _ (by omega)]; simp
    show (⟨_, _⟩ : St) = ⟨_, _⟩
    rw [hw, CpBd.next0 x, CpBd.next1 x, CpBd.next2 x, CpBd.next3 x, CpBd.next4 x, CpBd.next5 x, CpBd.next6 x]; rfl
  · have hi : x.i = x.n := by
      have : ¬ ((x.i : Int) < x.n) := by simpa using hc
      omega
    refine T.h_leaf (.inr ⟨by simp, fun s hs => ⟨rfl, ?_⟩⟩)
    rw [CpBd.done hi]
    exact hs

def decCpBd (st : St) : Option CpBd :=
  if st.sl.length = 23 then
    match st.sl.getD 0 .und, st.sl.getD 3 .und, st.sl.getD 4 .und, st.mem with
    | .one (.sl 0 7 0 n cap false), .one (.sl 1 7 0 n' cap' false), .one (.int .i64 0), [some (.cols m [.fl .f32 f0, .fl .f32 f1, .fl .f32 f2, .fl .f32 f3, .fl .f32 f4, .fl .f32 f5, .fl .f32 f6]), some (.cols m' [.fl .f32 z0, .fl .f32 z1, .fl .f32 z2, .fl .f32 z3, .fl .f32 z4, .fl .f32 z5, .fl .f32 z6])] => some { n := n, cap := cap, m := m, f0 := f0, f1 := f1, f2 := f2, f3 := f3, f4 := f4, f5 := f5, f6 := f6, n' := n', cap' := cap', m' := m', z0 := z0, z1 := z1, z2 := z2, z3 := z3, z4 := z4, z5 := z5, z6 := z6, i := 0 }
    | _, _, _, _ => none
  else none

theorem decCpBd_le (st : St) (x : CpBd) (h : decCpBd st = some x) : StLe st x.st := by
  unfold decCpBd at h
  split at h
  · rename_i hlen
    split at h
    · rename_i h1 h2 h3 h4
      cases h
      refine ⟨SlLe.mk hlen fun p hp => ?_, ?_⟩
      · simp only [List.mem_cons, List.not_mem_nil, or_false] at hp
        rcases hp with rfl | rfl | rfl
        · rw [h1]; exact AvLe.refl _
        · rw [h2]; exact AvLe.refl _
        · rw [h3]; exact fun _ _ hv => hv
      · rw [h4]; exact MemLe.refl _
    · cases h
  · cases h

noncomputable def toBodyS_sum : Sum Try.prog toBodySRoot :=
  sumOf (pathB toBodySRoot 0) 1 decCpBd CpBd.st (fun x => decide x.ok) (fun x => (.normal, { x with i := x.n }.st)) decCpBd_le (by
    intro c hc x hx
    have : c = .block 0 (.loop (bodyB toBodySRoot 0)) := by
      have h : subR toBodySRoot (pathB toBodySRoot 0) = some (.block 0 (.loop (bodyB toBodySRoot 0))) := by kernel_rfl
      rw [h] at hc; cases hc; rfl
    subst this
    exact toBodyS_loop x (of_decide_eq_true hx))

noncomputable def k_toBodyS1 : Ctr Try.prog := mkC0 Try.prog mix [k_toBody] 11 Try.f11 toBodySRoot Try.func11 (by kernel_rfl) (by kernel_rfl) [toBodyS_sum]
noncomputable def k_toBodyS2 : Ctr Try.prog := mkC0 Try.prog mix [k_toBody] 11 Try.f11 toBodySRoot Try.func11 (by kernel_rfl) (by kernel_rfl) []
noncomputable def k_toBodyS0 : Ctr Try.prog := k_toBodyS1.pick k_toBodyS2 (by kernel_rfl) nilArg

theorem toBodyS_ev (n cap m : Nat) (f0 : Nat → Nat) (f1 : Nat → Nat) (f2 : Nat → Nat) (f3 : Nat → Nat) (f4 : Nat → Nat) (f5 : Nat → Nat) (f6 : Nat → Nat) : k_toBodyS0.run [.one (.sl 0 7 0 n cap false)] [some (.cols m [.fl .f32 f0, .fl .f32 f1, .fl .f32 f2, .fl .f32 f3, .fl .f32 f4, .fl .f32 f5, .fl .f32 f6])] =
    .need (decide (0 ≤ (n : Int) ∧ (n : Int) ≤ 2 ^ 30 ∧ (n : Int) = n)) (.need (decide (CpBd.ok { n := n, cap := cap, m := m, f0 := f0, f1 := f1, f2 := f2, f3 := f3, f4 := f4, f5 := f5, f6 := f6, n' := n, cap' := n, m' := n, z0 := fun _ => 0, z1 := fun _ => 0, z2 := fun _ => 0, z3 := fun _ => 0, z4 := fun _ => 0, z5 := fun _ => 0, z6 := fun _ => 0, i := 0 })) (.leaf (.one (.sl 1 7 0 n n false), [some (.cols n [.fl .f32 (CpBd.row0 { n := n, cap := cap, m := m, f0 := f0, f1 := f1, f2 := f2, f3 := f3, f4 := f4, f5 := f5, f6 := f6, n' := n, cap' := n, m' := n, z0 := fun _ => 0, z1 := fun _ => 0, z2 := fun _ => 0, z3 := fun _ => 0, z4 := fun _ => 0, z5 := fun _ => 0, z6 := fun _ => 0, i := n }), .fl .f32 (CpBd.row1 { n := n, cap := cap, m := m, f0 := f0, f1 := f1, f2 := f2, f3 := f3, f4 := f4, f5 := f5, f6 := f6, n' := n, cap' := n, m' := n, z0 := fun _ => 0, z1 := fun _ => 0, z2 := fun _ => 0, z3 := fun _ => 0, z4 := fun _ => 0, z5 := fun _ => 0, z6 := fun _ => 0, i := n }), .fl .f32 (CpBd.row2 { n := n, cap := cap, m := m, f0 := f0, f1 := f1, f2 := f2, f3 := f3, f4 := f4, f5 := f5, f6 := f6, n' := n, cap' := n, m' := n, z0 := fun _ => 0, z1 := fun _ => 0, z2 := fun _ => 0, z3 := fun _ => 0, z4 := fun _ => 0, z5 := fun _ => 0, z6 := fun _ => 0, i := n }), .fl .f32 (CpBd.row3 { n := n, cap := cap, m := m, f0 := f0, f1 := f1, f2 := f2, f3 := f3, f4 := f4, f5 := f5, f6 := f6, n' := n, cap' := n, m' := n, z0 := fun _ => 0, z1 := fun _ => 0, z2 := fun _ => 0, z3 := fun _ => 0, z4 := fun _ => 0, z5 := fun _ => 0, z6 := fun _ => 0, i := n }), .fl .f32 (CpBd.row4 { n := n, cap := cap, m := m, f0 := f0, f1 := f1, f2 := f2, f3 := f3, f4 := f4, f5 := f5, f6 := f6, n' := n, cap' := n, m' := n, z0 := fun _ => 0, z1 := fun _ => 0, z2 := fun _ => 0, z3 := fun _ => 0, z4 := fun _ => 0, z5 := fun _ => 0, z6 := fun _ => 0, i := n }), .fl .f32 (CpBd.row5 { n := n, cap := cap, m := m, f0 := f0, f1 := f1, f2 := f2, f3 := f3, f4 := f4, f5 := f5, f6 := f6, n' := n, cap' := n, m' := n, z0 := fun _ => 0, z1 := fun _ => 0, z2 := fun _ => 0, z3 := fun _ => 0, z4 := fun _ => 0, z5 := fun _ => 0, z6 := fun _ => 0, i := n }), .fl .f32 (CpBd.row6 { n := n, cap := cap, m := m, f0 := f0, f1 := f1, f2 := f2, f3 := f3, f4 := f4, f5 := f5, f6 := f6, n' := n, cap' := n, m' := n, z0 := fun _ => 0, z1 := fun _ => 0, z2 := fun _ => 0, z3 := fun _ => 0, z4 := fun _ => 0, z5 := fun _ => 0, z6 := fun _ => 0, i := n })])]))) := by kernel_rfl

theorem toBodyS_nil (a : Option Addr) : k_toBodyS0.run [.one (.val (.slice a 0 0))] [] = .need (decide (0 ≤ (0 : Int) ∧ (0 : Int) ≤ 2 ^ 30 ∧ (0 : Int) = 0)) (.leaf (.one (.sl 0 7 0 0 0 true), [some (.cols 0 [.fl .f32 fun _ => 0, .fl .f32 fun _ => 0, .fl .f32 fun _ => 0, .fl .f32 fun _ => 0, .fl .f32 fun _ => 0, .fl .f32 fun _ => 0, .fl .f32 fun _ => 0])])) := by kernel_rfl

def runCpBd : List AV → Mem → T Res
  | [.one (.sl 0 7 0 n cap false)], [some (.cols m [.fl .f32 f0, .fl .f32 f1, .fl .f32 f2, .fl .f32 f3, .fl .f32 f4, .fl .f32 f5, .fl .f32 f6])] => .need (decide (n ≤ 1048576)) (.need (decide (n ≤ m)) (.leaf (.one (.sl 1 7 0 n n false), [some (.cols n [.fl .f32 f0, .fl .f32 f1, .fl .f32 f2, .fl .f32 f3, .fl .f32 f4, .fl .f32 f5, .fl .f32 f6])])))
  | [.one (.val (.slice a 0 0))], [] => .leaf (.one (.sl 0 7 0 0 0 false), [some (.cols 0 [.fl .f32 fun _ => 0, .fl .f32 fun _ => 0, .fl .f32 fun _ => 0, .fl .f32 fun _ => 0, .fl .f32 fun _ => 0, .fl .f32 fun _ => 0, .fl .f32 fun _ => 0])])
  | _, _ => .fail

noncomputable def k_toBodyS : Ctr Try.prog := (k_toBodyS0.to runCpBd (by
  intro args mem _
  unfold runCpBd
  split
  · rename_i n cap m f0 f1 f2 f3 f4 f5 f6 _
    rw [toBodyS_ev]
    constructor
    intro Φ hΦ h
    have hn : n ≤ 1048576 := of_decide_eq_true h.1
    have hm : n ≤ m := of_decide_eq_true h.2.1
    refine T.h_need (by simp; omega) (T.h_need (decide_eq_true ⟨hm, Nat.le_refl n, Nat.le_refl n, by show n ≤ 1099511627776; omega, Nat.zero_le n⟩) (T.h_leaf (hΦ _ (.one (.sl 1 7 0 n n false), [some (.cols n [.fl .f32 f0, .fl .f32 f1, .fl .f32 f2, .fl .f32 f3, .fl .f32 f4, .fl .f32 f5, .fl .f32 f6])]) (le2_row (fun _ _ hv => hv) (BlLe.cols_eq (fun i hi => by simp only [colsAt, Col.at, CpBd.row0, CpBd.row1, CpBd.row2, CpBd.row3, CpBd.row4, CpBd.row5, CpBd.row6, if_pos hi]) rfl)) h.2.2)))
  · rename_i a _
    rw [toBodyS_nil]
    constructor
    intro Φ hΦ h
    exact T.h_need (by decide) (T.h_leaf (hΦ _ (.one (.sl 0 7 0 0 0 false), [some (.cols 0 [.fl .f32 fun _ => 0, .fl .f32 fun _ => 0, .fl .f32 fun _ => 0, .fl .f32 fun _ => 0, .fl .f32 fun _ => 0, .fl .f32 fun _ => 0, .fl .f32 fun _ => 0])]) (le2_row (fun _ _ hv => hv) (BlLe.refl _)) h))
  · exact Weak.fail _)).own

/-! ### sameFloat, where the two are the same -/
noncomputable def k_sameFloat0 : Ctr Try.prog := mkC Try.prog mix [] 53 Try.f53 (bodyOf Try.f53) Try.func53 (by kernel_rfl) (by kernel_rfl) []

theorem sameFloat_ev (x : Nat) (mem : Mem) : k_sameFloat0.run [.one (.fl .f64 x), .one (.fl .f64 x)] mem =
    .ite (!feq .f64 x x) (.ite (!feq .f64 x x) (.leaf (.one (.bo (!feq .f64 x x)), [])) (.leaf (.one (.tt false), [])))
      (.ite (!feq .f64 x x) (.ite (!feq .f64 x x) (.leaf (.one (.bo (!feq .f64 x x)), [])) (.leaf (.one (.tt false), [])))
        (.ite (feq .f64 x 0) (.ite (feq .f64 x 0) (.leaf (.one (.bo (fgt .f64 (fdiv .f64 4607182418800017408 x) 0 == fgt .f64 (fdiv .f64 4607182418800017408 x) 0)), [])) (.leaf (.one (.bo (feq .f64 x x)), [])))
          (.leaf (.one (.bo (feq .f64 x x)), [])))) := by kernel_rfl

noncomputable def k_sameFloat : Ctr Try.prog := k_sameFloat0.to (runFF .f64 fun x y => .need (decide (x = y)) (.leaf (.one (.tt true)))) (weak_FF (C := k_sameFloat0) fun x y mem _ _ => ⟨fun Φ hΦ h => by
  have hxy : x = y := of_decide_eq_true h.1
  have h2 : Φ (.one (.tt true), []) := h.2
  subst hxy
  rw [sameFloat_ev]
  have key : ∀ b : Bool, b = true → Φ (.one (.bo b), []) := fun b hb => hΦ _ _ (le2_tb hb) h2
  refine T.h_ite (fun hc => T.h_ite (fun _ => T.h_leaf (key _ hc)) fun hd => ?_) fun hc => T.h_ite (fun hd => ?_) fun hd => T.h_ite (fun _ => T.h_ite (fun _ => T.h_leaf (key _ (by simp))) fun _ => T.h_leaf (key _ (by simpa using hc))) fun _ => T.h_leaf (key _ (by simpa using hc))
  · rw [hc] at hd; cases hd
  · rw [hc] at hd; cases hd⟩)

noncomputable def k_eqVector0 : Ctr Try.prog := mkC Try.prog mix [k_sameFloat] 66 Try.f66 (bodyOf Try.f66) Try.func66 (by kernel_rfl) (by kernel_rfl) []
def run_eqVector : List AV → Mem → T Res
  | [.agg [.fl .f32 x0, .fl .f32 x1, .fl .f32 x2], .agg [.fl .f32 y0, .fl .f32 y1, .fl .f32 y2]], _ => .need (decide (x0 = y0 ∧ x1 = y1 ∧ x2 = y2)) (.leaf (.one (.tt true), []))
  | _, _ => .fail
theorem eqVector_ev (x0 x1 x2 y0 y1 y2 : Nat) (mem : Mem) : k_eqVector0.run [.agg [.fl .f32 x0, .fl .f32 x1, .fl .f32 x2], .agg [.fl .f32 y0, .fl .f32 y1, .fl .f32 y2]] mem =
    .need (decide (fcvt .f32 .f64 x0 = fcvt .f32 .f64 y0)) (.need (decide (fcvt .f32 .f64 x1 = fcvt .f32 .f64 y1)) (.need (decide (fcvt .f32 .f64 x2 = fcvt .f32 .f64 y2)) (.leaf (.one (.tt true), [])))) := by kernel_rfl
noncomputable def k_eqVector : Ctr Try.prog := k_eqVector0.to run_eqVector (by
  intro args mem _
  unfold run_eqVector
  split
  · rename_i x0 x1 x2 y0 y1 y2 _
    rw [eqVector_ev]
    constructor
    intro Φ hΦ h
    obtain ⟨h0, h1, h2⟩ := of_decide_eq_true h.1
    have hΦ2 : Φ (.one (.tt true), []) := h.2
    exact T.h_need (by simp [h0, h1, h2]) (T.h_need (by simp [h0, h1, h2]) (T.h_need (by simp [h0, h1, h2]) (T.h_leaf hΦ2)))
  · exact Weak.fail _)

noncomputable def k_eqBody0 : Ctr Try.prog := mkC Try.prog mix [k_eqVector, k_sameFloat] 39 Try.f39 (bodyOf Try.f39) Try.func39 (by kernel_rfl) (by kernel_rfl) []
def run_eqBody : List AV → Mem → T Res
  | [.agg [.fl .f32 x0, .fl .f32 x1, .fl .f32 x2, .fl .f32 x3, .fl .f32 x4, .fl .f32 x5, .fl .f32 x6], .agg [.fl .f32 y0, .fl .f32 y1, .fl .f32 y2, .fl .f32 y3, .fl .f32 y4, .fl .f32 y5, .fl .f32 y6]], _ => .need (decide (x0 = y0 ∧ x1 = y1 ∧ x2 = y2 ∧ x3 = y3 ∧ x4 = y4 ∧ x5 = y5 ∧ x6 = y6)) (.leaf (.one (.tt true), []))
  | _, _ => .fail
theorem eqBody_ev (x0 x1 x2 x3 x4 x5 x6 y0 y1 y2 y3 y4 y5 y6 : Nat) (mem : Mem) : k_eqBody0.run [.agg [.fl .f32 x0, .fl .f32 x1, .fl .f32 x2, .fl .f32 x3, .fl .f32 x4, .fl .f32 x5, .fl .f32 x6], .agg [.fl .f32 y0, .fl .f32 y1, .fl .f32 y2, .fl .f32 y3, .fl .f32 y4, .fl .f32 y5, .fl .f32 y6]] mem =
    .need (decide (x0 = y0 ∧ x1 = y1 ∧ x2 = y2)) (.need (decide (x3 = y3 ∧ x4 = y4 ∧ x5 = y5)) (.need (decide (fcvt .f32 .f64 x6 = fcvt .f32 .f64 y6)) (.leaf (.one (.tt true), [])))) := by kernel_rfl
noncomputable def k_eqBody : Ctr Try.prog := k_eqBody0.to run_eqBody (by
  intro args mem _
  unfold run_eqBody
  split
  · rename_i x0 x1 x2 x3 x4 x5 x6 y0 y1 y2 y3 y4 y5 y6 _
    rw [eqBody_ev]
    constructor
    intro Φ hΦ h
    obtain ⟨h0, h1, h2, h3, h4, h5, h6⟩ := of_decide_eq_true h.1
    have hΦ2 : Φ (.one (.tt true), []) := h.2
    exact T.h_need (by simp [h0, h1, h2, h3, h4, h5, h6]) (T.h_need (by simp [h0, h1, h2, h3, h4, h5, h6]) (T.h_need (by simp [h0, h1, h2, h3, h4, h5, h6]) (T.h_leaf hΦ2)))
  · exact Weak.fail _)

/-! ### eqBodyS -/

noncomputable abbrev eqBodySRoot : Code := bodyOf Try.f13

structure EqBd where
  n : Nat
  cap : Nat
  m : Nat
  f0 : Nat → Nat
  f1 : Nat → Nat
  f2 : Nat → Nat
  f3 : Nat → Nat
  f4 : Nat → Nat
  f5 : Nat → Nat
  f6 : Nat → Nat
  n' : Nat
  cap' : Nat
  m' : Nat
  g0 : Nat → Nat
  g1 : Nat → Nat
  g2 : Nat → Nat
  g3 : Nat → Nat
  g4 : Nat → Nat
  g5 : Nat → Nat
  g6 : Nat → Nat
  i : Nat

def EqBd.st (x : EqBd) : St := ⟨mkSl 27 0 [(0, .one (.sl 0 7 0 x.n x.cap false)), (1, .one (.sl 1 7 0 x.n' x.cap' false)), (5, .one (.num .i64 x.i))], [some (.cols x.m [.fl .f32 x.f0, .fl .f32 x.f1, .fl .f32 x.f2, .fl .f32 x.f3, .fl .f32 x.f4, .fl .f32 x.f5, .fl .f32 x.f6]), some (.cols x.m' [.fl .f32 x.g0, .fl .f32 x.g1, .fl .f32 x.g2, .fl .f32 x.g3, .fl .f32 x.g4, .fl .f32 x.g5, .fl .f32 x.g6])]⟩

theorem eqBodyS_round (x : EqBd) : roundB Try.prog [k_eqBody] eqBodySRoot 2 0 [0, 1, 5] x.st =
    .ite (decide ((x.i : Int) < x.n)) (.need (decide (0 ≤ (x.i : Int)) && decide ((x.i : Int) < x.n)) (.need (decide ((x.i : Int).toNat + 0 < x.m)) (.need (decide (0 ≤ (x.i : Int)) && decide ((x.i : Int) < x.n')) (.need (decide ((x.i : Int).toNat + 0 < x.m'))
      (.need (decide (x.f0 ((x.i : Int).toNat + 0) = x.g0 ((x.i : Int).toNat + 0) ∧ x.f1 ((x.i : Int).toNat + 0) = x.g1 ((x.i : Int).toNat + 0) ∧ x.f2 ((x.i : Int).toNat + 0) = x.g2 ((x.i : Int).toNat + 0) ∧ x.f3 ((x.i : Int).toNat + 0) = x.g3 ((x.i : Int).toNat + 0) ∧ x.f4 ((x.i : Int).toNat + 0) = x.g4 ((x.i : Int).toNat + 0) ∧ x.f5 ((x.i : Int).toNat + 0) = x.g5 ((x.i : Int).toNat + 0) ∧ x.f6 ((x.i : Int).toNat + 0) = x.g6 ((x.i : Int).toNat + 0))) (.leaf (.normal, ⟨mkSl 27 0 [(0, .one (.sl 0 7 0 x.n x.cap false)), (1, .one (.sl 1 7 0 x.n' x.cap' false)), (5, .one (.num .i64 (IntKind.i64.wrap ((x.i : Int) + 1))))], [some (.cols x.m [.fl .f32 x.f0, .fl .f32 x.f1, .fl .f32 x.f2, .fl .f32 x.f3, .fl .f32 x.f4, .fl .f32 x.f5, .fl .f32 x.f6]), some (.cols x.m' [.fl .f32 x.g0, .fl .f32 x.g1, .fl .f32 x.g2, .fl .f32 x.g3, .fl .f32 x.g4, .fl .f32 x.g5, .fl .f32 x.g6])]⟩))))))) (.leaf (.exit 0, x.st)) := by kernel_rfl

def EqBd.same (x : EqBd) : Prop := (∀ i, i < x.n → x.f0 i = x.g0 i) ∧ (∀ i, i < x.n → x.f1 i = x.g1 i) ∧ (∀ i, i < x.n → x.f2 i = x.g2 i) ∧ (∀ i, i < x.n → x.f3 i = x.g3 i) ∧ (∀ i, i < x.n → x.f4 i = x.g4 i) ∧ (∀ i, i < x.n → x.f5 i = x.g5 i) ∧ (∀ i, i < x.n → x.f6 i = x.g6 i)
def EqBd.ok (x : EqBd) : Prop := x.n ≤ x.m ∧ x.n = x.n' ∧ x.n ≤ x.m' ∧ x.n ≤ 1099511627776 ∧ x.i ≤ x.n ∧ x.same

theorem EqBd.done {x : EqBd} (h : x.i = x.n) : { x with i := x.n } = x := by
  cases x; simp_all

theorem eqBodyS_loop (x : EqBd) (hx : x.ok) : Tri Try.prog 2 (.block 0 (.loop (bodyB eqBodySRoot 0))) x.st fun e s => e = .normal ∧ StLe s { x with i := x.n }.st := by
  refine loopB_tri mix (env := [k_eqBody]) (root := eqBodySRoot) (by kernel_rfl) [0, 1, 5] EqBd.st EqBd.ok (fun x => x.n - x.i) (fun x e s => e = .normal ∧ StLe s { x with i := x.n }.st) (fun x hx => ?_) x hx
  have h1 : x.n ≤ x.m := hx.1
  have h2 : x.n = x.n' := hx.2.1
  have h3 : x.n ≤ x.m' := hx.2.2.1
  have h4 : x.n ≤ 1099511627776 := hx.2.2.2.1
  have h5 : x.i ≤ x.n := hx.2.2.2.2.1
  have h6 : x.same := hx.2.2.2.2.2
  rw [eqBodyS_round]
  refine T.h_ite (fun hc => ?_) (fun hc => ?_)
  · have hi : x.i < x.n := by simpa using hc
    refine T.h_need (by simp; omega) (T.h_need (by simp; omega) (T.h_need (by simp; omega) (T.h_need (by simp; omega) (T.h_need (decide_eq_true ?_) (T.h_leaf ?_)))))
    · simp only [Int.toNat_natCast, Nat.add_zero]
      exact ⟨h6.1 _ hi, h6.2.1 _ hi, h6.2.2.1 _ hi, h6.2.2.2.1 _ hi, h6.2.2.2.2.1 _ hi, h6.2.2.2.2.2.1 _ hi, h6.2.2.2.2.2.2 _ hi⟩
    refine .inl ⟨rfl, { x with i := x.i + 1 }, ⟨h1, h2, h3, h4, hi, h6⟩, by show x.n - (x.i + 1) < x.n - x.i; omega, StLe.of_eq ?_, fun e s h => h⟩
    have hw : IntKind.i64.wrap ((x.i : Int) + 1) = ((x.i + 1 : Nat) : Int) := by rw [IntWalk.i64_in _ (by omega)]; simp
    show (⟨_, _⟩ : St) = ⟨_, _⟩
    rw [hw]
  · have hi : x.i = x.n := by
      have : ¬ ((x.i : Int) < x.n) := by simpa using hc
      omega
    refine T.h_leaf (.inr ⟨by simp, fun s hs => ⟨rfl, ?_⟩⟩)
    rw [EqBd.done hi]
    exact hs

noncomputable def cdecEqBd (x : EqBd) : Bool := @decide x.ok (Classical.propDecidable _)
theorem cdecEqBd_ok {x : EqBd} (h : cdecEqBd x = true) : x.ok := @of_decide_eq_true _ (Classical.propDecidable _) h
theorem cdecEqBd_mk {x : EqBd} (h : x.ok) : cdecEqBd x = true := @decide_eq_true _ (Classical.propDecidable _) h

def decEqBd (st : St) : Option EqBd :=
  if st.sl.length = 27 then
    match st.sl.getD 0 .und, st.sl.getD 1 .und, st.sl.getD 5 .und, st.mem with
    | .one (.sl 0 7 0 n cap false), .one (.sl 1 7 0 n' cap' false), .one (.int .i64 0), [some (.cols m [.fl .f32 f0, .fl .f32 f1, .fl .f32 f2, .fl .f32 f3, .fl .f32 f4, .fl .f32 f5, .fl .f32 f6]), some (.cols m' [.fl .f32 g0, .fl .f32 g1, .fl .f32 g2, .fl .f32 g3, .fl .f32 g4, .fl .f32 g5, .fl .f32 g6])] => some { n := n, cap := cap, m := m, f0 := f0, f1 := f1, f2 := f2, f3 := f3, f4 := f4, f5 := f5, f6 := f6, n' := n', cap' := cap', m' := m', g0 := g0, g1 := g1, g2 := g2, g3 := g3, g4 := g4, g5 := g5, g6 := g6, i := 0 }
    | _, _, _, _ => none
  else none

theorem decEqBd_le (st : St) (x : EqBd) (h : decEqBd st = some x) : StLe st x.st := by
  unfold decEqBd at h
  split at h
  · rename_i hlen
    split at h
    · rename_i h1 h2 h3 h4
      cases h
      refine ⟨SlLe.mk hlen fun p hp => ?_, ?_⟩
      · simp only [List.mem_cons, List.not_mem_nil, or_false] at hp
        rcases hp with rfl | rfl | rfl
        · rw [h1]; exact AvLe.refl _
        · rw [h2]; exact AvLe.refl _
        · rw [h3]; exact fun _ _ hv => hv
      · rw [h4]; exact MemLe.refl _
    · cases h
  · cases h

noncomputable def eqBodyS_sum : Sum Try.prog eqBodySRoot :=
  sumOf (pathB eqBodySRoot 0) 2 decEqBd EqBd.st cdecEqBd (fun x => (.normal, { x with i := x.n }.st)) decEqBd_le (by
    intro c hc x hx
    have : c = .block 0 (.loop (bodyB eqBodySRoot 0)) := by
      have h : subR eqBodySRoot (pathB eqBodySRoot 0) = some (.block 0 (.loop (bodyB eqBodySRoot 0))) := by kernel_rfl
      rw [h] at hc; cases hc; rfl
    subst this
    exact eqBodyS_loop x (cdecEqBd_ok hx))

noncomputable def k_eqBodyS0 : Ctr Try.prog := mkC0 Try.prog mix [k_eqBody] 13 Try.f13 eqBodySRoot Try.func13 (by kernel_rfl) (by kernel_rfl) [eqBodyS_sum]

theorem eqBodyS_ev (n cap m : Nat) (f0 : Nat → Nat) (f1 : Nat → Nat) (f2 : Nat → Nat) (f3 : Nat → Nat) (f4 : Nat → Nat) (f5 : Nat → Nat) (f6 : Nat → Nat) (n' cap' m' : Nat) (g0 : Nat → Nat) (g1 : Nat → Nat) (g2 : Nat → Nat) (g3 : Nat → Nat) (g4 : Nat → Nat) (g5 : Nat → Nat) (g6 : Nat → Nat) : k_eqBodyS0.run [.one (.sl 0 7 0 n cap false), .one (.sl 1 7 0 n' cap' false)] [some (.cols m [.fl .f32 f0, .fl .f32 f1, .fl .f32 f2, .fl .f32 f3, .fl .f32 f4, .fl .f32 f5, .fl .f32 f6]), some (.cols m' [.fl .f32 g0, .fl .f32 g1, .fl .f32 g2, .fl .f32 g3, .fl .f32 g4, .fl .f32 g5, .fl .f32 g6])] =
    .ite (!decide ((n : Int) = n')) (.leaf (.one (.tt false), [])) (.need (cdecEqBd { n := n, cap := cap, m := m, f0 := f0, f1 := f1, f2 := f2, f3 := f3, f4 := f4, f5 := f5, f6 := f6, n' := n', cap' := cap', m' := m', g0 := g0, g1 := g1, g2 := g2, g3 := g3, g4 := g4, g5 := g5, g6 := g6, i := 0 }) (.leaf (.one (.tt true), []))) := by kernel_rfl

noncomputable def runEqBd : List AV → Mem → T Res
  | [.one (.sl 0 7 0 n cap false), .one (.sl 1 7 0 n' cap' false)], [some (.cols m [.fl .f32 f0, .fl .f32 f1, .fl .f32 f2, .fl .f32 f3, .fl .f32 f4, .fl .f32 f5, .fl .f32 f6]), some (.cols m' [.fl .f32 g0, .fl .f32 g1, .fl .f32 g2, .fl .f32 g3, .fl .f32 g4, .fl .f32 g5, .fl .f32 g6])] =>
    .need (cdecEqBd { n := n, cap := cap, m := m, f0 := f0, f1 := f1, f2 := f2, f3 := f3, f4 := f4, f5 := f5, f6 := f6, n' := n', cap' := cap', m' := m', g0 := g0, g1 := g1, g2 := g2, g3 := g3, g4 := g4, g5 := g5, g6 := g6, i := 0 }) (.leaf (.one (.tt true), []))
  | _, _ => .fail

noncomputable def k_eqBodyS : Ctr Try.prog := (k_eqBodyS0.to runEqBd (by
  intro args mem _
  unfold runEqBd
  split
  · rename_i n cap n' cap' m f0 f1 f2 f3 f4 f5 f6 m' g0 g1 g2 g3 g4 g5 g6 _
    rw [eqBodyS_ev]
    constructor
    intro Φ hΦ h
    have hok := cdecEqBd_ok h.1
    have hnn : n = n' := hok.2.1
    exact T.h_ite (fun hc => by subst hnn; simp at hc) (fun _ => T.h_need h.1 (T.h_leaf h.2))
  · exact Weak.fail _)).own


end Go.Proofs.Ytjaohecdhnhhbaa
