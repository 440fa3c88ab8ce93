/-
  Rows of bools, copied. No conditions.
-/
import Derived.Test.YtdlamanfolijlaaLp
import Derived.Test.YtdlamanfolijlaaMs
import Derived.Test.YtdlamanfolijlaaNum
namespace Go.Proofs.Ytdlamanfolijlaa
set_option linter.unusedVariables false
set_option linter.unusedSimpArgs false
open Go.RowKit

/-! ### toBoolS -/

noncomputable abbrev toBoolSRoot : Code := bodyOf Try.f16

structure CpBo where
  n : Nat
  cap : Nat
  m : Nat
  f0 : Nat → Bool
  n' : Nat
  cap' : Nat
  m' : Nat
  z0 : Nat → Bool
  i : Nat

def CpBo.sl (x : CpBo) : List AV := mkSl 22 0 [(0, .one (.sl 0 1 0 x.n x.cap false)), (3, .one (.sl 1 1 0 x.n' x.cap' false)), (4, .one (.num .i64 x.i))]
def CpBo.row0 (x : CpBo) (j : Nat) : Bool := if j < x.i then x.f0 j else x.z0 j
def CpBo.st (x : CpBo) : St := ⟨x.sl, [some (.cols x.m [.bo x.f0]), some (.cols x.m' [.bo x.row0])]⟩

theorem toBoolS_round (x : CpBo) : roundB Try.prog [] toBoolSRoot 1 0 [0, 3, 4] x.st =
    .ite (decide ((x.i : Int) < x.n)) (.need (decide (0 ≤ (x.i : Int)) && decide ((x.i : Int) < x.n)) (.need (decide ((x.i : Int).toNat + 0 < x.m)) (.need (decide (0 ≤ (x.i : Int)) && decide ((x.i : Int) < x.n')) (.need (decide ((x.i : Int).toNat + 0 < x.m'))
      (.leaf (.normal, ⟨mkSl 22 0 [(0, .one (.sl 0 1 0 x.n x.cap false)), (3, .one (.sl 1 1 0 x.n' x.cap' false)), (4, .one (.num .i64 (IntKind.i64.wrap ((x.i : Int) + 1))))],
        [some (.cols x.m [.bo x.f0]), some (.cols x.m' [.bo fun q => if q = (x.i : Int).toNat + 0 then x.f0 ((x.i : Int).toNat + 0) else x.row0 q])]⟩)))))) (.leaf (.exit 0, x.st)) := by kernel_rfl

def CpBo.ok (x : CpBo) : Prop := x.n ≤ x.m ∧ x.n ≤ x.n' ∧ x.n ≤ x.m' ∧ x.n ≤ 1099511627776 ∧ x.i ≤ x.n
instance (x : CpBo) : Decidable x.ok := by unfold CpBo.ok; infer_instance

theorem CpBo.done {x : CpBo} (h : x.i = x.n) : { x with i := x.n } = x := by
  cases x; simp_all

theorem CpBo.next0 (x : CpBo) : (fun q => if q = (x.i : Int).toNat + 0 then x.f0 ((x.i : Int).toNat + 0) else x.row0 q) = CpBo.row0 { x with i := x.i + 1 } := by
  funext q
  simp only [CpBo.row0, Int.toNat_natCast, Nat.add_zero]
  by_cases hq : q = x.i
  · subst hq; rw [if_pos rfl, if_pos (by omega)]
  · rw [if_neg hq]
    by_cases hq2 : q < x.i
    · rw [if_pos hq2, if_pos (by omega)]
    · rw [if_neg hq2, if_neg (by omega)]

theorem toBoolS_loop (x : CpBo) (hx : x.ok) : Tri Try.prog 1 (.block 0 (.loop (bodyB toBoolSRoot 0))) x.st fun e s => e = .normal ∧ StLe s { x with i := x.n }.st := by
  refine loopB_tri mix (env := []) (root := toBoolSRoot) (by kernel_rfl) [0, 3, 4] CpBo.st CpBo.ok (fun x => x.n - x.i) (fun x e s => e = .normal ∧ StLe s { x with i := x.n }.st) (fun x hx => ?_) x hx
  have h1 : x.n ≤ x.m := hx.1
  have h2 : x.n ≤ x.n' := hx.2.1
  have h3 : x.n ≤ x.m' := hx.2.2.1
  have h4 : x.n ≤ 1099511627776 := hx.2.2.2.1
  have h5 : x.i ≤ x.n := hx.2.2.2.2
  rw [toBoolS_round]
  refine T.h_ite (fun hc => ?_) (fun hc => ?_)
  · have hi : x.i < x.n := by simpa using hc
    refine T.h_need (by simp; omega) (T.h_need (by simp; omega) (T.h_need (by simp; omega) (T.h_need (by simp; omega) (T.h_leaf ?_))))
    refine .inl ⟨rfl, { x with i := x.i + 1 }, ⟨h1, h2, h3, h4, hi⟩, by show x.n - (x.i + 1) < x.n - x.i; omega, StLe.of_eq ?_, fun e s h => h⟩
    have hw : IntKind.i64.wrap ((x.i : Int) + 1) = ((x.i + 1 : Nat) : Int) := by rw [IntWalk.i64_in _ (by omega)]; simp
    show (⟨_, _⟩ : St) = ⟨_, _⟩
    rw [hw, CpBo.next0 x]; rfl
  · have hi : x.i = x.n := by
      have : ¬ ((x.i : Int) < x.n) := by simpa using hc
      omega
    refine T.h_leaf (.inr ⟨by simp, fun s hs => ⟨rfl, ?_⟩⟩)
    rw [CpBo.done hi]
    exact hs

def decCpBo (st : St) : Option CpBo :=
  if st.sl.length = 22 then
    match st.sl.getD 0 .und, st.sl.getD 3 .und, st.sl.getD 4 .und, st.mem with
    | .one (.sl 0 1 0 n cap false), .one (.sl 1 1 0 n' cap' false), .one (.int .i64 0), [some (.cols m [.bo f0]), some (.cols m' [.bo z0])] => some { n := n, cap := cap, m := m, f0 := f0, n' := n', cap' := cap', m' := m', z0 := z0, i := 0 }
    | _, _, _, _ => none
  else none

theorem decCpBo_le (st : St) (x : CpBo) (h : decCpBo st = some x) : StLe st x.st := by
  unfold decCpBo at h
  split at h
  · rename_i hlen
    split at h
    · rename_i h1 h2 h3 h4
      cases h
      refine ⟨SlLe.mk hlen fun p hp => ?_, ?_⟩
      · simp only [List.mem_cons, List.not_mem_nil, or_false] at hp
        rcases hp with rfl | rfl | rfl
        · rw [h1]; exact AvLe.refl _
        · rw [h2]; exact AvLe.refl _
        · rw [h3]; exact fun _ _ hv => hv
      · rw [h4]; exact MemLe.refl _
    · cases h
  · cases h

noncomputable def toBoolS_sum : Sum Try.prog toBoolSRoot :=
  sumOf (pathB toBoolSRoot 0) 1 decCpBo CpBo.st (fun x => decide x.ok) (fun x => (.normal, { x with i := x.n }.st)) decCpBo_le (by
    intro c hc x hx
    have : c = .block 0 (.loop (bodyB toBoolSRoot 0)) := by
      have h : subR toBoolSRoot (pathB toBoolSRoot 0) = some (.block 0 (.loop (bodyB toBoolSRoot 0))) := by kernel_rfl
      rw [h] at hc; cases hc; rfl
    subst this
    exact toBoolS_loop x (of_decide_eq_true hx))

noncomputable def k_toBoolS1 : Ctr Try.prog := mkC0 Try.prog mix [] 16 Try.f16 toBoolSRoot Try.func16 (by kernel_rfl) (by kernel_rfl) [toBoolS_sum]
noncomputable def k_toBoolS2 : Ctr Try.prog := mkC0 Try.prog mix [] 16 Try.f16 toBoolSRoot Try.func16 (by kernel_rfl) (by kernel_rfl) []
noncomputable def k_toBoolS0 : Ctr Try.prog := k_toBoolS1.pick k_toBoolS2 (by kernel_rfl) nilArg

theorem toBoolS_ev (n cap m : Nat) (f0 : Nat → Bool) : k_toBoolS0.run [.one (.sl 0 1 0 n cap false)] [some (.cols m [.bo f0])] =
    .need (decide (0 ≤ (n : Int) ∧ (n : Int) ≤ 2 ^ 30 ∧ (n : Int) = n)) (.need (decide (CpBo.ok { n := n, cap := cap, m := m, f0 := f0, n' := n, cap' := n, m' := n, z0 := fun _ => false, i := 0 })) (.leaf (.one (.sl 1 1 0 n n false), [some (.cols n [.bo (CpBo.row0 { n := n, cap := cap, m := m, f0 := f0, n' := n, cap' := n, m' := n, z0 := fun _ => false, i := n })])]))) := by kernel_rfl

theorem toBoolS_nil (a : Option Addr) : k_toBoolS0.run [.one (.val (.slice a 0 0))] [] = .need (decide (0 ≤ (0 : Int) ∧ (0 : Int) ≤ 2 ^ 30 ∧ (0 : Int) = 0)) (.leaf (.one (.sl 0 1 0 0 0 true), [some (.cols 0 [.bo fun _ => false])])) := by kernel_rfl

def runCpBo : List AV → Mem → T Res
  | [.one (.sl 0 1 0 n cap false)], [some (.cols m [.bo f0])] => .need (decide (n ≤ 1048576)) (.need (decide (n ≤ m)) (.leaf (.one (.sl 1 1 0 n n false), [some (.cols n [.bo f0])])))
  | [.one (.val (.slice a 0 0))], [] => .leaf (.one (.sl 0 1 0 0 0 false), [some (.cols 0 [.bo fun _ => false])])
  | _, _ => .fail

noncomputable def k_toBoolS : Ctr Try.prog := (k_toBoolS0.to runCpBo (by
  intro args mem _
  unfold runCpBo
  split
  · rename_i n cap m f0 _
    rw [toBoolS_ev]
    constructor
    intro Φ hΦ h
    have hn : n ≤ 1048576 := of_decide_eq_true h.1
    have hm : n ≤ m := of_decide_eq_true h.2.1
    refine T.h_need (by simp; omega) (T.h_need (decide_eq_true ⟨hm, Nat.le_refl n, Nat.le_refl n, by show n ≤ 1099511627776; omega, Nat.zero_le n⟩) (T.h_leaf (hΦ _ (.one (.sl 1 1 0 n n false), [some (.cols n [.bo f0])]) (le2_row (fun _ _ hv => hv) (BlLe.cols_eq (fun i hi => by simp only [colsAt, Col.at, CpBo.row0, if_pos hi]) rfl)) h.2.2)))
  · rename_i a _
    rw [toBoolS_nil]
    constructor
    intro Φ hΦ h
    exact T.h_need (by decide) (T.h_leaf (hΦ _ (.one (.sl 0 1 0 0 0 false), [some (.cols 0 [.bo fun _ => false])]) (le2_row (fun _ _ hv => hv) (BlLe.refl _)) h))
  · exact Weak.fail _)).own

/-! ### eqBoolS -/

noncomputable abbrev eqBoolSRoot : Code := bodyOf Try.f19

structure EqBb where
  n : Nat
  cap : Nat
  m : Nat
  f0 : Nat → Bool
  n' : Nat
  cap' : Nat
  m' : Nat
  g0 : Nat → Bool
  i : Nat

def EqBb.st (x : EqBb) : St := ⟨mkSl 26 0 [(0, .one (.sl 0 1 0 x.n x.cap false)), (1, .one (.sl 1 1 0 x.n' x.cap' false)), (5, .one (.num .i64 x.i))], [some (.cols x.m [.bo x.f0]), some (.cols x.m' [.bo x.g0])]⟩

theorem eqBoolS_round (x : EqBb) : roundB Try.prog [] eqBoolSRoot 2 0 [0, 1, 5] x.st =
    .ite (decide ((x.i : Int) < x.n)) (.need (decide (0 ≤ (x.i : Int)) && decide ((x.i : Int) < x.n)) (.need (decide ((x.i : Int).toNat + 0 < x.m)) (.need (decide (0 ≤ (x.i : Int)) && decide ((x.i : Int) < x.n')) (.need (decide ((x.i : Int).toNat + 0 < x.m'))
      (.ite (x.f0 ((x.i : Int).toNat + 0) != x.g0 ((x.i : Int).toNat + 0)) (.leaf (.ret, x.st)) (.leaf (.normal, ⟨mkSl 26 0 [(0, .one (.sl 0 1 0 x.n x.cap false)), (1, .one (.sl 1 1 0 x.n' x.cap' false)), (5, .one (.num .i64 (IntKind.i64.wrap ((x.i : Int) + 1))))], [some (.cols x.m [.bo x.f0]), some (.cols x.m' [.bo x.g0])]⟩))))))) (.leaf (.exit 0, x.st)) := by kernel_rfl

def EqBb.same (x : EqBb) : Prop := (∀ i, i < x.n → x.f0 i = x.g0 i)
def EqBb.ok (x : EqBb) : Prop := x.n ≤ x.m ∧ x.n = x.n' ∧ x.n ≤ x.m' ∧ x.n ≤ 1099511627776 ∧ x.i ≤ x.n ∧ x.same

theorem EqBb.done {x : EqBb} (h : x.i = x.n) : { x with i := x.n } = x := by
  cases x; simp_all

theorem eqBoolS_loop (x : EqBb) (hx : x.ok) : Tri Try.prog 2 (.block 0 (.loop (bodyB eqBoolSRoot 0))) x.st fun e s => e = .normal ∧ StLe s { x with i := x.n }.st := by
  refine loopB_tri mix (env := []) (root := eqBoolSRoot) (by kernel_rfl) [0, 1, 5] EqBb.st EqBb.ok (fun x => x.n - x.i) (fun x e s => e = .normal ∧ StLe s { x with i := x.n }.st) (fun x hx => ?_) x hx
  have h1 : x.n ≤ x.m := hx.1
  have h2 : x.n = x.n' := hx.2.1
  have h3 : x.n ≤ x.m' := hx.2.2.1
  have h4 : x.n ≤ 1099511627776 := hx.2.2.2.1
  have h5 : x.i ≤ x.n := hx.2.2.2.2.1
  have h6 : x.same := hx.2.2.2.2.2
  rw [eqBoolS_round]
  refine T.h_ite (fun hc => ?_) (fun hc => ?_)
  · have hi : x.i < x.n := by simpa using hc
    refine T.h_need (by simp; omega) (T.h_need (by simp; omega) (T.h_need (by simp; omega) (T.h_need (by simp; omega) (T.h_ite (fun hd => absurd (h6 x.i hi) (by simpa [bne] using hd)) (fun _ => T.h_leaf ?_)))))
    refine .inl ⟨rfl, { x with i := x.i + 1 }, ⟨h1, h2, h3, h4, hi, h6⟩, by show x.n - (x.i + 1) < x.n - x.i; omega, StLe.of_eq ?_, fun e s h => h⟩
    have hw : IntKind.i64.wrap ((x.i : Int) + 1) = ((x.i + 1 : Nat) : Int) := by rw [IntWalk.i64_in _ (by omega)]; simp
    show (⟨_, _⟩ : St) = ⟨_, _⟩
    rw [hw]
  · have hi : x.i = x.n := by
      have : ¬ ((x.i : Int) < x.n) := by simpa using hc
      omega
    refine T.h_leaf (.inr ⟨by simp, fun s hs => ⟨rfl, ?_⟩⟩)
    rw [EqBb.done hi]
    exact hs

noncomputable def cdecEqBb (x : EqBb) : Bool := @decide x.ok (Classical.propDecidable _)
theorem cdecEqBb_ok {x : EqBb} (h : cdecEqBb x = true) : x.ok := @of_decide_eq_true _ (Classical.propDecidable _) h
theorem cdecEqBb_mk {x : EqBb} (h : x.ok) : cdecEqBb x = true := @decide_eq_true _ (Classical.propDecidable _) h

def decEqBb (st : St) : Option EqBb :=
  if st.sl.length = 26 then
    match st.sl.getD 0 .und, st.sl.getD 1 .und, st.sl.getD 5 .und, st.mem with
    | .one (.sl 0 1 0 n cap false), .one (.sl 1 1 0 n' cap' false), .one (.int .i64 0), [some (.cols m [.bo f0]), some (.cols m' [.bo g0])] => some { n := n, cap := cap, m := m, f0 := f0, n' := n', cap' := cap', m' := m', g0 := g0, i := 0 }
    | _, _, _, _ => none
  else none

theorem decEqBb_le (st : St) (x : EqBb) (h : decEqBb st = some x) : StLe st x.st := by
  unfold decEqBb at h
  split at h
  · rename_i hlen
    split at h
    · rename_i h1 h2 h3 h4
      cases h
      refine ⟨SlLe.mk hlen fun p hp => ?_, ?_⟩
      · simp only [List.mem_cons, List.not_mem_nil, or_false] at hp
        rcases hp with rfl | rfl | rfl
        · rw [h1]; exact AvLe.refl _
        · rw [h2]; exact AvLe.refl _
        · rw [h3]; exact fun _ _ hv => hv
      · rw [h4]; exact MemLe.refl _
    · cases h
  · cases h

noncomputable def eqBoolS_sum : Sum Try.prog eqBoolSRoot :=
  sumOf (pathB eqBoolSRoot 0) 2 decEqBb EqBb.st cdecEqBb (fun x => (.normal, { x with i := x.n }.st)) decEqBb_le (by
    intro c hc x hx
    have : c = .block 0 (.loop (bodyB eqBoolSRoot 0)) := by
      have h : subR eqBoolSRoot (pathB eqBoolSRoot 0) = some (.block 0 (.loop (bodyB eqBoolSRoot 0))) := by kernel_rfl
      rw [h] at hc; cases hc; rfl
    subst this
    exact eqBoolS_loop x (cdecEqBb_ok hx))

noncomputable def k_eqBoolS0 : Ctr Try.prog := mkC0 Try.prog mix [] 19 Try.f19 eqBoolSRoot Try.func19 (by kernel_rfl) (by kernel_rfl) [eqBoolS_sum]

theorem eqBoolS_ev (n cap m : Nat) (f0 : Nat → Bool) (n' cap' m' : Nat) (g0 : Nat → Bool) : k_eqBoolS0.run [.one (.sl 0 1 0 n cap false), .one (.sl 1 1 0 n' cap' false)] [some (.cols m [.bo f0]), some (.cols m' [.bo g0])] =
    .ite (!decide ((n : Int) = n')) (.leaf (.one (.tt false), [])) (.need (cdecEqBb { n := n, cap := cap, m := m, f0 := f0, n' := n', cap' := cap', m' := m', g0 := g0, i := 0 }) (.leaf (.one (.tt true), []))) := by kernel_rfl

noncomputable def runEqBb : List AV → Mem → T Res
  | [.one (.sl 0 1 0 n cap false), .one (.sl 1 1 0 n' cap' false)], [some (.cols m [.bo f0]), some (.cols m' [.bo g0])] =>
    .need (cdecEqBb { n := n, cap := cap, m := m, f0 := f0, n' := n', cap' := cap', m' := m', g0 := g0, i := 0 }) (.leaf (.one (.tt true), []))
  | _, _ => .fail

noncomputable def k_eqBoolS : Ctr Try.prog := (k_eqBoolS0.to runEqBb (by
  intro args mem _
  unfold runEqBb
  split
  · rename_i n cap n' cap' m f0 m' g0 _
    rw [eqBoolS_ev]
    constructor
    intro Φ hΦ h
    have hok := cdecEqBb_ok h.1
    have hnn : n = n' := hok.2.1
    exact T.h_ite (fun hc => by subst hnn; simp at hc) (fun _ => T.h_need h.1 (T.h_leaf h.2))
  · exact Weak.fail _)).own


end Go.Proofs.Ytdlamanfolijlaa
