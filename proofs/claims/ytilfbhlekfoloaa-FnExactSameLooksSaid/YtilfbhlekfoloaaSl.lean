/-
  Lists of bodies that are the same: contracts of spec and impl for any length. No conditions.
-/
import Derived.Test.YtilfbhlekfoloaaLk
import Derived.Test.YtilfbhlekfoloaaFo
namespace Go.Proofs.Ytilfbhlekfoloaa
set_option linter.unusedVariables false
set_option linter.unusedSimpArgs false
open Go.RowKit

structure Sm where
  n : Nat
  n' : Nat
  m : Nat
  m' : Nat
  f0 : Nat → Nat
  f1 : Nat → Nat
  f2 : Nat → Nat
  f3 : Nat → Nat
  f4 : Nat → Nat
  g0 : Nat → Nat
  g1 : Nat → Nat
  g2 : Nat → Nat
  g3 : Nat → Nat
  g4 : Nat → Nat
  i : Nat

def Sm.base (x : Sm) : Mem := [some (.cols x.m [.fl .f32 x.f0, .fl .f32 x.f1, .fl .f32 x.f2, .fl .f32 x.f3, .fl .f32 x.f4]), some (.cols x.m' [.fl .f32 x.g0, .fl .f32 x.g1, .fl .f32 x.g2, .fl .f32 x.g3, .fl .f32 x.g4])]
def Sm.at (x : Sm) (j : Nat) : Bool := decide (x.f0 j = x.g0 j) && decide (x.f1 j = x.g1 j) && decide (x.f2 j = x.g2 j) && decide (x.f3 j = x.g3 j) && decide (x.f4 j = x.g4 j)
def Sm.ok (x : Sm) : Bool := decide (x.n ≤ x.m ∧ x.n ≤ x.n' ∧ x.n' ≤ x.m' ∧ x.n ≤ 1099511627776 ∧ x.i ≤ x.n)
def Sm.R (r : Nat) (x : Sm) : T (EX × FSt) := .ite (allB x.at (x.n - x.i) x.i) (.leaf (.normal, ⟨[], x.base⟩)) (.leaf (.ret, ⟨[(r, .one (.tt false))], x.base⟩))

theorem fle_sub {base : Mem} {s t : FSt} (hs : ∀ p ∈ t.sl, findF p.1 s.sl = p.2) (hm : t.mem = base) (hm2 : s.mem = base) : FLe base s t := by
  refine ⟨fun u ρ v hv => ?_, [], by rw [hm]; simp, by rw [hm2]; simp [MemLe]⟩
  have key : ∀ (l : List (Nat × AV)), (∀ p ∈ l, findF p.1 s.sl = p.2) → findF u l = .any ∨ findF u l = findF u s.sl := by
    intro l
    induction l with
    | nil => intro _; exact .inl rfl
    | cons p l ih =>
      intro h
      obtain ⟨k, a⟩ := p
      cases hb : Nat.beq k u with
      | true =>
        have := Nat.eq_of_beq_eq_true hb
        subst this
        refine .inr ?_
        have h1 : findF k s.sl = a := h (k, a) (List.Mem.head _)
        simp only [findF, hb]; exact h1.symm
      | false =>
        have e : findF u ((k, a) :: l) = findF u l := by simp only [findF, hb]
        rw [e]; exact ih fun q hq => h q (List.Mem.tail _ hq)
  rcases key t.sl hs with e | e
  · rw [e]; trivial
  · rw [e]; exact hv

theorem Sm.R_true {r : Nat} {x : Sm} (h : allB x.at (x.n - x.i) x.i = true) : (x.R r).leads (.normal, ⟨[], x.base⟩) := ⟨fun _ => rfl, fun e => by rw [h] at e; cases e⟩
theorem Sm.R_false {r : Nat} {x : Sm} (h : allB x.at (x.n - x.i) x.i = false) : (x.R r).leads (.ret, ⟨[(r, .one (.tt false))], x.base⟩) := ⟨fun e => (by rw [h] at e; cases e), fun _ => rfl⟩
theorem Sm.all_end {x : Sm} (h : x.i = x.n) : allB x.at (x.n - x.i) x.i = true := by rw [h, Nat.sub_self]; rfl
theorem Sm.all_step {x : Sm} (h : x.i < x.n) : allB x.at (x.n - x.i) x.i = (x.at x.i && allB x.at (x.n - (x.i + 1)) (x.i + 1)) := by
  rw [show x.n - x.i = (x.n - (x.i + 1)) + 1 by omega]; rfl

noncomputable def k_g_slices_EqualFunc_float32_i_sameNumbers : Ctr Try.prog := (mkF Try.prog mix [k_SameNumber] 110 Try.f110 (bodyOf Try.f110) Try.func110 (by kernel_rfl) (by kernel_rfl) [0, 1, 2, 6, 7, 8, 9, 14, 15, 16, 17, 18, 30] 32 (by kernel_rfl) (by kernel_rfl)).mg
noncomputable def k_i_sameNumbers : Ctr Try.prog := (mkC Try.prog mix [k_SameNumber, k_g_slices_EqualFunc_float32_i_sameNumbers] 70 Try.f70 (bodyOf Try.f70) Try.func70 (by kernel_rfl) (by kernel_rfl) []).mg
noncomputable def k_i_SameLooksD1 : Ctr Try.prog := (mkC Try.prog mix [k_i_sameNumbers] 69 Try.f69 (bodyOf Try.f69) Try.func69 (by kernel_rfl) (by kernel_rfl) []).mg
/-! ### sm -/

noncomputable abbrev smRoot : Code := bodyOf Try.f30
def sm_st (x : Sm) : FSt := ⟨[(0, .one (.su 0 5 0 x.n false)), (1, .one (.su 1 5 0 x.n' false)), (14, .one (.num .i64 (x.n : Int))), (15, .one (.num .i64 (x.i : Int)))], x.base⟩

theorem sm_round (x : Sm) : roundF Try.prog 83 [k_l01Same] smRoot [] x.base [0, 1, 4, 5, 6, 7, 14, 15, 16, 81, 199] [0, 1, 4, 14, 15] 0 (sm_st x) =
    .ite (decide ((x.i : Int) < x.n)) (.need (decide (0 ≤ (x.i : Int)) && decide ((x.i : Int) < x.n)) (.need (decide (0 ≤ (x.i : Int)) && decide ((x.i : Int) < x.n')) (.need (decide (((x.i : Int).toNat + 0) < x.m)) (.need (decide (((x.i : Int).toNat + 0) < x.m')) (.ite (!(decide (x.f0 ((x.i : Int).toNat + 0) = x.g0 ((x.i : Int).toNat + 0)))) (.leaf (.ret, ⟨[(0, .one (.su 0 5 0 x.n false)), (1, .one (.su 1 5 0 x.n' false)), (4, .one (.tt false)), (14, .one (.num .i64 (x.n : Int))), (15, .one (.num .i64 (x.i : Int)))], x.base⟩)) (.need (decide (((x.i : Int).toNat + 0) < x.m)) (.need (decide (((x.i : Int).toNat + 0) < x.m')) (.ite (!(decide (x.f1 ((x.i : Int).toNat + 0) = x.g1 ((x.i : Int).toNat + 0)))) (.leaf (.ret, ⟨[(0, .one (.su 0 5 0 x.n false)), (1, .one (.su 1 5 0 x.n' false)), (4, .one (.tt false)), (14, .one (.num .i64 (x.n : Int))), (15, .one (.num .i64 (x.i : Int)))], x.base⟩)) (.need (decide (((x.i : Int).toNat + 0) < x.m)) (.need (decide (((x.i : Int).toNat + 0) < x.m')) (.ite (!(decide (x.f2 ((x.i : Int).toNat + 0) = x.g2 ((x.i : Int).toNat + 0)))) (.leaf (.ret, ⟨[(0, .one (.su 0 5 0 x.n false)), (1, .one (.su 1 5 0 x.n' false)), (4, .one (.tt false)), (14, .one (.num .i64 (x.n : Int))), (15, .one (.num .i64 (x.i : Int)))], x.base⟩)) (.need (decide (((x.i : Int).toNat + 0) < x.m)) (.need (decide (((x.i : Int).toNat + 0) < x.m')) (.ite (!(decide (x.f3 ((x.i : Int).toNat + 0) = x.g3 ((x.i : Int).toNat + 0)))) (.leaf (.ret, ⟨[(0, .one (.su 0 5 0 x.n false)), (1, .one (.su 1 5 0 x.n' false)), (4, .one (.tt false)), (14, .one (.num .i64 (x.n : Int))), (15, .one (.num .i64 (x.i : Int)))], x.base⟩)) (.need (decide (((x.i : Int).toNat + 0) < x.m)) (.need (decide (((x.i : Int).toNat + 0) < x.m')) (.ite (!(decide (x.f4 ((x.i : Int).toNat + 0) = x.g4 ((x.i : Int).toNat + 0)))) (.leaf (.ret, ⟨[(0, .one (.su 0 5 0 x.n false)), (1, .one (.su 1 5 0 x.n' false)), (4, .one (.tt false)), (14, .one (.num .i64 (x.n : Int))), (15, .one (.num .i64 (x.i : Int)))], x.base⟩)) (.leaf (.normal, ⟨[(0, .one (.su 0 5 0 x.n false)), (1, .one (.su 1 5 0 x.n' false)), (4, .any), (14, .one (.num .i64 (x.n : Int))), (15, .one (.num .i64 (IntKind.i64.wrap ((x.i : Int) + 1))))], x.base⟩))))))))))))))))))) (.leaf (.exit 0, ⟨[(0, .one (.su 0 5 0 x.n false)), (1, .one (.su 1 5 0 x.n' false)), (4, .any), (14, .one (.num .i64 (x.n : Int))), (15, .one (.num .i64 (x.i : Int)))], x.base⟩)) := by kernel_rfl

theorem c7_sm_0 (b0 b1 b2 b3 b4 : Bool) : (!(b0)) = true → (b0 && b1 && b2 && b3 && b4) = false := by
  cases b0 <;> cases b1 <;> cases b2 <;> cases b3 <;> cases b4 <;> simp
theorem c7_sm_1 (b0 b1 b2 b3 b4 : Bool) : (!(b0)) = false → (!(b1)) = true → (b0 && b1 && b2 && b3 && b4) = false := by
  cases b0 <;> cases b1 <;> cases b2 <;> cases b3 <;> cases b4 <;> simp
theorem c7_sm_2 (b0 b1 b2 b3 b4 : Bool) : (!(b0)) = false → (!(b1)) = false → (!(b2)) = true → (b0 && b1 && b2 && b3 && b4) = false := by
  cases b0 <;> cases b1 <;> cases b2 <;> cases b3 <;> cases b4 <;> simp
theorem c7_sm_3 (b0 b1 b2 b3 b4 : Bool) : (!(b0)) = false → (!(b1)) = false → (!(b2)) = false → (!(b3)) = true → (b0 && b1 && b2 && b3 && b4) = false := by
  cases b0 <;> cases b1 <;> cases b2 <;> cases b3 <;> cases b4 <;> simp
theorem c7_sm_4 (b0 b1 b2 b3 b4 : Bool) : (!(b0)) = false → (!(b1)) = false → (!(b2)) = false → (!(b3)) = false → (!(b4)) = true → (b0 && b1 && b2 && b3 && b4) = false := by
  cases b0 <;> cases b1 <;> cases b2 <;> cases b3 <;> cases b4 <;> simp
theorem c7_sm (b0 b1 b2 b3 b4 : Bool) : (!(b0)) = false → (!(b1)) = false → (!(b2)) = false → (!(b3)) = false → (!(b4)) = false → (b0 && b1 && b2 && b3 && b4) = true := by
  cases b0 <;> cases b1 <;> cases b2 <;> cases b3 <;> cases b4 <;> simp
set_option maxRecDepth 1000000 in
theorem sm_loop (x : Sm) (hx : x.ok = true) : TriF Try.prog 83 x.base (.block 0 (.loop (bodyB smRoot 0))) (sm_st x) fun e s => ∃ t, (x.R 4).leads (e, t) ∧ FLe x.base s t := by
  refine loopF_tri mix (n := 83) (id := 0) (env := [k_l01Same]) (ss := []) (root := smRoot) (base := x.base) (by kernel_rfl) (by kernel_rfl) [0, 1, 4, 5, 6, 7, 14, 15, 16, 81, 199] [0, 1, 4, 14, 15] (fun i => sm_st { x with i := i }) (fun i => ({ x with i := i } : Sm).ok = true) (fun i => x.n - i) (fun i e s => ∃ t, (({ x with i := i } : Sm).R 4).leads (e, t) ∧ FLe x.base s t) (fun i hi => ?_) x.i hx
  generalize hy : ({ x with i := i } : Sm) = y at hi
  have eb : x.base = y.base := by subst hy; rfl
  have en : x.n = y.n := by subst hy; rfl
  have ei : y.i = i := by subst hy; rfl
  have ok := hi
  simp only [Sm.ok, decide_eq_true_eq] at ok
  obtain ⟨h1, h2, h3, h4, h5⟩ := ok
  rw [eb, sm_round]
  have bad : ∀ {s : FSt}, y.at y.i = false → y.i < y.n → FLe y.base s ⟨[(4, .one (.tt false))], y.base⟩ → ∃ t, (y.R 4).leads (.ret, t) ∧ FLe y.base s t := fun {s} hf hlt hs =>
    ⟨_, Sm.R_false (by rw [Sm.all_step hlt, hf]; rfl), hs⟩
  refine T.h_ite (fun hc => ?_) (fun hc => ?_)
  · have hlt : y.i < y.n := by simpa using hc
    have at_eq : y.at y.i = (decide (y.f0 ((y.i : Int).toNat + 0) = y.g0 ((y.i : Int).toNat + 0)) && decide (y.f1 ((y.i : Int).toNat + 0) = y.g1 ((y.i : Int).toNat + 0)) && decide (y.f2 ((y.i : Int).toNat + 0) = y.g2 ((y.i : Int).toNat + 0)) && decide (y.f3 ((y.i : Int).toNat + 0) = y.g3 ((y.i : Int).toNat + 0)) && decide (y.f4 ((y.i : Int).toNat + 0) = y.g4 ((y.i : Int).toNat + 0))) := by simp only [Sm.at, Int.toNat_natCast, Nat.add_zero]
    refine T.h_need (by simp; omega) (T.h_need (by simp; omega) (T.h_need (by simp; omega) (T.h_need (by simp; omega) ?_)))
    refine T.h_ite (fun q0 => ?_) (fun q0 => ?_)
    · exact T.h_leaf (.inr ⟨by simp, bad (at_eq.trans (c7_sm_0 _ _ _ _ _ q0)) hlt (fle_sub (fun p hp => by simp only [List.mem_cons, List.not_mem_nil, or_false] at hp; subst hp; rfl) rfl rfl)⟩)
    · refine id ?_
      refine T.h_need (by simp; omega) (T.h_need (by simp; omega) ?_)
      refine T.h_ite (fun q1 => ?_) (fun q1 => ?_)
      · exact T.h_leaf (.inr ⟨by simp, bad (at_eq.trans (c7_sm_1 _ _ _ _ _ q0 q1)) hlt (fle_sub (fun p hp => by simp only [List.mem_cons, List.not_mem_nil, or_false] at hp; subst hp; rfl) rfl rfl)⟩)
      · refine id ?_
        refine T.h_need (by simp; omega) (T.h_need (by simp; omega) ?_)
        refine T.h_ite (fun q2 => ?_) (fun q2 => ?_)
        · exact T.h_leaf (.inr ⟨by simp, bad (at_eq.trans (c7_sm_2 _ _ _ _ _ q0 q1 q2)) hlt (fle_sub (fun p hp => by simp only [List.mem_cons, List.not_mem_nil, or_false] at hp; subst hp; rfl) rfl rfl)⟩)
        · refine id ?_
          refine T.h_need (by simp; omega) (T.h_need (by simp; omega) ?_)
          refine T.h_ite (fun q3 => ?_) (fun q3 => ?_)
          · exact T.h_leaf (.inr ⟨by simp, bad (at_eq.trans (c7_sm_3 _ _ _ _ _ q0 q1 q2 q3)) hlt (fle_sub (fun p hp => by simp only [List.mem_cons, List.not_mem_nil, or_false] at hp; subst hp; rfl) rfl rfl)⟩)
          · refine id ?_
            refine T.h_need (by simp; omega) (T.h_need (by simp; omega) ?_)
            refine T.h_ite (fun q4 => ?_) (fun q4 => ?_)
            · exact T.h_leaf (.inr ⟨by simp, bad (at_eq.trans (c7_sm_4 _ _ _ _ _ q0 q1 q2 q3 q4)) hlt (fle_sub (fun p hp => by simp only [List.mem_cons, List.not_mem_nil, or_false] at hp; subst hp; rfl) rfl rfl)⟩)
            · refine id ?_
              have good : y.at y.i = true := at_eq.trans (c7_sm _ _ _ _ _ q0 q1 q2 q3 q4)
              refine T.h_leaf (.inl ⟨rfl, i + 1, ?_, by omega, ?_, fun e s h => ?_⟩)
              · subst hy; simp only [Sm.ok, decide_eq_true_eq]; exact ⟨h1, h2, h3, h4, hlt⟩
              · have hw : IntKind.i64.wrap ((y.i : Int) + 1) = ((i + 1 : Nat) : Int) := by rw [IntWalk.i64_in _ (by omega), ei]; simp
                subst hy
                refine fle_sub (fun p hp => ?_) rfl rfl
                rw [hw]
                simp only [sm_st, List.mem_cons, List.not_mem_nil, or_false] at hp
                rcases hp with rfl | rfl | rfl | rfl <;> rfl
              · obtain ⟨t, ht, hs⟩ := h
                refine ⟨t, ?_, hs⟩
                have e1 : allB y.at (y.n - y.i) y.i = allB ({ x with i := i + 1 } : Sm).at (({ x with i := i + 1 } : Sm).n - ({ x with i := i + 1 } : Sm).i) ({ x with i := i + 1 } : Sm).i := by
                  rw [Sm.all_step hlt, good]; subst hy; rfl
                have e2 : y.base = ({ x with i := i + 1 } : Sm).base := by subst hy; rfl
                unfold Sm.R at ht ⊢
                rw [e1, e2]; exact ht
  · have hi2 : y.i = y.n := by
      have : ¬ ((y.i : Int) < y.n) := by simpa using hc
      omega
    refine T.h_leaf (.inr ⟨by simp, ?_⟩)
    show ∃ t, (y.R 4).leads (.normal, t) ∧ FLe y.base _ t
    exact ⟨_, Sm.R_true (Sm.all_end hi2), fle_sub (fun p hp => by simp at hp) rfl rfl⟩

/-! ### ef -/

noncomputable abbrev efRoot : Code := bodyOf Try.f68
def ef_st (x : Sm) : FSt := ⟨[(0, .one (.su 0 5 0 x.n false)), (1, .one (.su 1 5 0 x.n' false)), (2, .one (.fn 69 [])), (15, .one (.su 0 5 0 x.n false)), (16, .one (.num .i64 (x.n : Int))), (17, .one (.num .i64 (x.i : Int)))], x.base⟩

theorem ef_round (x : Sm) : roundF Try.prog 32 [k_i_SameLooksD1] efRoot [] x.base [0, 1, 2, 6, 7, 8, 9, 15, 16, 17, 18, 30, 199] [0, 1, 2, 6, 15, 16, 17] 0 (ef_st x) =
    .ite (decide ((x.i : Int) < x.n)) (.need (decide (0 ≤ (x.i : Int)) && decide ((x.i : Int) < x.n)) (.need (decide (((x.i : Int).toNat + 0) < x.m)) (.need (decide (0 ≤ (x.i : Int)) && decide ((x.i : Int) < x.n')) (.need (decide (((x.i : Int).toNat + 0) < x.m')) (.ite (!(cond (!(decide (x.f0 ((x.i : Int).toNat + 0) = x.g0 ((x.i : Int).toNat + 0)))) false (cond (!(decide (x.f1 ((x.i : Int).toNat + 0) = x.g1 ((x.i : Int).toNat + 0)))) false (cond (!(decide (x.f2 ((x.i : Int).toNat + 0) = x.g2 ((x.i : Int).toNat + 0)))) false (cond (!(decide (x.f3 ((x.i : Int).toNat + 0) = x.g3 ((x.i : Int).toNat + 0)))) false (!!(decide (x.f4 ((x.i : Int).toNat + 0) = x.g4 ((x.i : Int).toNat + 0))))))))) (.leaf (.ret, ⟨[(0, .one (.su 0 5 0 x.n false)), (1, .one (.su 1 5 0 x.n' false)), (2, .one (.fn 69 [])), (6, .one (.tt false)), (15, .one (.su 0 5 0 x.n false)), (16, .one (.num .i64 (x.n : Int))), (17, .one (.num .i64 (x.i : Int)))], x.base⟩)) (.leaf (.normal, ⟨[(0, .one (.su 0 5 0 x.n false)), (1, .one (.su 1 5 0 x.n' false)), (2, .one (.fn 69 [])), (6, .any), (15, .one (.su 0 5 0 x.n false)), (16, .one (.num .i64 (x.n : Int))), (17, .one (.num .i64 (IntKind.i64.wrap ((x.i : Int) + 1))))], x.base⟩))))))) (.leaf (.exit 0, ⟨[(0, .one (.su 0 5 0 x.n false)), (1, .one (.su 1 5 0 x.n' false)), (2, .one (.fn 69 [])), (6, .any), (15, .one (.su 0 5 0 x.n false)), (16, .one (.num .i64 (x.n : Int))), (17, .one (.num .i64 (x.i : Int)))], x.base⟩)) := by kernel_rfl

theorem c7_ef_0 (b0 b1 b2 b3 b4 : Bool) : (!(cond (!(b0)) false (cond (!(b1)) false (cond (!(b2)) false (cond (!(b3)) false (!!(b4))))))) = true → (b0 && b1 && b2 && b3 && b4) = false := by
  cases b0 <;> cases b1 <;> cases b2 <;> cases b3 <;> cases b4 <;> simp
theorem c7_ef (b0 b1 b2 b3 b4 : Bool) : (!(cond (!(b0)) false (cond (!(b1)) false (cond (!(b2)) false (cond (!(b3)) false (!!(b4))))))) = false → (b0 && b1 && b2 && b3 && b4) = true := by
  cases b0 <;> cases b1 <;> cases b2 <;> cases b3 <;> cases b4 <;> simp
set_option maxRecDepth 1000000 in
theorem ef_loop (x : Sm) (hx : x.ok = true) : TriF Try.prog 32 x.base (.block 0 (.loop (bodyB efRoot 0))) (ef_st x) fun e s => ∃ t, (x.R 6).leads (e, t) ∧ FLe x.base s t := by
  refine loopF_tri mix (n := 32) (id := 0) (env := [k_i_SameLooksD1]) (ss := []) (root := efRoot) (base := x.base) (by kernel_rfl) (by kernel_rfl) [0, 1, 2, 6, 7, 8, 9, 15, 16, 17, 18, 30, 199] [0, 1, 2, 6, 15, 16, 17] (fun i => ef_st { x with i := i }) (fun i => ({ x with i := i } : Sm).ok = true) (fun i => x.n - i) (fun i e s => ∃ t, (({ x with i := i } : Sm).R 6).leads (e, t) ∧ FLe x.base s t) (fun i hi => ?_) x.i hx
  generalize hy : ({ x with i := i } : Sm) = y at hi
  have eb : x.base = y.base := by subst hy; rfl
  have en : x.n = y.n := by subst hy; rfl
  have ei : y.i = i := by subst hy; rfl
  have ok := hi
  simp only [Sm.ok, decide_eq_true_eq] at ok
  obtain ⟨h1, h2, h3, h4, h5⟩ := ok
  rw [eb, ef_round]
  have bad : ∀ {s : FSt}, y.at y.i = false → y.i < y.n → FLe y.base s ⟨[(6, .one (.tt false))], y.base⟩ → ∃ t, (y.R 6).leads (.ret, t) ∧ FLe y.base s t := fun {s} hf hlt hs =>
    ⟨_, Sm.R_false (by rw [Sm.all_step hlt, hf]; rfl), hs⟩
  refine T.h_ite (fun hc => ?_) (fun hc => ?_)
  · have hlt : y.i < y.n := by simpa using hc
    have at_eq : y.at y.i = (decide (y.f0 ((y.i : Int).toNat + 0) = y.g0 ((y.i : Int).toNat + 0)) && decide (y.f1 ((y.i : Int).toNat + 0) = y.g1 ((y.i : Int).toNat + 0)) && decide (y.f2 ((y.i : Int).toNat + 0) = y.g2 ((y.i : Int).toNat + 0)) && decide (y.f3 ((y.i : Int).toNat + 0) = y.g3 ((y.i : Int).toNat + 0)) && decide (y.f4 ((y.i : Int).toNat + 0) = y.g4 ((y.i : Int).toNat + 0))) := by simp only [Sm.at, Int.toNat_natCast, Nat.add_zero]
    refine T.h_need (by simp; omega) (T.h_need (by simp; omega) (T.h_need (by simp; omega) (T.h_need (by simp; omega) ?_)))
    refine T.h_ite (fun q0 => ?_) (fun q0 => ?_)
    · exact T.h_leaf (.inr ⟨by simp, bad (at_eq.trans (c7_ef_0 _ _ _ _ _ q0)) hlt (fle_sub (fun p hp => by simp only [List.mem_cons, List.not_mem_nil, or_false] at hp; subst hp; rfl) rfl rfl)⟩)
    · refine id ?_
      have good : y.at y.i = true := at_eq.trans (c7_ef _ _ _ _ _ q0)
      refine T.h_leaf (.inl ⟨rfl, i + 1, ?_, by omega, ?_, fun e s h => ?_⟩)
      · subst hy; simp only [Sm.ok, decide_eq_true_eq]; exact ⟨h1, h2, h3, h4, hlt⟩
      · have hw : IntKind.i64.wrap ((y.i : Int) + 1) = ((i + 1 : Nat) : Int) := by rw [IntWalk.i64_in _ (by omega), ei]; simp
        subst hy
        refine fle_sub (fun p hp => ?_) rfl rfl
        rw [hw]
        simp only [ef_st, List.mem_cons, List.not_mem_nil, or_false] at hp
        rcases hp with rfl | rfl | rfl | rfl | rfl | rfl <;> rfl
      · obtain ⟨t, ht, hs⟩ := h
        refine ⟨t, ?_, hs⟩
        have e1 : allB y.at (y.n - y.i) y.i = allB ({ x with i := i + 1 } : Sm).at (({ x with i := i + 1 } : Sm).n - ({ x with i := i + 1 } : Sm).i) ({ x with i := i + 1 } : Sm).i := by
          rw [Sm.all_step hlt, good]; subst hy; rfl
        have e2 : y.base = ({ x with i := i + 1 } : Sm).base := by subst hy; rfl
        unfold Sm.R at ht ⊢
        rw [e1, e2]; exact ht
  · have hi2 : y.i = y.n := by
      have : ¬ ((y.i : Int) < y.n) := by simpa using hc
      omega
    refine T.h_leaf (.inr ⟨by simp, ?_⟩)
    show ∃ t, (y.R 6).leads (.normal, t) ∧ FLe y.base _ t
    exact ⟨_, Sm.R_true (Sm.all_end hi2), fle_sub (fun p hp => by simp at hp) rfl rfl⟩

def dec_sm (base : Mem) (f : FSt) : Option (Sm × Int × Nat) :=
  match findF 0 f.sl, findF 1 f.sl, findF 14 f.sl, findF 15 f.sl, id base, f.mem with
  | .one (.su 0 5 0 n false), .one (.su 1 5 0 n' false), .one (.num .i64 q), .one (.int .i64 0), [some (.cols m [.fl .f32 f0, .fl .f32 f1, .fl .f32 f2, .fl .f32 f3, .fl .f32 f4]), some (.cols m' [.fl .f32 g0, .fl .f32 g1, .fl .f32 g2, .fl .f32 g3, .fl .f32 g4])], [_, _] => some ({ n := n, n' := n', m := m, m' := m', f0 := f0, f1 := f1, f2 := f2, f3 := f3, f4 := f4, g0 := g0, g1 := g1, g2 := g2, g3 := g3, g4 := g4, i := 0 }, q, n)
  | _, _, _, _, _, _ => none

def sm_sq (x : Sm × Int × Nat) : FSt := ⟨[(0, .one (.su 0 5 0 x.1.n false)), (1, .one (.su 1 5 0 x.1.n' false)), (14, .one (.num .i64 x.2.1)), (15, .one (.num .i64 (x.1.i : Int)))], x.1.base⟩
theorem dec_sm_le (base : Mem) (f : FSt) (x : (Sm × Int × Nat)) (h : dec_sm base f = some x) : FLe base f (sm_sq x) ∧ base = x.1.base := by
  unfold dec_sm at h
  split at h
  · rename_i h0 h1 h14 h15 hb hm
    cases h
    have hb : base = _ := hb
    refine ⟨⟨fun u ρ v hv => ?_, [], ?_, ?_⟩, hb⟩
    · cases a0 : Nat.beq 0 u with
      | true =>
        have e := Nat.eq_of_beq_eq_true a0
        subst e
        rw [h0] at hv; exact hv
      | false =>
        cases a1 : Nat.beq 1 u with
        | true =>
          have e := Nat.eq_of_beq_eq_true a1
          subst e
          rw [h1] at hv; exact hv
        | false =>
          cases a14 : Nat.beq 14 u with
          | true =>
            have e := Nat.eq_of_beq_eq_true a14
            subst e
            rw [h14] at hv; exact hv
          | false =>
            cases a15 : Nat.beq 15 u with
            | true =>
              have e := Nat.eq_of_beq_eq_true a15
              subst e
              rw [h15] at hv; exact hv
            | false =>
              have e : ∀ x, findF u ((sm_sq x)).sl = .any := fun x => by simp only [sm_sq, findF, a0, a1, a14, a15]
              rw [e]; trivial
    · rw [hb]; rfl
    · rw [hm, hb]; trivial
  · cases h

noncomputable def sm_sum : SumF Try.prog 83 smRoot :=
  sumF (pathB smRoot 0) dec_sm (fun x => sm_sq x) (fun x => x.1.ok && decide (x.2.1 = (x.1.n : Int)) && decide (x.2.2 = x.1.n)) (fun x => x.1.R 4) (fun base f x h => (dec_sm_le base f x h).1) (by
    intro c hc base x hf hx
    obtain ⟨f, hf⟩ := hf
    have hc2 : c = .block 0 (.loop (bodyB smRoot 0)) := by
      have h : subR smRoot (pathB smRoot 0) = some (.block 0 (.loop (bodyB smRoot 0))) := by kernel_rfl
      rw [h] at hc; cases hc; rfl
    subst hc2
    have hb := (dec_sm_le base f x hf).2
    subst hb
    obtain ⟨y, q, p⟩ := x
    have h : (y.ok = true ∧ q = (y.n : Int)) ∧ p = y.n := by simpa using hx
    obtain ⟨⟨h1, h2⟩, h3⟩ := h
    subst h2
    subst h3
    exact sm_loop y h1)

noncomputable def k_sm0 : Ctr Try.prog := mkF0 Try.prog mix [k_l01Same] 30 Try.f30 smRoot Try.func30 (by kernel_rfl) (by kernel_rfl) [0, 1, 4, 5, 6, 7, 12, 14, 15, 16, 81, 199] 83 (by kernel_rfl) (by kernel_rfl) [sm_sum]

def dec_ef (base : Mem) (f : FSt) : Option (Sm × Int × Nat) :=
  match findF 0 f.sl, findF 1 f.sl, findF 2 f.sl, findF 15 f.sl, findF 16 f.sl, findF 17 f.sl, id base, f.mem with
  | .one (.su 0 5 0 n false), .one (.su 1 5 0 n' false), .one (.fn 69 []), .one (.su 0 5 0 p false), .one (.num .i64 q), .one (.int .i64 0), [some (.cols m [.fl .f32 f0, .fl .f32 f1, .fl .f32 f2, .fl .f32 f3, .fl .f32 f4]), some (.cols m' [.fl .f32 g0, .fl .f32 g1, .fl .f32 g2, .fl .f32 g3, .fl .f32 g4])], [_, _] => some ({ n := n, n' := n', m := m, m' := m', f0 := f0, f1 := f1, f2 := f2, f3 := f3, f4 := f4, g0 := g0, g1 := g1, g2 := g2, g3 := g3, g4 := g4, i := 0 }, q, p)
  | _, _, _, _, _, _, _, _ => none

def ef_sq (x : Sm × Int × Nat) : FSt := ⟨[(0, .one (.su 0 5 0 x.1.n false)), (1, .one (.su 1 5 0 x.1.n' false)), (2, .one (.fn 69 [])), (15, .one (.su 0 5 0 x.2.2 false)), (16, .one (.num .i64 x.2.1)), (17, .one (.num .i64 (x.1.i : Int)))], x.1.base⟩
theorem dec_ef_le (base : Mem) (f : FSt) (x : (Sm × Int × Nat)) (h : dec_ef base f = some x) : FLe base f (ef_sq x) ∧ base = x.1.base := by
  unfold dec_ef at h
  split at h
  · rename_i h0 h1 h2 h15 h16 h17 hb hm
    cases h
    have hb : base = _ := hb
    refine ⟨⟨fun u ρ v hv => ?_, [], ?_, ?_⟩, hb⟩
    · cases a0 : Nat.beq 0 u with
      | true =>
        have e := Nat.eq_of_beq_eq_true a0
        subst e
        rw [h0] at hv; exact hv
      | false =>
        cases a1 : Nat.beq 1 u with
        | true =>
          have e := Nat.eq_of_beq_eq_true a1
          subst e
          rw [h1] at hv; exact hv
        | false =>
          cases a2 : Nat.beq 2 u with
          | true =>
            have e := Nat.eq_of_beq_eq_true a2
            subst e
            rw [h2] at hv; exact hv
          | false =>
            cases a15 : Nat.beq 15 u with
            | true =>
              have e := Nat.eq_of_beq_eq_true a15
              subst e
              rw [h15] at hv; exact hv
            | false =>
              cases a16 : Nat.beq 16 u with
              | true =>
                have e := Nat.eq_of_beq_eq_true a16
                subst e
                rw [h16] at hv; exact hv
              | false =>
                cases a17 : Nat.beq 17 u with
                | true =>
                  have e := Nat.eq_of_beq_eq_true a17
                  subst e
                  rw [h17] at hv; exact hv
                | false =>
                  have e : ∀ x, findF u ((ef_sq x)).sl = .any := fun x => by simp only [ef_sq, findF, a0, a1, a2, a15, a16, a17]
                  rw [e]; trivial
    · rw [hb]; rfl
    · rw [hm, hb]; trivial
  · cases h

noncomputable def ef_sum : SumF Try.prog 32 efRoot :=
  sumF (pathB efRoot 0) dec_ef (fun x => ef_sq x) (fun x => x.1.ok && decide (x.2.1 = (x.1.n : Int)) && decide (x.2.2 = x.1.n)) (fun x => x.1.R 6) (fun base f x h => (dec_ef_le base f x h).1) (by
    intro c hc base x hf hx
    obtain ⟨f, hf⟩ := hf
    have hc2 : c = .block 0 (.loop (bodyB efRoot 0)) := by
      have h : subR efRoot (pathB efRoot 0) = some (.block 0 (.loop (bodyB efRoot 0))) := by kernel_rfl
      rw [h] at hc; cases hc; rfl
    subst hc2
    have hb := (dec_ef_le base f x hf).2
    subst hb
    obtain ⟨y, q, p⟩ := x
    have h : (y.ok = true ∧ q = (y.n : Int)) ∧ p = y.n := by simpa using hx
    obtain ⟨⟨h1, h2⟩, h3⟩ := h
    subst h2
    subst h3
    exact ef_loop y h1)

noncomputable def k_ef0 : Ctr Try.prog := mkF0 Try.prog mix [k_i_SameLooksD1] 68 Try.f68 efRoot Try.func68 (by kernel_rfl) (by kernel_rfl) [0, 1, 2, 6, 7, 8, 9, 14, 15, 16, 17, 18, 30, 199] 32 (by kernel_rfl) (by kernel_rfl) [ef_sum]

noncomputable def sameB (n n' : Nat) (f0 f1 f2 f3 f4 g0 g1 g2 g3 g4 : Nat → Nat) : Bool := cond (decide ((n : Int) = (n' : Int))) (allB (Sm.at { n := n, n' := n', m := 0, m' := 0, f0 := f0, f1 := f1, f2 := f2, f3 := f3, f4 := f4, g0 := g0, g1 := g1, g2 := g2, g3 := g3, g4 := g4, i := 0 }) n 0) false

noncomputable def run_sm : List AV → Mem → T Res
  | [.one (.su 0 5 0 n false), .one (.su 1 5 0 n' false)], [some (.cols m [.fl .f32 f0, .fl .f32 f1, .fl .f32 f2, .fl .f32 f3, .fl .f32 f4]), some (.cols m' [.fl .f32 g0, .fl .f32 g1, .fl .f32 g2, .fl .f32 g3, .fl .f32 g4])] => .need (decide (n ≤ m)) (.need (decide (n' ≤ m')) (.need (decide (n ≤ 1099511627776)) (.leaf (.one (.bo (sameB n n' f0 f1 f2 f3 f4 g0 g1 g2 g3 g4)), []))))
  | _, _ => .fail
theorem sm_ev (n n' m m' : Nat) (f0 f1 f2 f3 f4 g0 g1 g2 g3 g4 : Nat → Nat) : k_sm0.run [.one (.su 0 5 0 n false), .one (.su 1 5 0 n' false)] [some (.cols m [.fl .f32 f0, .fl .f32 f1, .fl .f32 f2, .fl .f32 f3, .fl .f32 f4]), some (.cols m' [.fl .f32 g0, .fl .f32 g1, .fl .f32 g2, .fl .f32 g3, .fl .f32 g4])] =
  .ite (!decide ((n : Int) = (n' : Int))) (.leaf (.one (.tt false), [])) (.need ((Sm.ok ({ n := n, n' := n', m := m, m' := m', f0 := f0, f1 := f1, f2 := f2, f3 := f3, f4 := f4, g0 := g0, g1 := g1, g2 := g2, g3 := g3, g4 := g4, i := 0 }) && decide ((n : Int) = (n : Int))) && decide (n = n)) (.ite (allB (Sm.at ({ n := n, n' := n', m := m, m' := m', f0 := f0, f1 := f1, f2 := f2, f3 := f3, f4 := f4, g0 := g0, g1 := g1, g2 := g2, g3 := g3, g4 := g4, i := 0 })) (n - 0) 0) (.leaf (.one (.tt true), [])) (.leaf (.one (.tt false), [])))) := by kernel_rfl
noncomputable def k_sm : Ctr Try.prog := k_sm0.to run_sm (by
  intro args mem _
  unfold run_sm
  split
  · rename_i n n' m f0 f1 f2 f3 f4 m' g0 g1 g2 g3 g4 _
    rw [sm_ev]
    constructor
    intro Φ hΦ h
    have h1 : n ≤ m := of_decide_eq_true h.1
    have h2 : n' ≤ m' := of_decide_eq_true h.2.1
    have h3 : n ≤ 1099511627776 := of_decide_eq_true h.2.2.1
    have h4 : Φ (.one (.bo (sameB n n' f0 f1 f2 f3 f4 g0 g1 g2 g3 g4)), []) := h.2.2.2
    refine T.h_ite (fun q => ?_) (fun q => ?_)
    · have e : (sameB n n' f0 f1 f2 f3 f4 g0 g1 g2 g3 g4) = false := by
        have q' : decide ((n : Int) = (n' : Int)) = false := by simpa using q
        unfold sameB; rw [q']; rfl
      rw [e] at h4
      exact T.h_leaf (hΦ _ (.one (.bo false), []) ⟨trivial, fun ρ v hv => hv⟩ h4)
    · have q' : decide ((n : Int) = (n' : Int)) = true := by simpa using q
      have qn : n = n' := by have := of_decide_eq_true q'; omega
      have hok : ((Sm.ok ({ n := n, n' := n', m := m, m' := m', f0 := f0, f1 := f1, f2 := f2, f3 := f3, f4 := f4, g0 := g0, g1 := g1, g2 := g2, g3 := g3, g4 := g4, i := 0 }) && decide ((n : Int) = (n : Int))) && decide (n = n)) = true := by
        simp only [Sm.ok, Bool.and_eq_true, decide_eq_true_eq]
        first
          | exact ⟨⟨⟨h1, by omega, h2, h3, Nat.zero_le n⟩, rfl⟩, rfl⟩
          | exact ⟨h1, by omega, h2, h3, Nat.zero_le n⟩
          | (simp; omega)
      refine T.h_need hok (T.h_ite (fun r => ?_) (fun r => ?_))
      · have e : (sameB n n' f0 f1 f2 f3 f4 g0 g1 g2 g3 g4) = true := by unfold sameB; rw [q']; exact r
        rw [e] at h4
        exact T.h_leaf (hΦ _ (.one (.bo true), []) ⟨trivial, fun ρ v hv => hv⟩ h4)
      · have e : (sameB n n' f0 f1 f2 f3 f4 g0 g1 g2 g3 g4) = false := by unfold sameB; rw [q']; exact r
        rw [e] at h4
        exact T.h_leaf (hΦ _ (.one (.bo false), []) ⟨trivial, fun ρ v hv => hv⟩ h4)
  · exact Weak.fail _)

noncomputable def run_ef : List AV → Mem → T Res
  | [.one (.su 0 5 0 n false), .one (.su 1 5 0 n' false), .one (.fn 69 [])], [some (.cols m [.fl .f32 f0, .fl .f32 f1, .fl .f32 f2, .fl .f32 f3, .fl .f32 f4]), some (.cols m' [.fl .f32 g0, .fl .f32 g1, .fl .f32 g2, .fl .f32 g3, .fl .f32 g4])] => .need (decide (n ≤ m)) (.need (decide (n' ≤ m')) (.need (decide (n ≤ 1099511627776)) (.leaf (.one (.bo (sameB n n' f0 f1 f2 f3 f4 g0 g1 g2 g3 g4)), []))))
  | _, _ => .fail
theorem ef_ev (n n' m m' : Nat) (f0 f1 f2 f3 f4 g0 g1 g2 g3 g4 : Nat → Nat) : k_ef0.run [.one (.su 0 5 0 n false), .one (.su 1 5 0 n' false), .one (.fn 69 [])] [some (.cols m [.fl .f32 f0, .fl .f32 f1, .fl .f32 f2, .fl .f32 f3, .fl .f32 f4]), some (.cols m' [.fl .f32 g0, .fl .f32 g1, .fl .f32 g2, .fl .f32 g3, .fl .f32 g4])] =
  .ite (!decide ((n : Int) = (n' : Int))) (.leaf (.one (.tt false), [])) (.need ((Sm.ok ({ n := n, n' := n', m := m, m' := m', f0 := f0, f1 := f1, f2 := f2, f3 := f3, f4 := f4, g0 := g0, g1 := g1, g2 := g2, g3 := g3, g4 := g4, i := 0 }) && decide ((n : Int) = (n : Int))) && decide (n = n)) (.ite (allB (Sm.at ({ n := n, n' := n', m := m, m' := m', f0 := f0, f1 := f1, f2 := f2, f3 := f3, f4 := f4, g0 := g0, g1 := g1, g2 := g2, g3 := g3, g4 := g4, i := 0 })) (n - 0) 0) (.leaf (.one (.tt true), [])) (.leaf (.one (.tt false), [])))) := by kernel_rfl
noncomputable def k_ef : Ctr Try.prog := k_ef0.to run_ef (by
  intro args mem _
  unfold run_ef
  split
  · rename_i n n' m f0 f1 f2 f3 f4 m' g0 g1 g2 g3 g4 _
    rw [ef_ev]
    constructor
    intro Φ hΦ h
    have h1 : n ≤ m := of_decide_eq_true h.1
    have h2 : n' ≤ m' := of_decide_eq_true h.2.1
    have h3 : n ≤ 1099511627776 := of_decide_eq_true h.2.2.1
    have h4 : Φ (.one (.bo (sameB n n' f0 f1 f2 f3 f4 g0 g1 g2 g3 g4)), []) := h.2.2.2
    refine T.h_ite (fun q => ?_) (fun q => ?_)
    · have e : (sameB n n' f0 f1 f2 f3 f4 g0 g1 g2 g3 g4) = false := by
        have q' : decide ((n : Int) = (n' : Int)) = false := by simpa using q
        unfold sameB; rw [q']; rfl
      rw [e] at h4
      exact T.h_leaf (hΦ _ (.one (.bo false), []) ⟨trivial, fun ρ v hv => hv⟩ h4)
    · have q' : decide ((n : Int) = (n' : Int)) = true := by simpa using q
      have qn : n = n' := by have := of_decide_eq_true q'; omega
      have hok : ((Sm.ok ({ n := n, n' := n', m := m, m' := m', f0 := f0, f1 := f1, f2 := f2, f3 := f3, f4 := f4, g0 := g0, g1 := g1, g2 := g2, g3 := g3, g4 := g4, i := 0 }) && decide ((n : Int) = (n : Int))) && decide (n = n)) = true := by
        simp only [Sm.ok, Bool.and_eq_true, decide_eq_true_eq]
        first
          | exact ⟨⟨⟨h1, by omega, h2, h3, Nat.zero_le n⟩, rfl⟩, rfl⟩
          | exact ⟨h1, by omega, h2, h3, Nat.zero_le n⟩
          | (simp; omega)
      refine T.h_need hok (T.h_ite (fun r => ?_) (fun r => ?_))
      · have e : (sameB n n' f0 f1 f2 f3 f4 g0 g1 g2 g3 g4) = true := by unfold sameB; rw [q']; exact r
        rw [e] at h4
        exact T.h_leaf (hΦ _ (.one (.bo true), []) ⟨trivial, fun ρ v hv => hv⟩ h4)
      · have e : (sameB n n' f0 f1 f2 f3 f4 g0 g1 g2 g3 g4) = false := by unfold sameB; rw [q']; exact r
        rw [e] at h4
        exact T.h_leaf (hΦ _ (.one (.bo false), []) ⟨trivial, fun ρ v hv => hv⟩ h4)
  · exact Weak.fail _)

noncomputable def k_sS : Ctr Try.prog := (k_sm).su.own
noncomputable def k_iS : Ctr Try.prog := (mkC Try.prog mix [k_ef] 32 Try.f32 (bodyOf Try.f32) Try.func32 (by kernel_rfl) (by kernel_rfl) []).su.own

end Go.Proofs.Ytilfbhlekfoloaa
