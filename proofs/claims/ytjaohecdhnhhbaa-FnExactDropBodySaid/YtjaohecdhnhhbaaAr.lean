/-
  Which rows are bodies, for spec and impl alike. No conditions.
-/
import Derived.Test.YtjaohecdhnhhbaaBd
import Derived.Test.YtjaohecdhnhhbaaFw
namespace Go.Proofs.Ytjaohecdhnhhbaa
set_option linter.unusedVariables false
set_option linter.unusedSimpArgs false
open Go.RowKit

noncomputable def k_l01VFinite : Ctr Try.prog := (mkC Try.prog mix [k_l01Finite] 99 Try.f99 (bodyOf Try.f99) Try.func99 (by kernel_rfl) (by kernel_rfl) []).mg
noncomputable def k_l02Least : Ctr Try.prog := (mkC Try.prog mix [k_l01Finite] 100 Try.f100 (bodyOf Try.f100) Try.func100 (by kernel_rfl) (by kernel_rfl) []).mg
noncomputable def k_l02Body0 : Ctr Try.prog := (mkC Try.prog mix [k_l01VFinite, k_l02Least] 86 Try.f86 (bodyOf Try.f86) Try.func86 (by kernel_rfl) (by kernel_rfl) []).mg
def fin3 (x y z : Nat) : Bool := cond (fin .f32 x) (cond (fin .f32 y) (fin .f32 z) false) false
def least (x : Nat) : Bool := cond (fin .f32 x) (fge .f32 x 0) false
def okBody (x0 x1 x2 x3 x4 x5 x6 : Nat) : Bool := cond (fin3 x0 x1 x2) (cond (fin3 x3 x4 x5) (least x6) false) false
theorem l02Body_ev (n i : Nat) (f0 : Nat → Nat) (f1 : Nat → Nat) (f2 : Nat → Nat) (f3 : Nat → Nat) (f4 : Nat → Nat) (f5 : Nat → Nat) (f6 : Nat → Nat) (mem : Mem) : k_l02Body0.run [.one (.ptr 0 7 i 0)] [some (.cols n [.fl .f32 f0, .fl .f32 f1, .fl .f32 f2, .fl .f32 f3, .fl .f32 f4, .fl .f32 f5, .fl .f32 f6])] =
    .need (decide (i < n)) (.need (cond (fin3 (f0 i) (f1 i) (f2 i)) (decide (i < n)) true) (.need (cond (fin3 (f0 i) (f1 i) (f2 i)) (cond (fin3 (f3 i) (f4 i) (f5 i)) (decide (i < n)) true) true) (.leaf (.one (.bo (okBody (f0 i) (f1 i) (f2 i) (f3 i) (f4 i) (f5 i) (f6 i))), [])))) := by kernel_rfl

def run_l02Body : List AV → Mem → T Res
  | [.one (.ptr 0 7 i 0)], [some (.cols n [.fl .f32 f0, .fl .f32 f1, .fl .f32 f2, .fl .f32 f3, .fl .f32 f4, .fl .f32 f5, .fl .f32 f6])] => .need (decide (i < n)) (.leaf (.one (.bo (okBody (f0 i) (f1 i) (f2 i) (f3 i) (f4 i) (f5 i) (f6 i))), []))
  | _, _ => .fail
noncomputable def k_l02Body : Ctr Try.prog := (k_l02Body0.to run_l02Body (by
  intro args mem _
  unfold run_l02Body
  split
  · rename_i i n f0 f1 f2 f3 f4 f5 f6 _
    rw [l02Body_ev _ _ _ _ _ _ _ _ _ []]
    constructor
    intro Φ hΦ h
    have hd : decide (i < n) = true := h.1
    rw [hd]
    exact T.h_need rfl (T.h_need (by simp) (T.h_need (by simp) (T.h_leaf h.2)))
  · exact Weak.fail _)).own

noncomputable def k_l02Are0 : Ctr Try.prog := (mkF Try.prog mix [k_l02Body] 55 Try.f55 (bodyOf Try.f55) Try.func55 (by kernel_rfl) (by kernel_rfl) [0, 2, 3, 12, 19] 23 (by kernel_rfl) (by kernel_rfl)).cl

/-- The first bodies of a row, from one on. -/
def okFrom (f0 f1 f2 f3 f4 f5 f6 : Nat → Nat) : Nat → Nat → List Bool
  | 0, _ => []
  | k + 1, i => okBody (f0 i) (f1 i) (f2 i) (f3 i) (f4 i) (f5 i) (f6 i) :: okFrom f0 f1 f2 f3 f4 f5 f6 k (i + 1)

def chain : List Bool → Bool
  | [] => true
  | [b] => !!b
  | b :: l => cond (!b) false (chain l)

def areB (n : Nat) (f0 f1 f2 f3 f4 f5 f6 : Nat → Nat) : Bool := cond (decide (n ≤ 16)) (chain (okFrom f0 f1 f2 f3 f4 f5 f6 n 0)) false

theorem areB_le {n : Nat} {f0 f1 f2 f3 f4 f5 f6 : Nat → Nat} (h : areB n f0 f1 f2 f3 f4 f5 f6 = true) : n ≤ 16 := by
  unfold areB at h
  by_cases hn : n ≤ 16
  · exact hn
  · rw [decide_eq_false hn] at h; cases h

def run_are : List AV → Mem → T Res
  | [.one (.su 0 7 0 n kn)], [some (.cols m [.fl .f32 f0, .fl .f32 f1, .fl .f32 f2, .fl .f32 f3, .fl .f32 f4, .fl .f32 f5, .fl .f32 f6])] => .need (decide (n ≤ m)) (.leaf (.one (.bo (areB n f0 f1 f2 f3 f4 f5 f6)), []))
  | _, _ => .fail

theorem le2_any {r s : AV} {m : Mem} (h : ∀ ρ v, r.rel ρ v → s.rel ρ v) : le2 (r, m) (s, m) := ⟨MemLe.refl _, h⟩
theorem l02Are_0 (f0 : Nat → Nat) (f1 : Nat → Nat) (f2 : Nat → Nat) (f3 : Nat → Nat) (f4 : Nat → Nat) (f5 : Nat → Nat) (f6 : Nat → Nat) : k_l02Are0.run [.one (.su 0 7 0 0 true)] [some (.cols 0 [.fl .f32 f0, .fl .f32 f1, .fl .f32 f2, .fl .f32 f3, .fl .f32 f4, .fl .f32 f5, .fl .f32 f6])] = .leaf (.one (.tt true), []) := by kernel_rfl
theorem l02Are_1 (f0 : Nat → Nat) (f1 : Nat → Nat) (f2 : Nat → Nat) (f3 : Nat → Nat) (f4 : Nat → Nat) (f5 : Nat → Nat) (f6 : Nat → Nat) : k_l02Are0.run [.one (.su 0 7 0 1 true)] [some (.cols 1 [.fl .f32 f0, .fl .f32 f1, .fl .f32 f2, .fl .f32 f3, .fl .f32 f4, .fl .f32 f5, .fl .f32 f6])] = .leaf (.one (.bo (areB 1 f0 f1 f2 f3 f4 f5 f6)), []) := by kernel_rfl
theorem l02Are_2 (f0 : Nat → Nat) (f1 : Nat → Nat) (f2 : Nat → Nat) (f3 : Nat → Nat) (f4 : Nat → Nat) (f5 : Nat → Nat) (f6 : Nat → Nat) : k_l02Are0.run [.one (.su 0 7 0 2 true)] [some (.cols 2 [.fl .f32 f0, .fl .f32 f1, .fl .f32 f2, .fl .f32 f3, .fl .f32 f4, .fl .f32 f5, .fl .f32 f6])] = .leaf (.one (.bo (areB 2 f0 f1 f2 f3 f4 f5 f6)), []) := by kernel_rfl
theorem l02Are_3 (f0 : Nat → Nat) (f1 : Nat → Nat) (f2 : Nat → Nat) (f3 : Nat → Nat) (f4 : Nat → Nat) (f5 : Nat → Nat) (f6 : Nat → Nat) : k_l02Are0.run [.one (.su 0 7 0 3 true)] [some (.cols 3 [.fl .f32 f0, .fl .f32 f1, .fl .f32 f2, .fl .f32 f3, .fl .f32 f4, .fl .f32 f5, .fl .f32 f6])] = .leaf (.one (.bo (areB 3 f0 f1 f2 f3 f4 f5 f6)), []) := by kernel_rfl
theorem l02Are_4 (f0 : Nat → Nat) (f1 : Nat → Nat) (f2 : Nat → Nat) (f3 : Nat → Nat) (f4 : Nat → Nat) (f5 : Nat → Nat) (f6 : Nat → Nat) : k_l02Are0.run [.one (.su 0 7 0 4 true)] [some (.cols 4 [.fl .f32 f0, .fl .f32 f1, .fl .f32 f2, .fl .f32 f3, .fl .f32 f4, .fl .f32 f5, .fl .f32 f6])] = .leaf (.one (.bo (areB 4 f0 f1 f2 f3 f4 f5 f6)), []) := by kernel_rfl
theorem l02Are_5 (f0 : Nat → Nat) (f1 : Nat → Nat) (f2 : Nat → Nat) (f3 : Nat → Nat) (f4 : Nat → Nat) (f5 : Nat → Nat) (f6 : Nat → Nat) : k_l02Are0.run [.one (.su 0 7 0 5 true)] [some (.cols 5 [.fl .f32 f0, .fl .f32 f1, .fl .f32 f2, .fl .f32 f3, .fl .f32 f4, .fl .f32 f5, .fl .f32 f6])] = .leaf (.one (.bo (areB 5 f0 f1 f2 f3 f4 f5 f6)), []) := by kernel_rfl
theorem l02Are_6 (f0 : Nat → Nat) (f1 : Nat → Nat) (f2 : Nat → Nat) (f3 : Nat → Nat) (f4 : Nat → Nat) (f5 : Nat → Nat) (f6 : Nat → Nat) : k_l02Are0.run [.one (.su 0 7 0 6 true)] [some (.cols 6 [.fl .f32 f0, .fl .f32 f1, .fl .f32 f2, .fl .f32 f3, .fl .f32 f4, .fl .f32 f5, .fl .f32 f6])] = .leaf (.one (.bo (areB 6 f0 f1 f2 f3 f4 f5 f6)), []) := by kernel_rfl
theorem l02Are_7 (f0 : Nat → Nat) (f1 : Nat → Nat) (f2 : Nat → Nat) (f3 : Nat → Nat) (f4 : Nat → Nat) (f5 : Nat → Nat) (f6 : Nat → Nat) : k_l02Are0.run [.one (.su 0 7 0 7 true)] [some (.cols 7 [.fl .f32 f0, .fl .f32 f1, .fl .f32 f2, .fl .f32 f3, .fl .f32 f4, .fl .f32 f5, .fl .f32 f6])] = .leaf (.one (.bo (areB 7 f0 f1 f2 f3 f4 f5 f6)), []) := by kernel_rfl
theorem l02Are_8 (f0 : Nat → Nat) (f1 : Nat → Nat) (f2 : Nat → Nat) (f3 : Nat → Nat) (f4 : Nat → Nat) (f5 : Nat → Nat) (f6 : Nat → Nat) : k_l02Are0.run [.one (.su 0 7 0 8 true)] [some (.cols 8 [.fl .f32 f0, .fl .f32 f1, .fl .f32 f2, .fl .f32 f3, .fl .f32 f4, .fl .f32 f5, .fl .f32 f6])] = .leaf (.one (.bo (areB 8 f0 f1 f2 f3 f4 f5 f6)), []) := by kernel_rfl
theorem l02Are_9 (f0 : Nat → Nat) (f1 : Nat → Nat) (f2 : Nat → Nat) (f3 : Nat → Nat) (f4 : Nat → Nat) (f5 : Nat → Nat) (f6 : Nat → Nat) : k_l02Are0.run [.one (.su 0 7 0 9 true)] [some (.cols 9 [.fl .f32 f0, .fl .f32 f1, .fl .f32 f2, .fl .f32 f3, .fl .f32 f4, .fl .f32 f5, .fl .f32 f6])] = .leaf (.one (.bo (areB 9 f0 f1 f2 f3 f4 f5 f6)), []) := by kernel_rfl
theorem l02Are_10 (f0 : Nat → Nat) (f1 : Nat → Nat) (f2 : Nat → Nat) (f3 : Nat → Nat) (f4 : Nat → Nat) (f5 : Nat → Nat) (f6 : Nat → Nat) : k_l02Are0.run [.one (.su 0 7 0 10 true)] [some (.cols 10 [.fl .f32 f0, .fl .f32 f1, .fl .f32 f2, .fl .f32 f3, .fl .f32 f4, .fl .f32 f5, .fl .f32 f6])] = .leaf (.one (.bo (areB 10 f0 f1 f2 f3 f4 f5 f6)), []) := by kernel_rfl
theorem l02Are_11 (f0 : Nat → Nat) (f1 : Nat → Nat) (f2 : Nat → Nat) (f3 : Nat → Nat) (f4 : Nat → Nat) (f5 : Nat → Nat) (f6 : Nat → Nat) : k_l02Are0.run [.one (.su 0 7 0 11 true)] [some (.cols 11 [.fl .f32 f0, .fl .f32 f1, .fl .f32 f2, .fl .f32 f3, .fl .f32 f4, .fl .f32 f5, .fl .f32 f6])] = .leaf (.one (.bo (areB 11 f0 f1 f2 f3 f4 f5 f6)), []) := by kernel_rfl
theorem l02Are_12 (f0 : Nat → Nat) (f1 : Nat → Nat) (f2 : Nat → Nat) (f3 : Nat → Nat) (f4 : Nat → Nat) (f5 : Nat → Nat) (f6 : Nat → Nat) : k_l02Are0.run [.one (.su 0 7 0 12 true)] [some (.cols 12 [.fl .f32 f0, .fl .f32 f1, .fl .f32 f2, .fl .f32 f3, .fl .f32 f4, .fl .f32 f5, .fl .f32 f6])] = .leaf (.one (.bo (areB 12 f0 f1 f2 f3 f4 f5 f6)), []) := by kernel_rfl
theorem l02Are_13 (f0 : Nat → Nat) (f1 : Nat → Nat) (f2 : Nat → Nat) (f3 : Nat → Nat) (f4 : Nat → Nat) (f5 : Nat → Nat) (f6 : Nat → Nat) : k_l02Are0.run [.one (.su 0 7 0 13 true)] [some (.cols 13 [.fl .f32 f0, .fl .f32 f1, .fl .f32 f2, .fl .f32 f3, .fl .f32 f4, .fl .f32 f5, .fl .f32 f6])] = .leaf (.one (.bo (areB 13 f0 f1 f2 f3 f4 f5 f6)), []) := by kernel_rfl
theorem l02Are_14 (f0 : Nat → Nat) (f1 : Nat → Nat) (f2 : Nat → Nat) (f3 : Nat → Nat) (f4 : Nat → Nat) (f5 : Nat → Nat) (f6 : Nat → Nat) : k_l02Are0.run [.one (.su 0 7 0 14 true)] [some (.cols 14 [.fl .f32 f0, .fl .f32 f1, .fl .f32 f2, .fl .f32 f3, .fl .f32 f4, .fl .f32 f5, .fl .f32 f6])] = .leaf (.one (.bo (areB 14 f0 f1 f2 f3 f4 f5 f6)), []) := by kernel_rfl
theorem l02Are_15 (f0 : Nat → Nat) (f1 : Nat → Nat) (f2 : Nat → Nat) (f3 : Nat → Nat) (f4 : Nat → Nat) (f5 : Nat → Nat) (f6 : Nat → Nat) : k_l02Are0.run [.one (.su 0 7 0 15 true)] [some (.cols 15 [.fl .f32 f0, .fl .f32 f1, .fl .f32 f2, .fl .f32 f3, .fl .f32 f4, .fl .f32 f5, .fl .f32 f6])] = .leaf (.one (.bo (areB 15 f0 f1 f2 f3 f4 f5 f6)), []) := by kernel_rfl
theorem l02Are_16 (f0 : Nat → Nat) (f1 : Nat → Nat) (f2 : Nat → Nat) (f3 : Nat → Nat) (f4 : Nat → Nat) (f5 : Nat → Nat) (f6 : Nat → Nat) : k_l02Are0.run [.one (.su 0 7 0 16 true)] [some (.cols 16 [.fl .f32 f0, .fl .f32 f1, .fl .f32 f2, .fl .f32 f3, .fl .f32 f4, .fl .f32 f5, .fl .f32 f6])] = .leaf (.one (.bo (areB 16 f0 f1 f2 f3 f4 f5 f6)), []) := by kernel_rfl
theorem l02Are_more (k : Nat) (f0 : Nat → Nat) (f1 : Nat → Nat) (f2 : Nat → Nat) (f3 : Nat → Nat) (f4 : Nat → Nat) (f5 : Nat → Nat) (f6 : Nat → Nat) : k_l02Are0.run [.one (.su 0 7 0 (k + 17) true)] [some (.cols (k + 17) [.fl .f32 f0, .fl .f32 f1, .fl .f32 f2, .fl .f32 f3, .fl .f32 f4, .fl .f32 f5, .fl .f32 f6])] = .leaf (.one (.tt false), []) := by kernel_rfl

noncomputable def k_l02AreN : Ctr Try.prog := k_l02Are0.re run_are (by
  intro args mem _ Φ hΦ h
  unfold run_are at h
  split at h
  · rename_i n kn m f0 f1 f2 f3 f4 f5 f6 _
    have hm : n ≤ m := of_decide_eq_true h.1
    have h2 : Φ (.one (.bo (areB n f0 f1 f2 f3 f4 f5 f6)), []) := h.2
    refine ⟨[.one (.su 0 7 0 n true)], [some (.cols n [.fl .f32 f0, .fl .f32 f1, .fl .f32 f2, .fl .f32 f3, .fl .f32 f4, .fl .f32 f5, .fl .f32 f6])], fun ρ vals hv => known_su ρ vals hv, ⟨BlLe.cols_le hm, trivial⟩, ?_⟩
    match n, h2 with
    | 0, h2 => rw [l02Are_0]; exact T.h_leaf (hΦ _ _ (le2_bt (by rfl)) h2)
    | 1, h2 => rw [l02Are_1]; exact T.h_leaf h2
    | 2, h2 => rw [l02Are_2]; exact T.h_leaf h2
    | 3, h2 => rw [l02Are_3]; exact T.h_leaf h2
    | 4, h2 => rw [l02Are_4]; exact T.h_leaf h2
    | 5, h2 => rw [l02Are_5]; exact T.h_leaf h2
    | 6, h2 => rw [l02Are_6]; exact T.h_leaf h2
    | 7, h2 => rw [l02Are_7]; exact T.h_leaf h2
    | 8, h2 => rw [l02Are_8]; exact T.h_leaf h2
    | 9, h2 => rw [l02Are_9]; exact T.h_leaf h2
    | 10, h2 => rw [l02Are_10]; exact T.h_leaf h2
    | 11, h2 => rw [l02Are_11]; exact T.h_leaf h2
    | 12, h2 => rw [l02Are_12]; exact T.h_leaf h2
    | 13, h2 => rw [l02Are_13]; exact T.h_leaf h2
    | 14, h2 => rw [l02Are_14]; exact T.h_leaf h2
    | 15, h2 => rw [l02Are_15]; exact T.h_leaf h2
    | 16, h2 => rw [l02Are_16]; exact T.h_leaf h2
    | k + 17, h2 =>
      rw [l02Are_more]
      exact T.h_leaf (hΦ _ _ (le2_any fun ρ v hv => by
        have e : areB (k + 17) f0 f1 f2 f3 f4 f5 f6 = false := by unfold areB; rw [decide_eq_false (by omega)]; rfl
        rw [e]; exact hv) h2)
  · exact h.elim)
noncomputable def k_l02Are : Ctr Try.prog := k_l02AreN.su.own


def run17_l02Are : List AV → Mem → T Res
  | [.one (.su 0 7 0 n kn)], [some (.cols m [.fl .f32 f0, .fl .f32 f1, .fl .f32 f2, .fl .f32 f3, .fl .f32 f4, .fl .f32 f5, .fl .f32 f6])] => .need (decide (n ≤ m)) (.need (decide (16 < n)) (.leaf (.one (.tt false), [])))
  | _, _ => .fail
noncomputable def k_l02Are17 : Ctr Try.prog := (k_l02AreN.to run17_l02Are (by
  intro args mem _
  unfold run17_l02Are
  split
  · rename_i n kn m f0 f1 f2 f3 f4 f5 f6 _
    constructor
    intro Φ hΦ h
    have h16 : 16 < n := of_decide_eq_true h.2.1
    have e : areB n f0 f1 f2 f3 f4 f5 f6 = false := by unfold areB; rw [decide_eq_false (by omega)]; rfl
    show ((T.need (decide (n ≤ m)) (T.leaf (AV.one (SV.bo (areB n f0 f1 f2 f3 f4 f5 f6)), [])))).holds Φ
    exact T.h_need h.1 (T.h_leaf (hΦ _ _ (le2_any fun ρ v hv => by rw [e] at hv; exact hv) h.2.2))
  · exact Weak.fail _)).su.own


end Go.Proofs.Ytjaohecdhnhhbaa
