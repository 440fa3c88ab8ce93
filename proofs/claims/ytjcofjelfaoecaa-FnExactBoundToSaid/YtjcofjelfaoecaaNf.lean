/-
  NearestBodies: both functions in the same words. No conditions.
-/
import Derived.Test.YtjcofjelfaoecaaNe
import Derived.Test.YtjcofjelfaoecaaEm
namespace Go.Proofs.Ytjcofjelfaoecaa
set_option linter.unusedVariables false
set_option linter.unusedSimpArgs false
open Go.RowKit

noncomputable def k_sNe1 : Ctr Try.prog := (mkF0 Try.prog mix [k_s_l02Apart, k_l01Finite] 71 Try.f71 (bodyOf Try.f71) Try.func71 (by kernel_rfl) (by kernel_rfl) [0, 2, 3, 4, 5, 6, 7, 8, 9, 10, 11, 15, 23, 43, 198] 56 (by kernel_rfl) (by kernel_rfl) [n1_sum]).mg
noncomputable def k_iNe1 : Ctr Try.prog := (mkF0 Try.prog mix [k_i_SizeOfVector, k_i_LessVectors] 72 Try.f72 (bodyOf Try.f72) Try.func72 (by kernel_rfl) (by kernel_rfl) [0, 2, 3, 4, 5, 6, 7, 8, 9, 10, 12, 13, 14, 21, 42, 198] 50 (by kernel_rfl) (by kernel_rfl) [m1_sum]).mg
theorem bif_same {α : Type} (c : Bool) (x : α) : (bif c then x else x) = x := by cases c <;> rfl
def run_sNe2 : List AV → Mem → T Res
  | [.one (.su 0 7 0 n false)], [some (.cols m [.fl .f32 f0, .fl .f32 f1, .fl .f32 f2, .fl .f32 f3, .fl .f32 f4, .fl .f32 f5, .fl .f32 f6])] => .need (decide (n ≤ m ∧ n ≤ 1099511627776)) (.leaf (.tup [.one (.num .i64 (nAll n f0 f1 f2).1), .one (.num .i64 (nAll n f0 f1 f2).2.1), .one (.fl .f32 (nAll n f0 f1 f2).2.2), .one (.bo (bif decide (0 ≤ (nAll n f0 f1 f2).1) then fin .f32 (nAll n f0 f1 f2).2.2 else false))], []))
  | _, _ => .fail
def run_iNe2 : List AV → Mem → T Res
  | [.one (.su 0 7 0 n false)], [some (.cols m [.fl .f32 f0, .fl .f32 f1, .fl .f32 f2, .fl .f32 f3, .fl .f32 f4, .fl .f32 f5, .fl .f32 f6])] => .need (decide (n ≤ m ∧ n ≤ 1099511627776)) (.leaf (.tup [.one (.num .i64 (nAll n f0 f1 f2).1), .one (.num .i64 (nAll n f0 f1 f2).2.1), .one (.fl .f32 (nAll n f0 f1 f2).2.2)], []))
  | _, _ => .fail
theorem sNe1_ev (n m : Nat) (f0 f1 f2 f3 f4 f5 f6 : Nat → Nat) : k_sNe1.run [.one (.su 0 7 0 n false)] [some (.cols m [.fl .f32 f0, .fl .f32 f1, .fl .f32 f2, .fl .f32 f3, .fl .f32 f4, .fl .f32 f5, .fl .f32 f6])] =
    T.need (n1_ok { n := n, m := m, f0 := f0, f1 := f1, f2 := f2, f3 := f3, f4 := f4, f5 := f5, f6 := f6 } { i := 0, a := -1, b := -1, d := canon FloatKind.f32 0 }) (T.leaf (AV.tup [Pt.one (SV.num IntKind.i64 (bif decide (0 ≤ (iter (n1_g { n := n, m := m, f0 := f0, f1 := f1, f2 := f2, f3 := f3, f4 := f4, f5 := f5, f6 := f6 }) (n - Int.toNat 0) (Int.toNat 0) (-1, -1, canon FloatKind.f32 0)).1) then (iter (n1_g { n := n, m := m, f0 := f0, f1 := f1, f2 := f2, f3 := f3, f4 := f4, f5 := f5, f6 := f6 }) (n - Int.toNat 0) (Int.toNat 0) (-1, -1, canon FloatKind.f32 0)).1 else (iter (n1_g { n := n, m := m, f0 := f0, f1 := f1, f2 := f2, f3 := f3, f4 := f4, f5 := f5, f6 := f6 }) (n - Int.toNat 0) (Int.toNat 0) (-1, -1, canon FloatKind.f32 0)).1)), Pt.one (SV.num IntKind.i64 (bif decide (0 ≤ (iter (n1_g { n := n, m := m, f0 := f0, f1 := f1, f2 := f2, f3 := f3, f4 := f4, f5 := f5, f6 := f6 }) (n - Int.toNat 0) (Int.toNat 0) (-1, -1, canon FloatKind.f32 0)).1) then (iter (n1_g { n := n, m := m, f0 := f0, f1 := f1, f2 := f2, f3 := f3, f4 := f4, f5 := f5, f6 := f6 }) (n - Int.toNat 0) (Int.toNat 0) (-1, -1, canon FloatKind.f32 0)).2.1 else (iter (n1_g { n := n, m := m, f0 := f0, f1 := f1, f2 := f2, f3 := f3, f4 := f4, f5 := f5, f6 := f6 }) (n - Int.toNat 0) (Int.toNat 0) (-1, -1, canon FloatKind.f32 0)).2.1)), Pt.one (SV.fl FloatKind.f32 (bif decide (0 ≤ (iter (n1_g { n := n, m := m, f0 := f0, f1 := f1, f2 := f2, f3 := f3, f4 := f4, f5 := f5, f6 := f6 }) (n - Int.toNat 0) (Int.toNat 0) (-1, -1, canon FloatKind.f32 0)).1) then (iter (n1_g { n := n, m := m, f0 := f0, f1 := f1, f2 := f2, f3 := f3, f4 := f4, f5 := f5, f6 := f6 }) (n - Int.toNat 0) (Int.toNat 0) (-1, -1, canon FloatKind.f32 0)).2.2 else (iter (n1_g { n := n, m := m, f0 := f0, f1 := f1, f2 := f2, f3 := f3, f4 := f4, f5 := f5, f6 := f6 }) (n - Int.toNat 0) (Int.toNat 0) (-1, -1, canon FloatKind.f32 0)).2.2)), Pt.one (SV.bo (bif decide (0 ≤ (iter (n1_g { n := n, m := m, f0 := f0, f1 := f1, f2 := f2, f3 := f3, f4 := f4, f5 := f5, f6 := f6 }) (n - Int.toNat 0) (Int.toNat 0) (-1, -1, canon FloatKind.f32 0)).1) then fin FloatKind.f32 (iter (n1_g { n := n, m := m, f0 := f0, f1 := f1, f2 := f2, f3 := f3, f4 := f4, f5 := f5, f6 := f6 }) (n - Int.toNat 0) (Int.toNat 0) (-1, -1, canon FloatKind.f32 0)).2.2 else false))], [])) := by kernel_rfl
noncomputable def k_sNe2 : Ctr Try.prog := (k_sNe1.to run_sNe2 (by
  intro args mem _
  unfold run_sNe2
  split
  · rename_i n m f0 f1 f2 f3 f4 f5 f6 _
    rw [sNe1_ev]
    constructor
    intro Φ hΦ h
    have hnm := of_decide_eq_true h.1
    have h2 := h.2
    refine T.h_need (by simp [n1_ok] <;> omega) (T.h_leaf ?_)
    rw [bif_same, bif_same, bif_same]
    exact h2
  · exact Weak.fail _)).su.own
theorem iNe1_ev (n m : Nat) (f0 f1 f2 f3 f4 f5 f6 : Nat → Nat) : k_iNe1.run [.one (.su 0 7 0 n false)] [some (.cols m [.fl .f32 f0, .fl .f32 f1, .fl .f32 f2, .fl .f32 f3, .fl .f32 f4, .fl .f32 f5, .fl .f32 f6])] =
    T.need (m1_ok { n := n, m := m, f0 := f0, f1 := f1, f2 := f2, f3 := f3, f4 := f4, f5 := f5, f6 := f6, l := (n : Int) } { i := 0, a := -1, b := -1, d := canon FloatKind.f32 0 }) (T.leaf (AV.tup [Pt.one (SV.num IntKind.i64 (iter (m1_g { n := n, m := m, f0 := f0, f1 := f1, f2 := f2, f3 := f3, f4 := f4, f5 := f5, f6 := f6, l := (n : Int) }) (n - Int.toNat 0) (Int.toNat 0) (-1, -1, canon FloatKind.f32 0)).1), Pt.one (SV.num IntKind.i64 (iter (m1_g { n := n, m := m, f0 := f0, f1 := f1, f2 := f2, f3 := f3, f4 := f4, f5 := f5, f6 := f6, l := (n : Int) }) (n - Int.toNat 0) (Int.toNat 0) (-1, -1, canon FloatKind.f32 0)).2.1), Pt.one (SV.fl FloatKind.f32 (iter (m1_g { n := n, m := m, f0 := f0, f1 := f1, f2 := f2, f3 := f3, f4 := f4, f5 := f5, f6 := f6, l := (n : Int) }) (n - Int.toNat 0) (Int.toNat 0) (-1, -1, canon FloatKind.f32 0)).2.2)], [])) := by kernel_rfl
noncomputable def k_iNe2 : Ctr Try.prog := (k_iNe1.to run_iNe2 (by
  intro args mem _
  unfold run_iNe2
  split
  · rename_i n m f0 f1 f2 f3 f4 f5 f6 _
    rw [iNe1_ev]
    constructor
    intro Φ hΦ h
    have hnm := of_decide_eq_true h.1
    have h2 := h.2
    refine T.h_need (by simp [m1_ok] <;> omega) (T.h_leaf ?_)
    exact h2
  · exact Weak.fail _)).su.own
noncomputable def k_sNe3 : Ctr Try.prog := (mkF0 Try.prog mix [k_l02Are, k_sNe2] 23 Try.f23 (bodyOf Try.f23) Try.func23 (by kernel_rfl) (by kernel_rfl) [0, 2, 3, 4, 5, 6, 7, 8, 9, 12, 21, 198] 25 (by kernel_rfl) (by kernel_rfl) []).mg
noncomputable def k_iNe3 : Ctr Try.prog := (mkF0 Try.prog mix [k_AreBodies, k_IsFinite, k_iNe2] 24 Try.f24 (bodyOf Try.f24) Try.func24 (by kernel_rfl) (by kernel_rfl) [0, 2, 3, 4, 5, 6, 7, 8, 16, 25, 198] 29 (by kernel_rfl) (by kernel_rfl) []).mg
theorem iter_inv {A : Type} {g : Nat → A → A} (P : A → Prop) (hg : ∀ j a, P a → P (g j a)) : ∀ (c s : Nat) (a : A), P a → P (iter g c s a)
  | 0, _, _, h => h
  | c + 1, s, a, h => iter_inv P hg c (s + 1) _ (hg s a h)
theorem nPair_pos (f0 f1 f2 : Nat → Nat) (i k : Nat) (a : Int × Int × Nat) : 0 ≤ (nPair f0 f1 f2 i k a).1 := by
  unfold nPair nUp
  by_cases h : a.1 < 0
  · rw [decide_eq_true h]; exact Int.natCast_nonneg i
  · rw [decide_eq_false h]
    show 0 ≤ (bif flt .f32 (apart f0 f1 f2 i k) a.2.2 then (i : Int) else a.1)
    cases flt .f32 (apart f0 f1 f2 i k) a.2.2 with
    | true => exact Int.natCast_nonneg i
    | false => show 0 ≤ a.1; omega
theorem nAll_pos (n : Nat) (f0 f1 f2 : Nat → Nat) : decide ((n : Int) < 2) = !decide (0 ≤ (nAll n f0 f1 f2).1) := by
  rcases (by omega : n = 0 ∨ n = 1 ∨ 2 ≤ n) with h | h | h
  · subst h; rfl
  · subst h; rfl
  · have hp : 0 ≤ (nAll n f0 f1 f2).1 := by
      obtain ⟨k, rfl⟩ : ∃ k, n = k + 2 := ⟨n - 2, by omega⟩
      unfold nAll
      show 0 ≤ (iter _ (k + 1) 1 (iter (nPair f0 f1 f2 0) (k + 2 - (0 + 1)) (0 + 1) (-1, -1, 0))).1
      refine iter_inv (fun a : Int × Int × Nat => 0 ≤ a.1) (fun j a ha => ?_) _ _ _ ?_
      · exact iter_inv (fun a : Int × Int × Nat => 0 ≤ a.1) (fun j' a _ => nPair_pos f0 f1 f2 j j' a) _ _ _ ha
      · rw [show k + 2 - (0 + 1) = k + 1 by omega]
        show 0 ≤ (iter (nPair f0 f1 f2 0) k (0 + 1 + 1) (nPair f0 f1 f2 0 (0 + 1) (-1, -1, 0))).1
        exact iter_inv (fun a : Int × Int × Nat => 0 ≤ a.1) (fun j' a _ => nPair_pos f0 f1 f2 0 j' a) _ _ _ (nPair_pos f0 f1 f2 0 (0 + 1) _)
    rw [decide_eq_true hp, decide_eq_false (by omega)]; rfl
theorem ne_same {α : Type} (A P F : Bool) (x y : α) : (bif bif !A then true else !P then x else bif !F then x else y) = (bif !A then x else bif !bif P then F else false then x else y) := by
  cases A <;> cases P <;> cases F <;> rfl
theorem ne_same2 (A P F : Bool) : (bif bif !A then true else !P then false else !!F) = (bif !A then false else !!bif P then F else false) := by
  cases A <;> cases P <;> cases F <;> rfl
def run_Ne : List AV → Mem → T Res
  | [.one (.su 0 7 0 n false)], [some (.cols m [.fl .f32 f0, .fl .f32 f1, .fl .f32 f2, .fl .f32 f3, .fl .f32 f4, .fl .f32 f5, .fl .f32 f6])] => .need (decide (n ≤ m)) (T.leaf (AV.tup [Pt.one (SV.num IntKind.i64 (bif !areB n f0 f1 f2 f3 f4 f5 f6 then 0 else bif !bif decide (0 ≤ (nAll n f0 f1 f2).1) then fin FloatKind.f32 (nAll n f0 f1 f2).2.2 else false then 0 else (nAll n f0 f1 f2).1)), Pt.one (SV.num IntKind.i64 (bif !areB n f0 f1 f2 f3 f4 f5 f6 then 0 else bif !bif decide (0 ≤ (nAll n f0 f1 f2).1) then fin FloatKind.f32 (nAll n f0 f1 f2).2.2 else false then 0 else (nAll n f0 f1 f2).2.1)), Pt.one (SV.fl FloatKind.f32 (bif !areB n f0 f1 f2 f3 f4 f5 f6 then 0 else bif !bif decide (0 ≤ (nAll n f0 f1 f2).1) then fin FloatKind.f32 (nAll n f0 f1 f2).2.2 else false then 0 else (nAll n f0 f1 f2).2.2)), Pt.one (SV.bo (bif !areB n f0 f1 f2 f3 f4 f5 f6 then false else !!bif decide (0 ≤ (nAll n f0 f1 f2).1) then fin FloatKind.f32 (nAll n f0 f1 f2).2.2 else false))], []))
  | _, _ => .fail
theorem sNe3_ev (n m : Nat) (f0 f1 f2 f3 f4 f5 f6 : Nat → Nat) : k_sNe3.run [.one (.su 0 7 0 n false)] [some (.cols m [.fl .f32 f0, .fl .f32 f1, .fl .f32 f2, .fl .f32 f3, .fl .f32 f4, .fl .f32 f5, .fl .f32 f6])] =
    T.need (decide (n ≤ m)) (T.need (bif !areB n f0 f1 f2 f3 f4 f5 f6 then true else decide (n ≤ m ∧ n ≤ 1099511627776)) (T.leaf (AV.tup [Pt.one (SV.num IntKind.i64 (bif !areB n f0 f1 f2 f3 f4 f5 f6 then 0 else bif !bif decide (0 ≤ (nAll n f0 f1 f2).1) then fin FloatKind.f32 (nAll n f0 f1 f2).2.2 else false then 0 else (nAll n f0 f1 f2).1)), Pt.one (SV.num IntKind.i64 (bif !areB n f0 f1 f2 f3 f4 f5 f6 then 0 else bif !bif decide (0 ≤ (nAll n f0 f1 f2).1) then fin FloatKind.f32 (nAll n f0 f1 f2).2.2 else false then 0 else (nAll n f0 f1 f2).2.1)), Pt.one (SV.fl FloatKind.f32 (bif !areB n f0 f1 f2 f3 f4 f5 f6 then 0 else bif !bif decide (0 ≤ (nAll n f0 f1 f2).1) then fin FloatKind.f32 (nAll n f0 f1 f2).2.2 else false then 0 else (nAll n f0 f1 f2).2.2)), Pt.one (SV.bo (bif !areB n f0 f1 f2 f3 f4 f5 f6 then false else !!bif decide (0 ≤ (nAll n f0 f1 f2).1) then fin FloatKind.f32 (nAll n f0 f1 f2).2.2 else false))], []))) := by kernel_rfl
noncomputable def k_sNe : Ctr Try.prog := (k_sNe3.to run_Ne (by
  intro args mem _
  unfold run_Ne
  split
  · rename_i n m f0 f1 f2 f3 f4 f5 f6 _
    rw [sNe3_ev]
    constructor
    intro Φ hΦ h
    have hnm := of_decide_eq_true h.1
    have h2 := h.2
    have hb : areB n f0 f1 f2 f3 f4 f5 f6 = true → n ≤ 16 := fun hA => areB_le hA
    refine T.h_need h.1 (T.h_need (needT fun hA => decide_eq_true ?_) (T.h_leaf ?_))
    · have := hb (by simpa using hA)
      exact ⟨hnm, by omega⟩
    exact h2
  · exact Weak.fail _)).su.own
theorem iNe3_ev (n m : Nat) (f0 f1 f2 f3 f4 f5 f6 : Nat → Nat) : k_iNe3.run [.one (.su 0 7 0 n false)] [some (.cols m [.fl .f32 f0, .fl .f32 f1, .fl .f32 f2, .fl .f32 f3, .fl .f32 f4, .fl .f32 f5, .fl .f32 f6])] =
    T.need (decide (n ≤ m)) (T.need (bif bif !areB n f0 f1 f2 f3 f4 f5 f6 then true else decide ((n : Int) < 2) then true else decide (n ≤ m ∧ n ≤ 1099511627776)) (T.leaf (AV.tup [Pt.one (SV.num IntKind.i64 (bif bif !areB n f0 f1 f2 f3 f4 f5 f6 then true else decide ((n : Int) < 2) then 0 else bif !fin FloatKind.f32 (nAll n f0 f1 f2).2.2 then 0 else (nAll n f0 f1 f2).1)), Pt.one (SV.num IntKind.i64 (bif bif !areB n f0 f1 f2 f3 f4 f5 f6 then true else decide ((n : Int) < 2) then 0 else bif !fin FloatKind.f32 (nAll n f0 f1 f2).2.2 then 0 else (nAll n f0 f1 f2).2.1)), Pt.one (SV.fl FloatKind.f32 (bif bif !areB n f0 f1 f2 f3 f4 f5 f6 then true else decide ((n : Int) < 2) then 0 else bif !fin FloatKind.f32 (nAll n f0 f1 f2).2.2 then 0 else (nAll n f0 f1 f2).2.2)), Pt.one (SV.bo (bif bif !areB n f0 f1 f2 f3 f4 f5 f6 then true else decide ((n : Int) < 2) then false else !!fin FloatKind.f32 (nAll n f0 f1 f2).2.2))], []))) := by kernel_rfl
noncomputable def k_iNe : Ctr Try.prog := (k_iNe3.to run_Ne (by
  intro args mem _
  unfold run_Ne
  split
  · rename_i n m f0 f1 f2 f3 f4 f5 f6 _
    rw [iNe3_ev]
    constructor
    intro Φ hΦ h
    have hnm := of_decide_eq_true h.1
    have h2 := h.2
    have hb : areB n f0 f1 f2 f3 f4 f5 f6 = true → n ≤ 16 := fun hA => areB_le hA
    refine T.h_need h.1 (T.h_need (needT fun hA => decide_eq_true ?_) (T.h_leaf ?_))
    · have := hb (by cases hA2 : areB n f0 f1 f2 f3 f4 f5 f6 with | true => rfl | false => rw [hA2] at hA; cases hA)
      exact ⟨hnm, by omega⟩
    rw [nAll_pos n f0 f1 f2, ne_same, ne_same, ne_same, ne_same2]
    exact h2
  · exact Weak.fail _)).su.own

end Go.Proofs.Ytjcofjelfaoecaa
