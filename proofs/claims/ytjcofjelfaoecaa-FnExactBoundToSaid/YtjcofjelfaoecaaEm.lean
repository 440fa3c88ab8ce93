/-
  EnergyOfBodies: both functions in the same words. No conditions.
-/
import Derived.Test.YtjcofjelfaoecaaEn
namespace Go.Proofs.Ytjcofjelfaoecaa
set_option linter.unusedVariables false
set_option linter.unusedSimpArgs false
open Go.RowKit

noncomputable def k_sEn0 : Ctr Try.prog := (mkF0 Try.prog mix [k_l02Are, k_l02Least, k_s_l01VInner, k_s_l01VLess, k_l01Sqrt, k_s_l02Number] 20 Try.f20 (bodyOf Try.f20) Try.func20 (by kernel_rfl) (by kernel_rfl) [0, 1, 4, 5, 6, 7, 8, 9, 10, 11, 19, 23, 49, 57, 79, 198] 100 (by kernel_rfl) (by kernel_rfl) [e1_sum, e2_sum]).mg
noncomputable def k_iEn0 : Ctr Try.prog := (mkF0 Try.prog mix [k_AreBodies, k_i_isCore, k_i_InnerOf, k_i_LessVectors, k_i_softened, k_RootNumber, k_i_told] 21 Try.f21 (bodyOf Try.f21) Try.func21 (by kernel_rfl) (by kernel_rfl) [0, 1, 4, 5, 6, 8, 9, 10, 12, 13, 21, 22, 23, 24, 25, 40, 41, 42, 43, 50, 51, 52, 53, 64, 198] 81 (by kernel_rfl) (by kernel_rfl) [f1_sum, f2_sum]).mg
def eOneV (f3 f4 f5 f6 : Nat → Nat) (j a : Nat) : Nat := fadd .f32 a (fmul .f32 (fmul .f32 1056964608 (f6 j)) (inner (f3 j) (f4 j) (f5 j) (f3 j) (f4 j) (f5 j)))
def eAll (n core : Nat) (f0 f1 f2 f3 f4 f5 f6 : Nat → Nat) : Nat := iter (fun i a => iter (ePair f0 f1 f2 f6 core i) (n - (i + 1)) (i + 1) a) n 0 (iter (eOneV f3 f4 f5 f6) n 0 0)
theorem e_big {n : Nat} {f0 f1 f2 f3 f4 f5 f6 : Nat → Nat} {b : Bool} (h : (bif !areB n f0 f1 f2 f3 f4 f5 f6 then true else b) = false) : n ≤ 16 := by
  cases hA : areB n f0 f1 f2 f3 f4 f5 f6 with
  | true => exact areB_le hA
  | false => rw [hA] at h; cases h
def enC (n core : Nat) (f0 f1 f2 f3 f4 f5 f6 : Nat → Nat) : Bool := bif !areB n f0 f1 f2 f3 f4 f5 f6 then true else !bif fin .f32 core then fge .f32 core 0 else false
def run_En : List AV → Mem → T Res
  | [.one (.su 0 7 0 n false), .one (.fl .f32 core)], [some (.cols m [.fl .f32 f0, .fl .f32 f1, .fl .f32 f2, .fl .f32 f3, .fl .f32 f4, .fl .f32 f5, .fl .f32 f6])] => .need (decide (n ≤ m)) (.leaf (.tup [.one (.fl .f32 (bif enC n core f0 f1 f2 f3 f4 f5 f6 then 0 else bif !fin .f32 (eAll n core f0 f1 f2 f3 f4 f5 f6) then 0 else eAll n core f0 f1 f2 f3 f4 f5 f6)), .one (.bo (bif enC n core f0 f1 f2 f3 f4 f5 f6 then false else !!fin .f32 (eAll n core f0 f1 f2 f3 f4 f5 f6)))], []))
  | _, _ => .fail
theorem f2_eq (c : Cf2) : f2_g c = fun i a => iter (ePair c.f0 c.f1 c.f2 c.f6 c.core i) (c.n - (i + 1)) (i + 1) a := by
  funext i a
  unfold f2_g
  rw [iter_shift (ePair c.f0 c.f1 c.f2 c.f6 c.core i) (i + 1), Nat.zero_add]
theorem sEn_ev (n m core : Nat) (f0 f1 f2 f3 f4 f5 f6 : Nat → Nat) : k_sEn0.run [.one (.su 0 7 0 n false), .one (.fl .f32 core)] [some (.cols m [.fl .f32 f0, .fl .f32 f1, .fl .f32 f2, .fl .f32 f3, .fl .f32 f4, .fl .f32 f5, .fl .f32 f6])] =
    T.need (decide (n ≤ m)) (T.need (bif bif !areB n f0 f1 f2 f3 f4 f5 f6 then true else !bif fin FloatKind.f32 core then fge FloatKind.f32 core (canon FloatKind.f32 0) else false then true else e1_ok { n := n, m := m, f0 := f0, f1 := f1, f2 := f2, f3 := f3, f4 := f4, f5 := f5, f6 := f6, core := core } { i := 0, a := canon FloatKind.f32 0 }) (T.need (bif bif !areB n f0 f1 f2 f3 f4 f5 f6 then true else !bif fin FloatKind.f32 core then fge FloatKind.f32 core (canon FloatKind.f32 0) else false then true else e2_ok { n := n, m := m, f0 := f0, f1 := f1, f2 := f2, f3 := f3, f4 := f4, f5 := f5, f6 := f6, core := core } { i := 0, a := iter (eOne { n := n, m := m, f0 := f0, f1 := f1, f2 := f2, f3 := f3, f4 := f4, f5 := f5, f6 := f6, core := core }) (n - Int.toNat 0) (Int.toNat 0) (canon FloatKind.f32 0) }) (T.leaf (AV.tup [Pt.one (SV.fl FloatKind.f32 (bif bif !areB n f0 f1 f2 f3 f4 f5 f6 then true else !bif fin FloatKind.f32 core then fge FloatKind.f32 core (canon FloatKind.f32 0) else false then canon FloatKind.f32 0 else bif !fin FloatKind.f32 (iter (e2_g { n := n, m := m, f0 := f0, f1 := f1, f2 := f2, f3 := f3, f4 := f4, f5 := f5, f6 := f6, core := core }) (n - Int.toNat 0) (Int.toNat 0) (iter (eOne { n := n, m := m, f0 := f0, f1 := f1, f2 := f2, f3 := f3, f4 := f4, f5 := f5, f6 := f6, core := core }) (n - Int.toNat 0) (Int.toNat 0) (canon FloatKind.f32 0))) then canon FloatKind.f32 0 else iter (e2_g { n := n, m := m, f0 := f0, f1 := f1, f2 := f2, f3 := f3, f4 := f4, f5 := f5, f6 := f6, core := core }) (n - Int.toNat 0) (Int.toNat 0) (iter (eOne { n := n, m := m, f0 := f0, f1 := f1, f2 := f2, f3 := f3, f4 := f4, f5 := f5, f6 := f6, core := core }) (n - Int.toNat 0) (Int.toNat 0) (canon FloatKind.f32 0)))), Pt.one (SV.bo (bif bif !areB n f0 f1 f2 f3 f4 f5 f6 then true else !bif fin FloatKind.f32 core then fge FloatKind.f32 core (canon FloatKind.f32 0) else false then false else !!fin FloatKind.f32 (iter (e2_g { n := n, m := m, f0 := f0, f1 := f1, f2 := f2, f3 := f3, f4 := f4, f5 := f5, f6 := f6, core := core }) (n - Int.toNat 0) (Int.toNat 0) (iter (eOne { n := n, m := m, f0 := f0, f1 := f1, f2 := f2, f3 := f3, f4 := f4, f5 := f5, f6 := f6, core := core }) (n - Int.toNat 0) (Int.toNat 0) (canon FloatKind.f32 0)))))], [])))) := by kernel_rfl
noncomputable def k_sEn : Ctr Try.prog := (k_sEn0.to run_En (by
  intro args mem _
  unfold run_En
  split
  · rename_i n core m f0 f1 f2 f3 f4 f5 f6 _
    rw [sEn_ev]
    constructor
    intro Φ hΦ h
    have hnm : n ≤ m := of_decide_eq_true h.1
    refine T.h_need h.1 (T.h_need (needT fun c => ?_) (T.h_need (needT fun c => ?_) (T.h_leaf ?_)))
    · have hn := e_big c
      simp [e1_ok] <;> omega
    · have hn := e_big c
      simp [e2_ok] <;> omega
    have h2 := h.2
    exact h2
  · exact Weak.fail _)).su.own
theorem iEn_ev (n m core : Nat) (f0 f1 f2 f3 f4 f5 f6 : Nat → Nat) : k_iEn0.run [.one (.su 0 7 0 n false), .one (.fl .f32 core)] [some (.cols m [.fl .f32 f0, .fl .f32 f1, .fl .f32 f2, .fl .f32 f3, .fl .f32 f4, .fl .f32 f5, .fl .f32 f6])] =
    T.need (decide (n ≤ m)) (T.need (bif bif !areB n f0 f1 f2 f3 f4 f5 f6 then true else !bif fin FloatKind.f32 core then fge FloatKind.f32 core (canon FloatKind.f32 0) else false then true else f1_ok { n := n, m := m, f0 := f0, f1 := f1, f2 := f2, f3 := f3, f4 := f4, f5 := f5, f6 := f6, core := core, l := (n : Int), n2 := n } { i := 0, a := canon FloatKind.f32 0 }) (T.need (bif bif !areB n f0 f1 f2 f3 f4 f5 f6 then true else !bif fin FloatKind.f32 core then fge FloatKind.f32 core (canon FloatKind.f32 0) else false then true else f2_ok { n := n, m := m, f0 := f0, f1 := f1, f2 := f2, f3 := f3, f4 := f4, f5 := f5, f6 := f6, core := core, l := (n : Int), n2 := n } { i := 0, a := iter (f1_g { n := n, m := m, f0 := f0, f1 := f1, f2 := f2, f3 := f3, f4 := f4, f5 := f5, f6 := f6, core := core, l := (n : Int), n2 := n }) (n - Int.toNat 0) (Int.toNat 0) (canon FloatKind.f32 0) }) (T.leaf (AV.tup [Pt.one (SV.fl FloatKind.f32 (bif bif !areB n f0 f1 f2 f3 f4 f5 f6 then true else !bif fin FloatKind.f32 core then fge FloatKind.f32 core (canon FloatKind.f32 0) else false then canon FloatKind.f32 0 else bif !fin FloatKind.f32 (iter (f2_g { n := n, m := m, f0 := f0, f1 := f1, f2 := f2, f3 := f3, f4 := f4, f5 := f5, f6 := f6, core := core, l := (n : Int), n2 := n }) (n - Int.toNat 0) (Int.toNat 0) (iter (f1_g { n := n, m := m, f0 := f0, f1 := f1, f2 := f2, f3 := f3, f4 := f4, f5 := f5, f6 := f6, core := core, l := (n : Int), n2 := n }) (n - Int.toNat 0) (Int.toNat 0) (canon FloatKind.f32 0))) then canon FloatKind.f32 0 else iter (f2_g { n := n, m := m, f0 := f0, f1 := f1, f2 := f2, f3 := f3, f4 := f4, f5 := f5, f6 := f6, core := core, l := (n : Int), n2 := n }) (n - Int.toNat 0) (Int.toNat 0) (iter (f1_g { n := n, m := m, f0 := f0, f1 := f1, f2 := f2, f3 := f3, f4 := f4, f5 := f5, f6 := f6, core := core, l := (n : Int), n2 := n }) (n - Int.toNat 0) (Int.toNat 0) (canon FloatKind.f32 0)))), Pt.one (SV.bo (bif bif !areB n f0 f1 f2 f3 f4 f5 f6 then true else !bif fin FloatKind.f32 core then fge FloatKind.f32 core (canon FloatKind.f32 0) else false then false else !!fin FloatKind.f32 (iter (f2_g { n := n, m := m, f0 := f0, f1 := f1, f2 := f2, f3 := f3, f4 := f4, f5 := f5, f6 := f6, core := core, l := (n : Int), n2 := n }) (n - Int.toNat 0) (Int.toNat 0) (iter (f1_g { n := n, m := m, f0 := f0, f1 := f1, f2 := f2, f3 := f3, f4 := f4, f5 := f5, f6 := f6, core := core, l := (n : Int), n2 := n }) (n - Int.toNat 0) (Int.toNat 0) (canon FloatKind.f32 0)))))], [])))) := by kernel_rfl
noncomputable def k_iEn : Ctr Try.prog := (k_iEn0.to run_En (by
  intro args mem _
  unfold run_En
  split
  · rename_i n core m f0 f1 f2 f3 f4 f5 f6 _
    rw [iEn_ev]
    constructor
    intro Φ hΦ h
    have hnm : n ≤ m := of_decide_eq_true h.1
    refine T.h_need h.1 (T.h_need (needT fun c => ?_) (T.h_need (needT fun c => ?_) (T.h_leaf ?_)))
    · have hn := e_big c
      simp [f1_ok] <;> omega
    · have hn := e_big c
      simp [f2_ok] <;> omega
    have h2 := h.2
    rw [f2_eq]
    exact h2
  · exact Weak.fail _)).su.own

end Go.Proofs.Ytjcofjelfaoecaa
