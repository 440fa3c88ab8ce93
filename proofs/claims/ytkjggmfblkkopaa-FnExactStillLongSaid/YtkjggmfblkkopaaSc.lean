/-
  Words for vectors, balls: finite, valid, long. No conditions.
-/
import Derived.Test.YtkjggmfblkkopaaAn
namespace Go.Proofs.Ytkjggmfblkkopaa
set_option linter.unusedVariables false
set_option linter.unusedSimpArgs false
open Go.RowKit

def fv (x y z : Nat) : Bool := fin .f32 x && (fin .f32 y && fin .f32 z)
def pos (x : Nat) : Bool := fin .f32 x && fgt .f32 x 0
def vb (x y z u : Nat) : Bool := pos x && (pos y && (fin .f32 z && fin .f32 u))
def inner (a b c x y z : Nat) : Nat := fadd .f32 (fadd .f32 (fmul .f32 a x) (fmul .f32 b y)) (fmul .f32 c z)
def vlen (x y z : Nat) : Nat := rootV (inner x y z x y z)

theorem bff (a b : Bool) : (bif a then b else false) = (a && b) := by cases a <;> rfl
theorem bnf (a b : Bool) : (bif !a then false else b) = (a && b) := by cases a <;> rfl
theorem btf (a b : Bool) : (bif a then true else b) = (a || b) := by cases a <;> rfl
theorem bnt (a b : Bool) : (bif !a then true else b) = (!a || b) := by cases a <;> rfl
theorem bft (a b : Bool) : (bif a then false else b) = (!a && b) := by cases a <;> rfl

noncomputable def k_s_l01VFinite : Ctr Try.prog := (mkF Try.prog mix [k_l01Finite] 55 Try.f55 (bodyOf Try.f55) Try.func55 (by kernel_rfl) (by kernel_rfl) [0, 1, 2] 16 (by kernel_rfl) (by kernel_rfl)).mg
noncomputable def k_i_areFiniteD1 : Ctr Try.prog := (mkF Try.prog mix [k_IsFinite] 120 Try.f120 (bodyOf Try.f120) Try.func120 (by kernel_rfl) (by kernel_rfl) [0, 2] 6 (by kernel_rfl) (by kernel_rfl)).mg
noncomputable def k_g_slices_IndexFunc_float32_i_areFinite : Ctr Try.prog := (mkF Try.prog mix [k_i_areFiniteD1] 144 Try.f144 (bodyOf Try.f144) Try.func144 (by kernel_rfl) (by kernel_rfl) [0, 1, 4, 5, 7, 8, 9, 16] 19 (by kernel_rfl) (by kernel_rfl)).mg
noncomputable def k_g_slices_ContainsFunc_float32_i_areFinite : Ctr Try.prog := (mkF Try.prog mix [k_g_slices_IndexFunc_float32_i_areFinite, k_i_areFiniteD1] 119 Try.f119 (bodyOf Try.f119) Try.func119 (by kernel_rfl) (by kernel_rfl) [0, 1, 4] 9 (by kernel_rfl) (by kernel_rfl)).mg
noncomputable def k_i_areFinite : Ctr Try.prog := (mkF Try.prog mix [k_i_areFiniteD1, k_g_slices_ContainsFunc_float32_i_areFinite] 63 Try.f63 (bodyOf Try.f63) Try.func63 (by kernel_rfl) (by kernel_rfl) [0, 2] 6 (by kernel_rfl) (by kernel_rfl)).mg
noncomputable def k_i_Vector_numbers : Ctr Try.prog := (mkF Try.prog mix [] 118 Try.f118 (bodyOf Try.f118) Try.func118 (by kernel_rfl) (by kernel_rfl) [0, 1, 2] 10 (by kernel_rfl) (by kernel_rfl)).mg
noncomputable def k_i_isFiniteVector : Ctr Try.prog := (mkF Try.prog mix [k_i_areFinite, k_i_Vector_numbers] 58 Try.f58 (bodyOf Try.f58) Try.func58 (by kernel_rfl) (by kernel_rfl) [0, 1, 2] 6 (by kernel_rfl) (by kernel_rfl)).mg
noncomputable def k_s_l02Above : Ctr Try.prog := (mkF Try.prog mix [k_l01Finite] 114 Try.f114 (bodyOf Try.f114) Try.func114 (by kernel_rfl) (by kernel_rfl) [0, 2] 9 (by kernel_rfl) (by kernel_rfl)).mg
noncomputable def k_s_l06Ball : Ctr Try.prog := (mkF Try.prog mix [k_l01Finite, k_s_l02Above] 54 Try.f54 (bodyOf Try.f54) Try.func54 (by kernel_rfl) (by kernel_rfl) [0, 2] 29 (by kernel_rfl) (by kernel_rfl)).mg
noncomputable def k_i_aLength : Ctr Try.prog := (mkF Try.prog mix [k_IsFinite] 95 Try.f95 (bodyOf Try.f95) Try.func95 (by kernel_rfl) (by kernel_rfl) [0, 2] 9 (by kernel_rfl) (by kernel_rfl)).mg
noncomputable def k_i_areLengths : Ctr Try.prog := (mkF Try.prog mix [k_i_aLength] 117 Try.f117 (bodyOf Try.f117) Try.func117 (by kernel_rfl) (by kernel_rfl) [0, 2, 4, 5, 6, 7, 8, 13] 15 (by kernel_rfl) (by kernel_rfl)).mg
noncomputable def k_i_ValidBall : Ctr Try.prog := (mkF Try.prog mix [k_i_areFinite, k_i_areLengths] 57 Try.f57 (bodyOf Try.f57) Try.func57 (by kernel_rfl) (by kernel_rfl) [0, 1, 2] 17 (by kernel_rfl) (by kernel_rfl)).mg
theorem sfv_b (b0 b1 b2 : Bool) : (bif b0 then bif b1 then b2 else false else false) = (b0 && (b1 && b2)) := by
  cases b0 <;> cases b1 <;> cases b2 <;> rfl
noncomputable def run_sfv : List AV → Mem → T Res
  | [.agg [.fl .f32 x, .fl .f32 y, .fl .f32 z]], _ => .leaf (.one (.bo (fv x y z)), [])
  | _, _ => .fail
theorem sfv_ev (x y z : Nat) (mem : Mem) : k_s_l01VFinite.run [.agg [.fl .f32 x, .fl .f32 y, .fl .f32 z]] mem = .leaf (.one (.bo (bif fin FloatKind.f32 x then bif fin FloatKind.f32 y then fin FloatKind.f32 z else false else false)), []) := by kernel_rfl
noncomputable def k_sfv : Ctr Try.prog := k_s_l01VFinite.to run_sfv (by
  intro args mem _
  unfold run_sfv
  split
  · rw [sfv_ev]
    exact Weak.of_eq (by rw [sfv_b]; rfl)
  · exact Weak.fail _)
theorem ifv_b (b0 b1 b2 : Bool) : (!decide (0 ≤ bif !b0 then 0 else bif !b1 then IntKind.i64.wrap (0 + 1) else bif !b2 then IntKind.i64.wrap (IntKind.i64.wrap (0 + 1) + 1) else -1)) = (b0 && (b1 && b2)) := by
  cases b0 <;> cases b1 <;> cases b2 <;> rfl
noncomputable def run_ifv : List AV → Mem → T Res
  | [.agg [.fl .f32 x, .fl .f32 y, .fl .f32 z]], _ => .leaf (.one (.bo (fv x y z)), [])
  | _, _ => .fail
theorem ifv_ev (x y z : Nat) (mem : Mem) : k_i_isFiniteVector.run [.agg [.fl .f32 x, .fl .f32 y, .fl .f32 z]] mem = .leaf (.one (.bo (!decide (0 ≤ bif !fin FloatKind.f32 x then 0 else bif !fin FloatKind.f32 y then IntKind.i64.wrap (0 + 1) else bif !fin FloatKind.f32 z then IntKind.i64.wrap (IntKind.i64.wrap (0 + 1) + 1) else -1))), []) := by kernel_rfl
noncomputable def k_ifv : Ctr Try.prog := k_i_isFiniteVector.to run_ifv (by
  intro args mem _
  unfold run_ifv
  split
  · rw [ifv_ev]
    exact Weak.of_eq (by rw [ifv_b]; rfl)
  · exact Weak.fail _)
theorem svb_b (b0 b1 b2 b3 b4 b5 : Bool) : (bif bif b0 then b1 else false then bif bif b2 then b3 else false then bif b4 then b5 else false else false else false) = ((b0 && b1) && ((b2 && b3) && (b4 && b5))) := by
  cases b0 <;> cases b1 <;> cases b2 <;> cases b3 <;> cases b4 <;> cases b5 <;> rfl
noncomputable def run_svb : List AV → Mem → T Res
  | [.one (.ptr 0 4 0 0)], [some (.box [.fl .f32 x, .fl .f32 y, .fl .f32 z, .fl .f32 u])] => .leaf (.one (.bo (vb x y z u)), [])
  | _, _ => .fail
theorem svb_ev (x y z u : Nat) : k_s_l06Ball.run [.one (.ptr 0 4 0 0)] [some (.box [.fl .f32 x, .fl .f32 y, .fl .f32 z, .fl .f32 u])] = .leaf (.one (.bo (bif bif fin FloatKind.f32 x then fgt FloatKind.f32 x (0) else false then bif bif fin FloatKind.f32 y then fgt FloatKind.f32 y (0) else false then bif fin FloatKind.f32 z then fin FloatKind.f32 u else false else false else false)), []) := by kernel_rfl
noncomputable def k_svb0 : Ctr Try.prog := k_s_l06Ball.to run_svb (by
  intro args mem _
  unfold run_svb
  split
  · rw [svb_ev]
    exact Weak.of_eq (by rw [svb_b]; rfl)
  · exact Weak.fail _)
theorem ivb_b (b0 b1 b2 b3 b4 b5 : Bool) : (bif bif !bif b0 then b1 else false then false else !!bif b2 then b3 else false then !decide (0 ≤ bif !b4 then 0 else bif !b5 then IntKind.i64.wrap (0 + 1) else -1) else false) = ((b0 && b1) && ((b2 && b3) && (b4 && b5))) := by
  cases b0 <;> cases b1 <;> cases b2 <;> cases b3 <;> cases b4 <;> cases b5 <;> rfl
noncomputable def run_ivb : List AV → Mem → T Res
  | [.agg [.fl .f32 x, .fl .f32 y, .fl .f32 z, .fl .f32 u]], _ => .leaf (.one (.bo (vb x y z u)), [])
  | _, _ => .fail
theorem ivb_ev (x y z u : Nat) (mem : Mem) : k_i_ValidBall.run [.agg [.fl .f32 x, .fl .f32 y, .fl .f32 z, .fl .f32 u]] mem = .leaf (.one (.bo (bif bif !bif fin FloatKind.f32 x then fgt FloatKind.f32 x (0) else false then false else !!bif fin FloatKind.f32 y then fgt FloatKind.f32 y (0) else false then !decide (0 ≤ bif !fin FloatKind.f32 z then 0 else bif !fin FloatKind.f32 u then IntKind.i64.wrap (0 + 1) else -1) else false)), []) := by kernel_rfl
noncomputable def k_ivb : Ctr Try.prog := k_i_ValidBall.to run_ivb (by
  intro args mem _
  unfold run_ivb
  split
  · rw [ivb_ev]
    exact Weak.of_eq (by rw [ivb_b]; rfl)
  · exact Weak.fail _)
noncomputable def k_svb : Ctr Try.prog := k_svb0.own
noncomputable def k_sinner0 : Ctr Try.prog := mkC Try.prog mix [] 81 Try.f81 (bodyOf Try.f81) Try.func81 (by kernel_rfl) (by kernel_rfl) []
noncomputable def run_sinner : List AV → Mem → T Res
  | [.agg [.fl .f32 a, .fl .f32 b, .fl .f32 c], .agg [.fl .f32 x, .fl .f32 y, .fl .f32 z]], _ => .leaf (.one (.fl .f32 (inner a b c x y z)), [])
  | _, _ => .fail
theorem sinner_ev (a b c x y z : Nat) (mem : Mem) : k_sinner0.run [.agg [.fl .f32 a, .fl .f32 b, .fl .f32 c], .agg [.fl .f32 x, .fl .f32 y, .fl .f32 z]] mem = .leaf (.one (.fl .f32 (inner a b c x y z)), []) := by kernel_rfl
noncomputable def k_sinner : Ctr Try.prog := k_sinner0.to run_sinner (by
  intro args mem _
  unfold run_sinner
  split
  · exact Weak.of_eq (sinner_ev _ _ _ _ _ _ _)
  · exact Weak.fail _)
noncomputable def k_iinner0 : Ctr Try.prog := mkC Try.prog mix [] 61 Try.f61 (bodyOf Try.f61) Try.func61 (by kernel_rfl) (by kernel_rfl) []
noncomputable def run_iinner : List AV → Mem → T Res
  | [.agg [.fl .f32 a, .fl .f32 b, .fl .f32 c], .agg [.fl .f32 x, .fl .f32 y, .fl .f32 z]], _ => .leaf (.one (.fl .f32 (inner a b c x y z)), [])
  | _, _ => .fail
theorem iinner_ev (a b c x y z : Nat) (mem : Mem) : k_iinner0.run [.agg [.fl .f32 a, .fl .f32 b, .fl .f32 c], .agg [.fl .f32 x, .fl .f32 y, .fl .f32 z]] mem = .leaf (.one (.fl .f32 (inner a b c x y z)), []) := by kernel_rfl
noncomputable def k_iinner : Ctr Try.prog := k_iinner0.to run_iinner (by
  intro args mem _
  unfold run_iinner
  split
  · exact Weak.of_eq (iinner_ev _ _ _ _ _ _ _)
  · exact Weak.fail _)
noncomputable def k_svlen0 : Ctr Try.prog := mkC Try.prog mix [k_sinner, k_l01Sqrt] 79 Try.f79 (bodyOf Try.f79) Try.func79 (by kernel_rfl) (by kernel_rfl) []
noncomputable def run_svlen : List AV → Mem → T Res
  | [.agg [.fl .f32 x, .fl .f32 y, .fl .f32 z]], _ => .leaf (.one (.fl .f32 (vlen x y z)), [])
  | _, _ => .fail
theorem svlen_ev (x y z : Nat) (mem : Mem) : k_svlen0.run [.agg [.fl .f32 x, .fl .f32 y, .fl .f32 z]] mem = .leaf (.one (.fl .f32 (vlen x y z)), []) := by kernel_rfl
noncomputable def k_svlen : Ctr Try.prog := k_svlen0.to run_svlen (by
  intro args mem _
  unfold run_svlen
  split
  · exact Weak.of_eq (svlen_ev _ _ _ _)
  · exact Weak.fail _)
noncomputable def k_ivlen0 : Ctr Try.prog := mkC Try.prog mix [k_iinner, k_RootNumber] 59 Try.f59 (bodyOf Try.f59) Try.func59 (by kernel_rfl) (by kernel_rfl) []
noncomputable def run_ivlen : List AV → Mem → T Res
  | [.agg [.fl .f32 x, .fl .f32 y, .fl .f32 z]], _ => .leaf (.one (.fl .f32 (vlen x y z)), [])
  | _, _ => .fail
theorem ivlen_ev (x y z : Nat) (mem : Mem) : k_ivlen0.run [.agg [.fl .f32 x, .fl .f32 y, .fl .f32 z]] mem = .leaf (.one (.fl .f32 (vlen x y z)), []) := by kernel_rfl
noncomputable def k_ivlen : Ctr Try.prog := k_ivlen0.to run_ivlen (by
  intro args mem _
  unfold run_ivlen
  split
  · exact Weak.of_eq (ivlen_ev _ _ _ _)
  · exact Weak.fail _)

end Go.Proofs.Ytkjggmfblkkopaa
