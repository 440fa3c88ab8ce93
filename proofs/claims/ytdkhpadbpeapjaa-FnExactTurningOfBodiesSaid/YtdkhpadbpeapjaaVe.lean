/-
  Contracts of the small functions on vectors, in short words. No conditions.
-/
import Derived.Test.YtdkhpadbpeapjaaAi
import Derived.Test.YtdkhpadbpeapjaaSq
namespace Go.Proofs.Ytdkhpadbpeapjaa
set_option linter.unusedVariables false
set_option linter.unusedSimpArgs false
open Go.RowKit

noncomputable def k_s_l01VAdd0 : Ctr Try.prog := (mkC Try.prog mix [] 55 Try.f55 (bodyOf Try.f55) Try.func55 (by kernel_rfl) (by kernel_rfl) []).mg
def run_s_l01VAdd : List AV → Mem → T Res
  | [.agg [.fl .f32 x0, .fl .f32 x1, .fl .f32 x2], .agg [.fl .f32 x3, .fl .f32 x4, .fl .f32 x5]], _ => (T.leaf (AV.agg
      [SV.fl FloatKind.f32 (fadd FloatKind.f32 x0 x3), SV.fl FloatKind.f32 (fadd FloatKind.f32 x1 x4),
        SV.fl FloatKind.f32 (fadd FloatKind.f32 x2 x5)],
    []))
  | _, _ => .fail
theorem s_l01VAdd_cev (x0 : Nat) (x1 : Nat) (x2 : Nat) (x3 : Nat) (x4 : Nat) (x5 : Nat) (mem : Mem) : k_s_l01VAdd0.run [.agg [.fl .f32 x0, .fl .f32 x1, .fl .f32 x2], .agg [.fl .f32 x3, .fl .f32 x4, .fl .f32 x5]] mem = (T.leaf (AV.agg
      [SV.fl FloatKind.f32 (fadd FloatKind.f32 x0 x3), SV.fl FloatKind.f32 (fadd FloatKind.f32 x1 x4),
        SV.fl FloatKind.f32 (fadd FloatKind.f32 x2 x5)],
    [])) := by kernel_rfl
noncomputable def k_s_l01VAdd : Ctr Try.prog := k_s_l01VAdd0.to run_s_l01VAdd (by
  intro args mem _
  unfold run_s_l01VAdd
  split
  · exact Weak.of_eq (s_l01VAdd_cev _ _ _ _ _ _ _)
  · exact Weak.fail _)
noncomputable def k_s_l01VLess0 : Ctr Try.prog := (mkC Try.prog mix [] 76 Try.f76 (bodyOf Try.f76) Try.func76 (by kernel_rfl) (by kernel_rfl) []).mg
def run_s_l01VLess : List AV → Mem → T Res
  | [.agg [.fl .f32 x0, .fl .f32 x1, .fl .f32 x2], .agg [.fl .f32 x3, .fl .f32 x4, .fl .f32 x5]], _ => (T.leaf (AV.agg
      [SV.fl FloatKind.f32 (fsub FloatKind.f32 x0 x3), SV.fl FloatKind.f32 (fsub FloatKind.f32 x1 x4),
        SV.fl FloatKind.f32 (fsub FloatKind.f32 x2 x5)],
    []))
  | _, _ => .fail
theorem s_l01VLess_cev (x0 : Nat) (x1 : Nat) (x2 : Nat) (x3 : Nat) (x4 : Nat) (x5 : Nat) (mem : Mem) : k_s_l01VLess0.run [.agg [.fl .f32 x0, .fl .f32 x1, .fl .f32 x2], .agg [.fl .f32 x3, .fl .f32 x4, .fl .f32 x5]] mem = (T.leaf (AV.agg
      [SV.fl FloatKind.f32 (fsub FloatKind.f32 x0 x3), SV.fl FloatKind.f32 (fsub FloatKind.f32 x1 x4),
        SV.fl FloatKind.f32 (fsub FloatKind.f32 x2 x5)],
    [])) := by kernel_rfl
noncomputable def k_s_l01VLess : Ctr Try.prog := k_s_l01VLess0.to run_s_l01VLess (by
  intro args mem _
  unfold run_s_l01VLess
  split
  · exact Weak.of_eq (s_l01VLess_cev _ _ _ _ _ _ _)
  · exact Weak.fail _)
noncomputable def k_s_l01VScale0 : Ctr Try.prog := (mkC Try.prog mix [] 56 Try.f56 (bodyOf Try.f56) Try.func56 (by kernel_rfl) (by kernel_rfl) []).mg
def run_s_l01VScale : List AV → Mem → T Res
  | [.agg [.fl .f32 x0, .fl .f32 x1, .fl .f32 x2], .one (.fl .f32 x3)], _ => (T.leaf (AV.agg
      [SV.fl FloatKind.f32 (fmul FloatKind.f32 x0 x3), SV.fl FloatKind.f32 (fmul FloatKind.f32 x1 x3),
        SV.fl FloatKind.f32 (fmul FloatKind.f32 x2 x3)],
    []))
  | _, _ => .fail
theorem s_l01VScale_cev (x0 : Nat) (x1 : Nat) (x2 : Nat) (x3 : Nat) (mem : Mem) : k_s_l01VScale0.run [.agg [.fl .f32 x0, .fl .f32 x1, .fl .f32 x2], .one (.fl .f32 x3)] mem = (T.leaf (AV.agg
      [SV.fl FloatKind.f32 (fmul FloatKind.f32 x0 x3), SV.fl FloatKind.f32 (fmul FloatKind.f32 x1 x3),
        SV.fl FloatKind.f32 (fmul FloatKind.f32 x2 x3)],
    [])) := by kernel_rfl
noncomputable def k_s_l01VScale : Ctr Try.prog := k_s_l01VScale0.to run_s_l01VScale (by
  intro args mem _
  unfold run_s_l01VScale
  split
  · exact Weak.of_eq (s_l01VScale_cev _ _ _ _ _)
  · exact Weak.fail _)
noncomputable def k_s_l01VInner0 : Ctr Try.prog := (mkC Try.prog mix [] 77 Try.f77 (bodyOf Try.f77) Try.func77 (by kernel_rfl) (by kernel_rfl) []).mg
def run_s_l01VInner : List AV → Mem → T Res
  | [.agg [.fl .f32 x0, .fl .f32 x1, .fl .f32 x2], .agg [.fl .f32 x3, .fl .f32 x4, .fl .f32 x5]], _ => (T.leaf (AV.one
      (SV.fl FloatKind.f32
        (fadd FloatKind.f32 (fadd FloatKind.f32 (fmul FloatKind.f32 x0 x3) (fmul FloatKind.f32 x1 x4))
          (fmul FloatKind.f32 x2 x5))),
    []))
  | _, _ => .fail
theorem s_l01VInner_cev (x0 : Nat) (x1 : Nat) (x2 : Nat) (x3 : Nat) (x4 : Nat) (x5 : Nat) (mem : Mem) : k_s_l01VInner0.run [.agg [.fl .f32 x0, .fl .f32 x1, .fl .f32 x2], .agg [.fl .f32 x3, .fl .f32 x4, .fl .f32 x5]] mem = (T.leaf (AV.one
      (SV.fl FloatKind.f32
        (fadd FloatKind.f32 (fadd FloatKind.f32 (fmul FloatKind.f32 x0 x3) (fmul FloatKind.f32 x1 x4))
          (fmul FloatKind.f32 x2 x5))),
    [])) := by kernel_rfl
noncomputable def k_s_l01VInner : Ctr Try.prog := k_s_l01VInner0.to run_s_l01VInner (by
  intro args mem _
  unfold run_s_l01VInner
  split
  · exact Weak.of_eq (s_l01VInner_cev _ _ _ _ _ _ _)
  · exact Weak.fail _)
noncomputable def k_s_l01VCross0 : Ctr Try.prog := (mkC Try.prog mix [] 62 Try.f62 (bodyOf Try.f62) Try.func62 (by kernel_rfl) (by kernel_rfl) []).mg
def run_s_l01VCross : List AV → Mem → T Res
  | [.agg [.fl .f32 x0, .fl .f32 x1, .fl .f32 x2], .agg [.fl .f32 x3, .fl .f32 x4, .fl .f32 x5]], _ => (T.leaf (AV.agg
      [SV.fl FloatKind.f32 (fsub FloatKind.f32 (fmul FloatKind.f32 x1 x5) (fmul FloatKind.f32 x2 x4)),
        SV.fl FloatKind.f32 (fsub FloatKind.f32 (fmul FloatKind.f32 x2 x3) (fmul FloatKind.f32 x0 x5)),
        SV.fl FloatKind.f32 (fsub FloatKind.f32 (fmul FloatKind.f32 x0 x4) (fmul FloatKind.f32 x1 x3))],
    []))
  | _, _ => .fail
theorem s_l01VCross_cev (x0 : Nat) (x1 : Nat) (x2 : Nat) (x3 : Nat) (x4 : Nat) (x5 : Nat) (mem : Mem) : k_s_l01VCross0.run [.agg [.fl .f32 x0, .fl .f32 x1, .fl .f32 x2], .agg [.fl .f32 x3, .fl .f32 x4, .fl .f32 x5]] mem = (T.leaf (AV.agg
      [SV.fl FloatKind.f32 (fsub FloatKind.f32 (fmul FloatKind.f32 x1 x5) (fmul FloatKind.f32 x2 x4)),
        SV.fl FloatKind.f32 (fsub FloatKind.f32 (fmul FloatKind.f32 x2 x3) (fmul FloatKind.f32 x0 x5)),
        SV.fl FloatKind.f32 (fsub FloatKind.f32 (fmul FloatKind.f32 x0 x4) (fmul FloatKind.f32 x1 x3))],
    [])) := by kernel_rfl
noncomputable def k_s_l01VCross : Ctr Try.prog := k_s_l01VCross0.to run_s_l01VCross (by
  intro args mem _
  unfold run_s_l01VCross
  split
  · exact Weak.of_eq (s_l01VCross_cev _ _ _ _ _ _ _)
  · exact Weak.fail _)
noncomputable def k_s_l01VLong0 : Ctr Try.prog := (mkC Try.prog mix [k_s_l01VInner, k_l01Sqrt] 107 Try.f107 (bodyOf Try.f107) Try.func107 (by kernel_rfl) (by kernel_rfl) []).mg
def run_s_l01VLong : List AV → Mem → T Res
  | [.agg [.fl .f32 x0, .fl .f32 x1, .fl .f32 x2]], _ => (T.leaf (AV.one
      (SV.fl FloatKind.f32
        (rootV
          (fadd FloatKind.f32 (fadd FloatKind.f32 (fmul FloatKind.f32 x0 x0) (fmul FloatKind.f32 x1 x1))
            (fmul FloatKind.f32 x2 x2)))),
    []))
  | _, _ => .fail
theorem s_l01VLong_cev (x0 : Nat) (x1 : Nat) (x2 : Nat) (mem : Mem) : k_s_l01VLong0.run [.agg [.fl .f32 x0, .fl .f32 x1, .fl .f32 x2]] mem = (T.leaf (AV.one
      (SV.fl FloatKind.f32
        (rootV
          (fadd FloatKind.f32 (fadd FloatKind.f32 (fmul FloatKind.f32 x0 x0) (fmul FloatKind.f32 x1 x1))
            (fmul FloatKind.f32 x2 x2)))),
    [])) := by kernel_rfl
noncomputable def k_s_l01VLong : Ctr Try.prog := k_s_l01VLong0.to run_s_l01VLong (by
  intro args mem _
  unfold run_s_l01VLong
  split
  · exact Weak.of_eq (s_l01VLong_cev _ _ _ _)
  · exact Weak.fail _)
noncomputable def k_s_l02Apart0 : Ctr Try.prog := (mkC Try.prog mix [k_s_l01VLess, k_s_l01VLong] 78 Try.f78 (bodyOf Try.f78) Try.func78 (by kernel_rfl) (by kernel_rfl) []).mg
def run_s_l02Apart : List AV → Mem → T Res
  | [.agg [.fl .f32 x0, .fl .f32 x1, .fl .f32 x2], .agg [.fl .f32 x3, .fl .f32 x4, .fl .f32 x5]], _ => (T.leaf (AV.one
      (SV.fl FloatKind.f32
        (rootV
          (fadd FloatKind.f32
            (fadd FloatKind.f32 (fmul FloatKind.f32 (fsub FloatKind.f32 x0 x3) (fsub FloatKind.f32 x0 x3))
              (fmul FloatKind.f32 (fsub FloatKind.f32 x1 x4) (fsub FloatKind.f32 x1 x4)))
            (fmul FloatKind.f32 (fsub FloatKind.f32 x2 x5) (fsub FloatKind.f32 x2 x5))))),
    []))
  | _, _ => .fail
theorem s_l02Apart_cev (x0 : Nat) (x1 : Nat) (x2 : Nat) (x3 : Nat) (x4 : Nat) (x5 : Nat) (mem : Mem) : k_s_l02Apart0.run [.agg [.fl .f32 x0, .fl .f32 x1, .fl .f32 x2], .agg [.fl .f32 x3, .fl .f32 x4, .fl .f32 x5]] mem = (T.leaf (AV.one
      (SV.fl FloatKind.f32
        (rootV
          (fadd FloatKind.f32
            (fadd FloatKind.f32 (fmul FloatKind.f32 (fsub FloatKind.f32 x0 x3) (fsub FloatKind.f32 x0 x3))
              (fmul FloatKind.f32 (fsub FloatKind.f32 x1 x4) (fsub FloatKind.f32 x1 x4)))
            (fmul FloatKind.f32 (fsub FloatKind.f32 x2 x5) (fsub FloatKind.f32 x2 x5))))),
    [])) := by kernel_rfl
noncomputable def k_s_l02Apart : Ctr Try.prog := k_s_l02Apart0.to run_s_l02Apart (by
  intro args mem _
  unfold run_s_l02Apart
  split
  · exact Weak.of_eq (s_l02Apart_cev _ _ _ _ _ _ _)
  · exact Weak.fail _)
noncomputable def k_s_l02Minus0 : Ctr Try.prog := (mkC Try.prog mix [] 72 Try.f72 (bodyOf Try.f72) Try.func72 (by kernel_rfl) (by kernel_rfl) []).mg
def run_s_l02Minus : List AV → Mem → T Res
  | [.agg [.fl .f32 x0, .fl .f32 x1, .fl .f32 x2]], _ => (T.leaf (AV.agg
      [SV.fl FloatKind.f32 (fneg FloatKind.f32 x0), SV.fl FloatKind.f32 (fneg FloatKind.f32 x1),
        SV.fl FloatKind.f32 (fneg FloatKind.f32 x2)],
    []))
  | _, _ => .fail
theorem s_l02Minus_cev (x0 : Nat) (x1 : Nat) (x2 : Nat) (mem : Mem) : k_s_l02Minus0.run [.agg [.fl .f32 x0, .fl .f32 x1, .fl .f32 x2]] mem = (T.leaf (AV.agg
      [SV.fl FloatKind.f32 (fneg FloatKind.f32 x0), SV.fl FloatKind.f32 (fneg FloatKind.f32 x1),
        SV.fl FloatKind.f32 (fneg FloatKind.f32 x2)],
    [])) := by kernel_rfl
noncomputable def k_s_l02Minus : Ctr Try.prog := k_s_l02Minus0.to run_s_l02Minus (by
  intro args mem _
  unfold run_s_l02Minus
  split
  · exact Weak.of_eq (s_l02Minus_cev _ _ _ _)
  · exact Weak.fail _)
noncomputable def k_i_AddVectors0 : Ctr Try.prog := (mkC Try.prog mix [] 88 Try.f88 (bodyOf Try.f88) Try.func88 (by kernel_rfl) (by kernel_rfl) []).mg
def run_i_AddVectors : List AV → Mem → T Res
  | [.agg [.fl .f32 x0, .fl .f32 x1, .fl .f32 x2], .agg [.fl .f32 x3, .fl .f32 x4, .fl .f32 x5]], _ => (T.leaf (AV.agg
      [SV.fl FloatKind.f32 (fadd FloatKind.f32 x0 x3), SV.fl FloatKind.f32 (fadd FloatKind.f32 x1 x4),
        SV.fl FloatKind.f32 (fadd FloatKind.f32 x2 x5)],
    []))
  | _, _ => .fail
theorem i_AddVectors_cev (x0 : Nat) (x1 : Nat) (x2 : Nat) (x3 : Nat) (x4 : Nat) (x5 : Nat) (mem : Mem) : k_i_AddVectors0.run [.agg [.fl .f32 x0, .fl .f32 x1, .fl .f32 x2], .agg [.fl .f32 x3, .fl .f32 x4, .fl .f32 x5]] mem = (T.leaf (AV.agg
      [SV.fl FloatKind.f32 (fadd FloatKind.f32 x0 x3), SV.fl FloatKind.f32 (fadd FloatKind.f32 x1 x4),
        SV.fl FloatKind.f32 (fadd FloatKind.f32 x2 x5)],
    [])) := by kernel_rfl
noncomputable def k_i_AddVectors : Ctr Try.prog := k_i_AddVectors0.to run_i_AddVectors (by
  intro args mem _
  unfold run_i_AddVectors
  split
  · exact Weak.of_eq (i_AddVectors_cev _ _ _ _ _ _ _)
  · exact Weak.fail _)
noncomputable def k_i_LessVectors0 : Ctr Try.prog := (mkC Try.prog mix [] 81 Try.f81 (bodyOf Try.f81) Try.func81 (by kernel_rfl) (by kernel_rfl) []).mg
def run_i_LessVectors : List AV → Mem → T Res
  | [.agg [.fl .f32 x0, .fl .f32 x1, .fl .f32 x2], .agg [.fl .f32 x3, .fl .f32 x4, .fl .f32 x5]], _ => (T.leaf (AV.agg
      [SV.fl FloatKind.f32 (fsub FloatKind.f32 x0 x3), SV.fl FloatKind.f32 (fsub FloatKind.f32 x1 x4),
        SV.fl FloatKind.f32 (fsub FloatKind.f32 x2 x5)],
    []))
  | _, _ => .fail
theorem i_LessVectors_cev (x0 : Nat) (x1 : Nat) (x2 : Nat) (x3 : Nat) (x4 : Nat) (x5 : Nat) (mem : Mem) : k_i_LessVectors0.run [.agg [.fl .f32 x0, .fl .f32 x1, .fl .f32 x2], .agg [.fl .f32 x3, .fl .f32 x4, .fl .f32 x5]] mem = (T.leaf (AV.agg
      [SV.fl FloatKind.f32 (fsub FloatKind.f32 x0 x3), SV.fl FloatKind.f32 (fsub FloatKind.f32 x1 x4),
        SV.fl FloatKind.f32 (fsub FloatKind.f32 x2 x5)],
    [])) := by kernel_rfl
noncomputable def k_i_LessVectors : Ctr Try.prog := k_i_LessVectors0.to run_i_LessVectors (by
  intro args mem _
  unfold run_i_LessVectors
  split
  · exact Weak.of_eq (i_LessVectors_cev _ _ _ _ _ _ _)
  · exact Weak.fail _)
noncomputable def k_i_ScaleVector0 : Ctr Try.prog := (mkC Try.prog mix [] 61 Try.f61 (bodyOf Try.f61) Try.func61 (by kernel_rfl) (by kernel_rfl) []).mg
def run_i_ScaleVector : List AV → Mem → T Res
  | [.agg [.fl .f32 x0, .fl .f32 x1, .fl .f32 x2], .one (.fl .f32 x3)], _ => (T.leaf (AV.agg
      [SV.fl FloatKind.f32 (fmul FloatKind.f32 x0 x3), SV.fl FloatKind.f32 (fmul FloatKind.f32 x1 x3),
        SV.fl FloatKind.f32 (fmul FloatKind.f32 x2 x3)],
    []))
  | _, _ => .fail
theorem i_ScaleVector_cev (x0 : Nat) (x1 : Nat) (x2 : Nat) (x3 : Nat) (mem : Mem) : k_i_ScaleVector0.run [.agg [.fl .f32 x0, .fl .f32 x1, .fl .f32 x2], .one (.fl .f32 x3)] mem = (T.leaf (AV.agg
      [SV.fl FloatKind.f32 (fmul FloatKind.f32 x0 x3), SV.fl FloatKind.f32 (fmul FloatKind.f32 x1 x3),
        SV.fl FloatKind.f32 (fmul FloatKind.f32 x2 x3)],
    [])) := by kernel_rfl
noncomputable def k_i_ScaleVector : Ctr Try.prog := k_i_ScaleVector0.to run_i_ScaleVector (by
  intro args mem _
  unfold run_i_ScaleVector
  split
  · exact Weak.of_eq (i_ScaleVector_cev _ _ _ _ _)
  · exact Weak.fail _)
noncomputable def k_i_InnerOf0 : Ctr Try.prog := (mkC Try.prog mix [] 82 Try.f82 (bodyOf Try.f82) Try.func82 (by kernel_rfl) (by kernel_rfl) []).mg
def run_i_InnerOf : List AV → Mem → T Res
  | [.agg [.fl .f32 x0, .fl .f32 x1, .fl .f32 x2], .agg [.fl .f32 x3, .fl .f32 x4, .fl .f32 x5]], _ => (T.leaf (AV.one
      (SV.fl FloatKind.f32
        (fadd FloatKind.f32 (fadd FloatKind.f32 (fmul FloatKind.f32 x0 x3) (fmul FloatKind.f32 x1 x4))
          (fmul FloatKind.f32 x2 x5))),
    []))
  | _, _ => .fail
theorem i_InnerOf_cev (x0 : Nat) (x1 : Nat) (x2 : Nat) (x3 : Nat) (x4 : Nat) (x5 : Nat) (mem : Mem) : k_i_InnerOf0.run [.agg [.fl .f32 x0, .fl .f32 x1, .fl .f32 x2], .agg [.fl .f32 x3, .fl .f32 x4, .fl .f32 x5]] mem = (T.leaf (AV.one
      (SV.fl FloatKind.f32
        (fadd FloatKind.f32 (fadd FloatKind.f32 (fmul FloatKind.f32 x0 x3) (fmul FloatKind.f32 x1 x4))
          (fmul FloatKind.f32 x2 x5))),
    [])) := by kernel_rfl
noncomputable def k_i_InnerOf : Ctr Try.prog := k_i_InnerOf0.to run_i_InnerOf (by
  intro args mem _
  unfold run_i_InnerOf
  split
  · exact Weak.of_eq (i_InnerOf_cev _ _ _ _ _ _ _)
  · exact Weak.fail _)
noncomputable def k_i_CrossOf0 : Ctr Try.prog := (mkC Try.prog mix [] 64 Try.f64 (bodyOf Try.f64) Try.func64 (by kernel_rfl) (by kernel_rfl) []).mg
def run_i_CrossOf : List AV → Mem → T Res
  | [.agg [.fl .f32 x0, .fl .f32 x1, .fl .f32 x2], .agg [.fl .f32 x3, .fl .f32 x4, .fl .f32 x5]], _ => (T.leaf (AV.agg
      [SV.fl FloatKind.f32 (fsub FloatKind.f32 (fmul FloatKind.f32 x1 x5) (fmul FloatKind.f32 x2 x4)),
        SV.fl FloatKind.f32 (fsub FloatKind.f32 (fmul FloatKind.f32 x2 x3) (fmul FloatKind.f32 x0 x5)),
        SV.fl FloatKind.f32 (fsub FloatKind.f32 (fmul FloatKind.f32 x0 x4) (fmul FloatKind.f32 x1 x3))],
    []))
  | _, _ => .fail
theorem i_CrossOf_cev (x0 : Nat) (x1 : Nat) (x2 : Nat) (x3 : Nat) (x4 : Nat) (x5 : Nat) (mem : Mem) : k_i_CrossOf0.run [.agg [.fl .f32 x0, .fl .f32 x1, .fl .f32 x2], .agg [.fl .f32 x3, .fl .f32 x4, .fl .f32 x5]] mem = (T.leaf (AV.agg
      [SV.fl FloatKind.f32 (fsub FloatKind.f32 (fmul FloatKind.f32 x1 x5) (fmul FloatKind.f32 x2 x4)),
        SV.fl FloatKind.f32 (fsub FloatKind.f32 (fmul FloatKind.f32 x2 x3) (fmul FloatKind.f32 x0 x5)),
        SV.fl FloatKind.f32 (fsub FloatKind.f32 (fmul FloatKind.f32 x0 x4) (fmul FloatKind.f32 x1 x3))],
    [])) := by kernel_rfl
noncomputable def k_i_CrossOf : Ctr Try.prog := k_i_CrossOf0.to run_i_CrossOf (by
  intro args mem _
  unfold run_i_CrossOf
  split
  · exact Weak.of_eq (i_CrossOf_cev _ _ _ _ _ _ _)
  · exact Weak.fail _)
noncomputable def k_i_SizeOfVector0 : Ctr Try.prog := (mkC Try.prog mix [k_i_InnerOf, k_RootNumber] 83 Try.f83 (bodyOf Try.f83) Try.func83 (by kernel_rfl) (by kernel_rfl) []).mg
def run_i_SizeOfVector : List AV → Mem → T Res
  | [.agg [.fl .f32 x0, .fl .f32 x1, .fl .f32 x2]], _ => (T.leaf (AV.one
      (SV.fl FloatKind.f32
        (rootV
          (fadd FloatKind.f32 (fadd FloatKind.f32 (fmul FloatKind.f32 x0 x0) (fmul FloatKind.f32 x1 x1))
            (fmul FloatKind.f32 x2 x2)))),
    []))
  | _, _ => .fail
theorem i_SizeOfVector_cev (x0 : Nat) (x1 : Nat) (x2 : Nat) (mem : Mem) : k_i_SizeOfVector0.run [.agg [.fl .f32 x0, .fl .f32 x1, .fl .f32 x2]] mem = (T.leaf (AV.one
      (SV.fl FloatKind.f32
        (rootV
          (fadd FloatKind.f32 (fadd FloatKind.f32 (fmul FloatKind.f32 x0 x0) (fmul FloatKind.f32 x1 x1))
            (fmul FloatKind.f32 x2 x2)))),
    [])) := by kernel_rfl
noncomputable def k_i_SizeOfVector : Ctr Try.prog := k_i_SizeOfVector0.to run_i_SizeOfVector (by
  intro args mem _
  unfold run_i_SizeOfVector
  split
  · exact Weak.of_eq (i_SizeOfVector_cev _ _ _ _)
  · exact Weak.fail _)
noncomputable def k_i_softened0 : Ctr Try.prog := (mkC Try.prog mix [k_i_InnerOf] 93 Try.f93 (bodyOf Try.f93) Try.func93 (by kernel_rfl) (by kernel_rfl) []).mg
def run_i_softened : List AV → Mem → T Res
  | [.agg [.fl .f32 x0, .fl .f32 x1, .fl .f32 x2], .one (.fl .f32 x3)], _ => (T.leaf (AV.one
      (SV.fl FloatKind.f32
        (fadd FloatKind.f32
          (fadd FloatKind.f32 (fadd FloatKind.f32 (fmul FloatKind.f32 x0 x0) (fmul FloatKind.f32 x1 x1))
            (fmul FloatKind.f32 x2 x2))
          (fmul FloatKind.f32 x3 x3))),
    []))
  | _, _ => .fail
theorem i_softened_cev (x0 : Nat) (x1 : Nat) (x2 : Nat) (x3 : Nat) (mem : Mem) : k_i_softened0.run [.agg [.fl .f32 x0, .fl .f32 x1, .fl .f32 x2], .one (.fl .f32 x3)] mem = (T.leaf (AV.one
      (SV.fl FloatKind.f32
        (fadd FloatKind.f32
          (fadd FloatKind.f32 (fadd FloatKind.f32 (fmul FloatKind.f32 x0 x0) (fmul FloatKind.f32 x1 x1))
            (fmul FloatKind.f32 x2 x2))
          (fmul FloatKind.f32 x3 x3))),
    [])) := by kernel_rfl
noncomputable def k_i_softened : Ctr Try.prog := k_i_softened0.to run_i_softened (by
  intro args mem _
  unfold run_i_softened
  split
  · exact Weak.of_eq (i_softened_cev _ _ _ _ _)
  · exact Weak.fail _)
noncomputable def k_i_Vector_opposite0 : Ctr Try.prog := (mkC Try.prog mix [] 74 Try.f74 (bodyOf Try.f74) Try.func74 (by kernel_rfl) (by kernel_rfl) []).mg
def run_i_Vector_opposite : List AV → Mem → T Res
  | [.agg [.fl .f32 x0, .fl .f32 x1, .fl .f32 x2]], _ => (T.leaf (AV.agg
      [SV.fl FloatKind.f32 (fneg FloatKind.f32 x0), SV.fl FloatKind.f32 (fneg FloatKind.f32 x1),
        SV.fl FloatKind.f32 (fneg FloatKind.f32 x2)],
    []))
  | _, _ => .fail
theorem i_Vector_opposite_cev (x0 : Nat) (x1 : Nat) (x2 : Nat) (mem : Mem) : k_i_Vector_opposite0.run [.agg [.fl .f32 x0, .fl .f32 x1, .fl .f32 x2]] mem = (T.leaf (AV.agg
      [SV.fl FloatKind.f32 (fneg FloatKind.f32 x0), SV.fl FloatKind.f32 (fneg FloatKind.f32 x1),
        SV.fl FloatKind.f32 (fneg FloatKind.f32 x2)],
    [])) := by kernel_rfl
noncomputable def k_i_Vector_opposite : Ctr Try.prog := k_i_Vector_opposite0.to run_i_Vector_opposite (by
  intro args mem _
  unfold run_i_Vector_opposite
  split
  · exact Weak.of_eq (i_Vector_opposite_cev _ _ _ _)
  · exact Weak.fail _)
noncomputable def k_i_MomentumOfBodiesD10 : Ctr Try.prog := (mkC Try.prog mix [k_i_ScaleVector] 60 Try.f60 (bodyOf Try.f60) Try.func60 (by kernel_rfl) (by kernel_rfl) []).mg
def run_i_MomentumOfBodiesD1 : List AV → Mem → T Res
  | [.agg [.fl .f32 x0, .fl .f32 x1, .fl .f32 x2, .fl .f32 x3, .fl .f32 x4, .fl .f32 x5, .fl .f32 x6]], _ => (T.leaf (AV.agg
      [SV.fl FloatKind.f32 (fmul FloatKind.f32 x3 x6), SV.fl FloatKind.f32 (fmul FloatKind.f32 x4 x6),
        SV.fl FloatKind.f32 (fmul FloatKind.f32 x5 x6)],
    []))
  | _, _ => .fail
theorem i_MomentumOfBodiesD1_cev (x0 : Nat) (x1 : Nat) (x2 : Nat) (x3 : Nat) (x4 : Nat) (x5 : Nat) (x6 : Nat) (mem : Mem) : k_i_MomentumOfBodiesD10.run [.agg [.fl .f32 x0, .fl .f32 x1, .fl .f32 x2, .fl .f32 x3, .fl .f32 x4, .fl .f32 x5, .fl .f32 x6]] mem = (T.leaf (AV.agg
      [SV.fl FloatKind.f32 (fmul FloatKind.f32 x3 x6), SV.fl FloatKind.f32 (fmul FloatKind.f32 x4 x6),
        SV.fl FloatKind.f32 (fmul FloatKind.f32 x5 x6)],
    [])) := by kernel_rfl
noncomputable def k_i_MomentumOfBodiesD1 : Ctr Try.prog := k_i_MomentumOfBodiesD10.to run_i_MomentumOfBodiesD1 (by
  intro args mem _
  unfold run_i_MomentumOfBodiesD1
  split
  · exact Weak.of_eq (i_MomentumOfBodiesD1_cev _ _ _ _ _ _ _ _)
  · exact Weak.fail _)
noncomputable def k_i_TurningOfBodiesD10 : Ctr Try.prog := (mkC Try.prog mix [k_i_ScaleVector, k_i_CrossOf] 63 Try.f63 (bodyOf Try.f63) Try.func63 (by kernel_rfl) (by kernel_rfl) []).mg
def run_i_TurningOfBodiesD1 : List AV → Mem → T Res
  | [.agg [.fl .f32 x0, .fl .f32 x1, .fl .f32 x2, .fl .f32 x3, .fl .f32 x4, .fl .f32 x5, .fl .f32 x6]], _ => (T.leaf (AV.agg
      [SV.fl FloatKind.f32
          (fmul FloatKind.f32 (fsub FloatKind.f32 (fmul FloatKind.f32 x1 x5) (fmul FloatKind.f32 x2 x4)) x6),
        SV.fl FloatKind.f32
          (fmul FloatKind.f32 (fsub FloatKind.f32 (fmul FloatKind.f32 x2 x3) (fmul FloatKind.f32 x0 x5)) x6),
        SV.fl FloatKind.f32
          (fmul FloatKind.f32 (fsub FloatKind.f32 (fmul FloatKind.f32 x0 x4) (fmul FloatKind.f32 x1 x3)) x6)],
    []))
  | _, _ => .fail
theorem i_TurningOfBodiesD1_cev (x0 : Nat) (x1 : Nat) (x2 : Nat) (x3 : Nat) (x4 : Nat) (x5 : Nat) (x6 : Nat) (mem : Mem) : k_i_TurningOfBodiesD10.run [.agg [.fl .f32 x0, .fl .f32 x1, .fl .f32 x2, .fl .f32 x3, .fl .f32 x4, .fl .f32 x5, .fl .f32 x6]] mem = (T.leaf (AV.agg
      [SV.fl FloatKind.f32
          (fmul FloatKind.f32 (fsub FloatKind.f32 (fmul FloatKind.f32 x1 x5) (fmul FloatKind.f32 x2 x4)) x6),
        SV.fl FloatKind.f32
          (fmul FloatKind.f32 (fsub FloatKind.f32 (fmul FloatKind.f32 x2 x3) (fmul FloatKind.f32 x0 x5)) x6),
        SV.fl FloatKind.f32
          (fmul FloatKind.f32 (fsub FloatKind.f32 (fmul FloatKind.f32 x0 x4) (fmul FloatKind.f32 x1 x3)) x6)],
    [])) := by kernel_rfl
noncomputable def k_i_TurningOfBodiesD1 : Ctr Try.prog := k_i_TurningOfBodiesD10.to run_i_TurningOfBodiesD1 (by
  intro args mem _
  unfold run_i_TurningOfBodiesD1
  split
  · exact Weak.of_eq (i_TurningOfBodiesD1_cev _ _ _ _ _ _ _ _)
  · exact Weak.fail _)
noncomputable def k_i_CentreOfBodiesD10 : Ctr Try.prog := (mkC Try.prog mix [k_i_ScaleVector] 69 Try.f69 (bodyOf Try.f69) Try.func69 (by kernel_rfl) (by kernel_rfl) []).mg
def run_i_CentreOfBodiesD1 : List AV → Mem → T Res
  | [.agg [.fl .f32 x0, .fl .f32 x1, .fl .f32 x2, .fl .f32 x3, .fl .f32 x4, .fl .f32 x5, .fl .f32 x6]], _ => (T.leaf (AV.agg
      [SV.fl FloatKind.f32 (fmul FloatKind.f32 x0 x6), SV.fl FloatKind.f32 (fmul FloatKind.f32 x1 x6),
        SV.fl FloatKind.f32 (fmul FloatKind.f32 x2 x6)],
    []))
  | _, _ => .fail
theorem i_CentreOfBodiesD1_cev (x0 : Nat) (x1 : Nat) (x2 : Nat) (x3 : Nat) (x4 : Nat) (x5 : Nat) (x6 : Nat) (mem : Mem) : k_i_CentreOfBodiesD10.run [.agg [.fl .f32 x0, .fl .f32 x1, .fl .f32 x2, .fl .f32 x3, .fl .f32 x4, .fl .f32 x5, .fl .f32 x6]] mem = (T.leaf (AV.agg
      [SV.fl FloatKind.f32 (fmul FloatKind.f32 x0 x6), SV.fl FloatKind.f32 (fmul FloatKind.f32 x1 x6),
        SV.fl FloatKind.f32 (fmul FloatKind.f32 x2 x6)],
    [])) := by kernel_rfl
noncomputable def k_i_CentreOfBodiesD1 : Ctr Try.prog := k_i_CentreOfBodiesD10.to run_i_CentreOfBodiesD1 (by
  intro args mem _
  unfold run_i_CentreOfBodiesD1
  split
  · exact Weak.of_eq (i_CentreOfBodiesD1_cev _ _ _ _ _ _ _ _)
  · exact Weak.fail _)
noncomputable def k_i_CentreOfBodiesD20 : Ctr Try.prog := (mkC Try.prog mix [k_i_ScaleVector] 70 Try.f70 (bodyOf Try.f70) Try.func70 (by kernel_rfl) (by kernel_rfl) []).mg
def run_i_CentreOfBodiesD2 : List AV → Mem → T Res
  | [.agg [.fl .f32 x0, .fl .f32 x1, .fl .f32 x2, .fl .f32 x3, .fl .f32 x4, .fl .f32 x5, .fl .f32 x6]], _ => (T.leaf (AV.agg
      [SV.fl FloatKind.f32 (fmul FloatKind.f32 x3 x6), SV.fl FloatKind.f32 (fmul FloatKind.f32 x4 x6),
        SV.fl FloatKind.f32 (fmul FloatKind.f32 x5 x6)],
    []))
  | _, _ => .fail
theorem i_CentreOfBodiesD2_cev (x0 : Nat) (x1 : Nat) (x2 : Nat) (x3 : Nat) (x4 : Nat) (x5 : Nat) (x6 : Nat) (mem : Mem) : k_i_CentreOfBodiesD20.run [.agg [.fl .f32 x0, .fl .f32 x1, .fl .f32 x2, .fl .f32 x3, .fl .f32 x4, .fl .f32 x5, .fl .f32 x6]] mem = (T.leaf (AV.agg
      [SV.fl FloatKind.f32 (fmul FloatKind.f32 x3 x6), SV.fl FloatKind.f32 (fmul FloatKind.f32 x4 x6),
        SV.fl FloatKind.f32 (fmul FloatKind.f32 x5 x6)],
    [])) := by kernel_rfl
noncomputable def k_i_CentreOfBodiesD2 : Ctr Try.prog := k_i_CentreOfBodiesD20.to run_i_CentreOfBodiesD2 (by
  intro args mem _
  unfold run_i_CentreOfBodiesD2
  split
  · exact Weak.of_eq (i_CentreOfBodiesD2_cev _ _ _ _ _ _ _ _)
  · exact Weak.fail _)
noncomputable def k_i_MirrorBodiesD10 : Ctr Try.prog := (mkC Try.prog mix [] 67 Try.f67 (bodyOf Try.f67) Try.func67 (by kernel_rfl) (by kernel_rfl) []).mg
def run_i_MirrorBodiesD1 : List AV → Mem → T Res
  | [.agg [.fl .f32 x0, .fl .f32 x1, .fl .f32 x2, .fl .f32 x3, .fl .f32 x4, .fl .f32 x5, .fl .f32 x6]], _ => (T.leaf (AV.agg
      [SV.fl FloatKind.f32 x0, SV.fl FloatKind.f32 x1, SV.fl FloatKind.f32 (fneg FloatKind.f32 x2),
        SV.fl FloatKind.f32 x3, SV.fl FloatKind.f32 x4, SV.fl FloatKind.f32 (fneg FloatKind.f32 x5),
        SV.fl FloatKind.f32 x6],
    []))
  | _, _ => .fail
theorem i_MirrorBodiesD1_cev (x0 : Nat) (x1 : Nat) (x2 : Nat) (x3 : Nat) (x4 : Nat) (x5 : Nat) (x6 : Nat) (mem : Mem) : k_i_MirrorBodiesD10.run [.agg [.fl .f32 x0, .fl .f32 x1, .fl .f32 x2, .fl .f32 x3, .fl .f32 x4, .fl .f32 x5, .fl .f32 x6]] mem = (T.leaf (AV.agg
      [SV.fl FloatKind.f32 x0, SV.fl FloatKind.f32 x1, SV.fl FloatKind.f32 (fneg FloatKind.f32 x2),
        SV.fl FloatKind.f32 x3, SV.fl FloatKind.f32 x4, SV.fl FloatKind.f32 (fneg FloatKind.f32 x5),
        SV.fl FloatKind.f32 x6],
    [])) := by kernel_rfl
noncomputable def k_i_MirrorBodiesD1 : Ctr Try.prog := k_i_MirrorBodiesD10.to run_i_MirrorBodiesD1 (by
  intro args mem _
  unfold run_i_MirrorBodiesD1
  split
  · exact Weak.of_eq (i_MirrorBodiesD1_cev _ _ _ _ _ _ _ _)
  · exact Weak.fail _)
noncomputable def k_s_l02Number0 : Ctr Try.prog := (mkC Try.prog mix [k_l01Finite] 48 Try.f48 (bodyOf Try.f48) Try.func48 (by kernel_rfl) (by kernel_rfl) []).mg
def run_s_l02Number : List AV → Mem → T Res
  | [.one (.fl .f32 x0)], _ => (T.leaf (AV.tup
      [Pt.one (SV.fl FloatKind.f32 (bif !fin FloatKind.f32 x0 then canon FloatKind.f32 0 else x0)),
        Pt.one (SV.bo !!fin FloatKind.f32 x0)],
    []))
  | _, _ => .fail
theorem s_l02Number_cev (x0 : Nat) (mem : Mem) : k_s_l02Number0.run [.one (.fl .f32 x0)] mem = (T.leaf (AV.tup
      [Pt.one (SV.fl FloatKind.f32 (bif !fin FloatKind.f32 x0 then canon FloatKind.f32 0 else x0)),
        Pt.one (SV.bo !!fin FloatKind.f32 x0)],
    [])) := by kernel_rfl
noncomputable def k_s_l02Number : Ctr Try.prog := k_s_l02Number0.to run_s_l02Number (by
  intro args mem _
  unfold run_s_l02Number
  split
  · exact Weak.of_eq (s_l02Number_cev _ _)
  · exact Weak.fail _)
noncomputable def k_s_l02Vector0 : Ctr Try.prog := (mkC Try.prog mix [k_l01VFinite] 57 Try.f57 (bodyOf Try.f57) Try.func57 (by kernel_rfl) (by kernel_rfl) []).mg
def run_s_l02Vector : List AV → Mem → T Res
  | [.agg [.fl .f32 x0, .fl .f32 x1, .fl .f32 x2]], _ => (T.leaf (AV.tup
      [Pt.agg
          [SV.fl FloatKind.f32
              (bif
                  !bif fin FloatKind.f32 x0 then bif fin FloatKind.f32 x1 then fin FloatKind.f32 x2 else false
                    else false then
                canon FloatKind.f32 0
              else x0),
            SV.fl FloatKind.f32
              (bif
                  !bif fin FloatKind.f32 x0 then bif fin FloatKind.f32 x1 then fin FloatKind.f32 x2 else false
                    else false then
                canon FloatKind.f32 0
              else x1),
            SV.fl FloatKind.f32
              (bif
                  !bif fin FloatKind.f32 x0 then bif fin FloatKind.f32 x1 then fin FloatKind.f32 x2 else false
                    else false then
                canon FloatKind.f32 0
              else x2)],
        Pt.one
          (SV.bo
            !!bif fin FloatKind.f32 x0 then bif fin FloatKind.f32 x1 then fin FloatKind.f32 x2 else false else false)],
    []))
  | _, _ => .fail
theorem s_l02Vector_cev (x0 : Nat) (x1 : Nat) (x2 : Nat) (mem : Mem) : k_s_l02Vector0.run [.agg [.fl .f32 x0, .fl .f32 x1, .fl .f32 x2]] mem = (T.leaf (AV.tup
      [Pt.agg
          [SV.fl FloatKind.f32
              (bif
                  !bif fin FloatKind.f32 x0 then bif fin FloatKind.f32 x1 then fin FloatKind.f32 x2 else false
                    else false then
                canon FloatKind.f32 0
              else x0),
            SV.fl FloatKind.f32
              (bif
                  !bif fin FloatKind.f32 x0 then bif fin FloatKind.f32 x1 then fin FloatKind.f32 x2 else false
                    else false then
                canon FloatKind.f32 0
              else x1),
            SV.fl FloatKind.f32
              (bif
                  !bif fin FloatKind.f32 x0 then bif fin FloatKind.f32 x1 then fin FloatKind.f32 x2 else false
                    else false then
                canon FloatKind.f32 0
              else x2)],
        Pt.one
          (SV.bo
            !!bif fin FloatKind.f32 x0 then bif fin FloatKind.f32 x1 then fin FloatKind.f32 x2 else false else false)],
    [])) := by kernel_rfl
noncomputable def k_s_l02Vector : Ctr Try.prog := k_s_l02Vector0.to run_s_l02Vector (by
  intro args mem _
  unfold run_s_l02Vector
  split
  · exact Weak.of_eq (s_l02Vector_cev _ _ _ _)
  · exact Weak.fail _)
noncomputable def k_i_told0 : Ctr Try.prog := (mkC Try.prog mix [k_IsFinite] 52 Try.f52 (bodyOf Try.f52) Try.func52 (by kernel_rfl) (by kernel_rfl) []).mg
def run_i_told : List AV → Mem → T Res
  | [.one (.fl .f32 x0)], _ => (T.leaf (AV.tup
      [Pt.one (SV.fl FloatKind.f32 (bif !fin FloatKind.f32 x0 then canon FloatKind.f32 0 else x0)),
        Pt.one (SV.bo !!fin FloatKind.f32 x0)],
    []))
  | _, _ => .fail
theorem i_told_cev (x0 : Nat) (mem : Mem) : k_i_told0.run [.one (.fl .f32 x0)] mem = (T.leaf (AV.tup
      [Pt.one (SV.fl FloatKind.f32 (bif !fin FloatKind.f32 x0 then canon FloatKind.f32 0 else x0)),
        Pt.one (SV.bo !!fin FloatKind.f32 x0)],
    [])) := by kernel_rfl
noncomputable def k_i_told : Ctr Try.prog := k_i_told0.to run_i_told (by
  intro args mem _
  unfold run_i_told
  split
  · exact Weak.of_eq (i_told_cev _ _)
  · exact Weak.fail _)
noncomputable def k_i_toldVector0 : Ctr Try.prog := (mkC Try.prog mix [k_isFiniteVector] 58 Try.f58 (bodyOf Try.f58) Try.func58 (by kernel_rfl) (by kernel_rfl) []).mg
def run_i_toldVector : List AV → Mem → T Res
  | [.agg [.fl .f32 x0, .fl .f32 x1, .fl .f32 x2]], _ => (T.leaf (AV.tup
      [Pt.agg
          [SV.fl FloatKind.f32 (bif !fin3 x0 x1 x2 then canon FloatKind.f32 0 else x0),
            SV.fl FloatKind.f32 (bif !fin3 x0 x1 x2 then canon FloatKind.f32 0 else x1),
            SV.fl FloatKind.f32 (bif !fin3 x0 x1 x2 then canon FloatKind.f32 0 else x2)],
        Pt.one (SV.bo !!fin3 x0 x1 x2)],
    []))
  | _, _ => .fail
theorem i_toldVector_cev (x0 : Nat) (x1 : Nat) (x2 : Nat) (mem : Mem) : k_i_toldVector0.run [.agg [.fl .f32 x0, .fl .f32 x1, .fl .f32 x2]] mem = (T.leaf (AV.tup
      [Pt.agg
          [SV.fl FloatKind.f32 (bif !fin3 x0 x1 x2 then canon FloatKind.f32 0 else x0),
            SV.fl FloatKind.f32 (bif !fin3 x0 x1 x2 then canon FloatKind.f32 0 else x1),
            SV.fl FloatKind.f32 (bif !fin3 x0 x1 x2 then canon FloatKind.f32 0 else x2)],
        Pt.one (SV.bo !!fin3 x0 x1 x2)],
    [])) := by kernel_rfl
noncomputable def k_i_toldVector : Ctr Try.prog := k_i_toldVector0.to run_i_toldVector (by
  intro args mem _
  unfold run_i_toldVector
  split
  · exact Weak.of_eq (i_toldVector_cev _ _ _ _)
  · exact Weak.fail _)
noncomputable def k_s_l02Above0 : Ctr Try.prog := (mkC Try.prog mix [k_l01Finite] 97 Try.f97 (bodyOf Try.f97) Try.func97 (by kernel_rfl) (by kernel_rfl) []).mg
def run_s_l02Above : List AV → Mem → T Res
  | [.one (.fl .f32 x0)], _ => (T.leaf (AV.one (SV.bo (bif fin FloatKind.f32 x0 then fgt FloatKind.f32 x0 (canon FloatKind.f32 0) else false)), []))
  | _, _ => .fail
theorem s_l02Above_cev (x0 : Nat) (mem : Mem) : k_s_l02Above0.run [.one (.fl .f32 x0)] mem = (T.leaf (AV.one (SV.bo (bif fin FloatKind.f32 x0 then fgt FloatKind.f32 x0 (canon FloatKind.f32 0) else false)), [])) := by kernel_rfl
noncomputable def k_s_l02Above : Ctr Try.prog := k_s_l02Above0.to run_s_l02Above (by
  intro args mem _
  unfold run_s_l02Above
  split
  · exact Weak.of_eq (s_l02Above_cev _ _)
  · exact Weak.fail _)
noncomputable def k_i_aMass0 : Ctr Try.prog := (mkC Try.prog mix [k_IsFinite] 98 Try.f98 (bodyOf Try.f98) Try.func98 (by kernel_rfl) (by kernel_rfl) []).mg
def run_i_aMass : List AV → Mem → T Res
  | [.one (.fl .f32 x0)], _ => (T.leaf (AV.one (SV.bo (bif fin FloatKind.f32 x0 then fge FloatKind.f32 x0 (canon FloatKind.f32 0) else false)), []))
  | _, _ => .fail
theorem i_aMass_cev (x0 : Nat) (mem : Mem) : k_i_aMass0.run [.one (.fl .f32 x0)] mem = (T.leaf (AV.one (SV.bo (bif fin FloatKind.f32 x0 then fge FloatKind.f32 x0 (canon FloatKind.f32 0) else false)), [])) := by kernel_rfl
noncomputable def k_i_aMass : Ctr Try.prog := k_i_aMass0.to run_i_aMass (by
  intro args mem _
  unfold run_i_aMass
  split
  · exact Weak.of_eq (i_aMass_cev _ _)
  · exact Weak.fail _)
noncomputable def k_i_aLength0 : Ctr Try.prog := (mkC Try.prog mix [k_IsFinite] 99 Try.f99 (bodyOf Try.f99) Try.func99 (by kernel_rfl) (by kernel_rfl) []).mg
def run_i_aLength : List AV → Mem → T Res
  | [.one (.fl .f32 x0)], _ => (T.leaf (AV.one (SV.bo (bif fin FloatKind.f32 x0 then fgt FloatKind.f32 x0 (canon FloatKind.f32 0) else false)), []))
  | _, _ => .fail
theorem i_aLength_cev (x0 : Nat) (mem : Mem) : k_i_aLength0.run [.one (.fl .f32 x0)] mem = (T.leaf (AV.one (SV.bo (bif fin FloatKind.f32 x0 then fgt FloatKind.f32 x0 (canon FloatKind.f32 0) else false)), [])) := by kernel_rfl
noncomputable def k_i_aLength : Ctr Try.prog := k_i_aLength0.to run_i_aLength (by
  intro args mem _
  unfold run_i_aLength
  split
  · exact Weak.of_eq (i_aLength_cev _ _)
  · exact Weak.fail _)
noncomputable def k_i_isCore0 : Ctr Try.prog := (mkC Try.prog mix [k_IsFinite] 92 Try.f92 (bodyOf Try.f92) Try.func92 (by kernel_rfl) (by kernel_rfl) []).mg
def run_i_isCore : List AV → Mem → T Res
  | [.one (.fl .f32 x0)], _ => (T.leaf (AV.one (SV.bo (bif fin FloatKind.f32 x0 then fge FloatKind.f32 x0 (canon FloatKind.f32 0) else false)), []))
  | _, _ => .fail
theorem i_isCore_cev (x0 : Nat) (mem : Mem) : k_i_isCore0.run [.one (.fl .f32 x0)] mem = (T.leaf (AV.one (SV.bo (bif fin FloatKind.f32 x0 then fge FloatKind.f32 x0 (canon FloatKind.f32 0) else false)), [])) := by kernel_rfl
noncomputable def k_i_isCore : Ctr Try.prog := k_i_isCore0.to run_i_isCore (by
  intro args mem _
  unfold run_i_isCore
  split
  · exact Weak.of_eq (i_isCore_cev _ _)
  · exact Weak.fail _)

end Go.Proofs.Ytdkhpadbpeapjaa
