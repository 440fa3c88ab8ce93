/-
  Functions of one row of bodies: their values by the number of bodies, the same for spec and impl. No conditions.
-/
import Derived.Test.YtdkhpadbpeapjaaMa
import Derived.Test.YtdkhpadbpeapjaaVe
namespace Go.Proofs.Ytdkhpadbpeapjaa
set_option linter.unusedVariables false
set_option linter.unusedSimpArgs false
open Go.RowKit
namespace MMo2

def svFl : SV → Nat
  | .fl _ x => x
  | _ => 0
def svBo : SV → Bool
  | .bo x => x
  | .tt x => x
  | _ => false
def svIn : SV → Int
  | .num _ x => x
  | .int _ x => x
  | _ => 0
def ptCells : Pt → List SV
  | .one s => [s]
  | .agg l => l
def ptsCells : List Pt → List SV
  | [] => []
  | p :: l => ptCells p ++ ptsCells l
def avCells : AV → List SV
  | .one s => [s]
  | .agg l => l
  | .tup l => ptsCells l
  | _ => []
def cellAt (t : T Res) (j : Nat) : SV := match t with
  | .leaf (v, _) => (avCells v).getD j (.tt true)
  | .need _ t => cellAt t j
  | _ => .tt true
noncomputable def k_s_TurningOfBodies : Ctr Try.prog := (mkM Try.prog mix [k_l02Are, k_s_l01VAdd, k_s_l01VScale, k_s_l02Vector, k_s_l01VCross] 24 Try.f24 (bodyOf Try.f24) Try.func24 (by kernel_rfl) (by kernel_rfl) [] [0, 2, 3, 4, 5, 8, 14]).cl.mg
noncomputable def k_i_vectorsOf_i_TurningOfBodies : Ctr Try.prog := (mkM Try.prog mix [k_i_AddVectors, k_AreBodies, k_i_toldVector, k_i_TurningOfBodiesD1] 59 Try.f59 (bodyOf Try.f59) Try.func59 (by kernel_rfl) (by kernel_rfl) [] [0, 1, 4, 5, 7, 9, 10, 11, 12]).mg
noncomputable def k_i_TurningOfBodies : Ctr Try.prog := (mkC Try.prog mix [k_AreBodies, k_i_toldVector, k_i_TurningOfBodiesD1, k_i_vectorsOf_i_TurningOfBodies] 25 Try.f25 (bodyOf Try.f25) Try.func25 (by kernel_rfl) (by kernel_rfl) []).cl.mg
noncomputable def k_q_s_TurningOfBodies : Ctr Try.prog := (mkC Try.prog mix [k_l02Are17, k_s_l01VAdd, k_s_l01VScale, k_s_l02Vector, k_s_l01VCross] 24 Try.f24 (bodyOf Try.f24) Try.func24 (by kernel_rfl) (by kernel_rfl) []).mg
noncomputable def k_q_i_vectorsOf_i_TurningOfBodies : Ctr Try.prog := (mkC Try.prog mix [k_i_AddVectors, k_AreBodies17, k_i_toldVector, k_i_TurningOfBodiesD1] 59 Try.f59 (bodyOf Try.f59) Try.func59 (by kernel_rfl) (by kernel_rfl) []).mg
noncomputable def k_q_i_TurningOfBodies : Ctr Try.prog := (mkC Try.prog mix [k_AreBodies17, k_i_toldVector, k_i_TurningOfBodiesD1, k_q_i_vectorsOf_i_TurningOfBodies] 25 Try.f25 (bodyOf Try.f25) Try.func25 (by kernel_rfl) (by kernel_rfl) []).mg
noncomputable def VTurningOfBodies_0 (n : Nat) (f0 f1 f2 f3 f4 f5 f6 : Nat → Nat)  : Nat := cond (decide (n ≤ 16)) (svFl (cellAt (k_s_TurningOfBodies.run [.one (.su 0 7 0 n true)] [some (.cols n [.fl .f32 f0, .fl .f32 f1, .fl .f32 f2, .fl .f32 f3, .fl .f32 f4, .fl .f32 f5, .fl .f32 f6])]) 0)) (svFl (cellAt (k_q_s_TurningOfBodies.run [.one (.su 0 7 0 n false)] [some (.cols n [.fl .f32 f0, .fl .f32 f1, .fl .f32 f2, .fl .f32 f3, .fl .f32 f4, .fl .f32 f5, .fl .f32 f6])]) 0))
noncomputable def VTurningOfBodies_1 (n : Nat) (f0 f1 f2 f3 f4 f5 f6 : Nat → Nat)  : Nat := cond (decide (n ≤ 16)) (svFl (cellAt (k_s_TurningOfBodies.run [.one (.su 0 7 0 n true)] [some (.cols n [.fl .f32 f0, .fl .f32 f1, .fl .f32 f2, .fl .f32 f3, .fl .f32 f4, .fl .f32 f5, .fl .f32 f6])]) 1)) (svFl (cellAt (k_q_s_TurningOfBodies.run [.one (.su 0 7 0 n false)] [some (.cols n [.fl .f32 f0, .fl .f32 f1, .fl .f32 f2, .fl .f32 f3, .fl .f32 f4, .fl .f32 f5, .fl .f32 f6])]) 1))
noncomputable def VTurningOfBodies_2 (n : Nat) (f0 f1 f2 f3 f4 f5 f6 : Nat → Nat)  : Nat := cond (decide (n ≤ 16)) (svFl (cellAt (k_s_TurningOfBodies.run [.one (.su 0 7 0 n true)] [some (.cols n [.fl .f32 f0, .fl .f32 f1, .fl .f32 f2, .fl .f32 f3, .fl .f32 f4, .fl .f32 f5, .fl .f32 f6])]) 2)) (svFl (cellAt (k_q_s_TurningOfBodies.run [.one (.su 0 7 0 n false)] [some (.cols n [.fl .f32 f0, .fl .f32 f1, .fl .f32 f2, .fl .f32 f3, .fl .f32 f4, .fl .f32 f5, .fl .f32 f6])]) 2))
noncomputable def VTurningOfBodies_3 (n : Nat) (f0 f1 f2 f3 f4 f5 f6 : Nat → Nat)  : Bool := cond (decide (n ≤ 16)) (svBo (cellAt (k_s_TurningOfBodies.run [.one (.su 0 7 0 n true)] [some (.cols n [.fl .f32 f0, .fl .f32 f1, .fl .f32 f2, .fl .f32 f3, .fl .f32 f4, .fl .f32 f5, .fl .f32 f6])]) 3)) false
theorem sTurningOfBodies_0 (f0 f1 f2 f3 f4 f5 f6 : Nat → Nat)  : k_s_TurningOfBodies.run [.one (.su 0 7 0 0 true)] [some (.cols 0 [.fl .f32 f0, .fl .f32 f1, .fl .f32 f2, .fl .f32 f3, .fl .f32 f4, .fl .f32 f5, .fl .f32 f6])] = .leaf (.tup [.agg [.fl .f32 (VTurningOfBodies_0 0 f0 f1 f2 f3 f4 f5 f6 ), .fl .f32 (VTurningOfBodies_1 0 f0 f1 f2 f3 f4 f5 f6 ), .fl .f32 (VTurningOfBodies_2 0 f0 f1 f2 f3 f4 f5 f6 )], .one (.bo (VTurningOfBodies_3 0 f0 f1 f2 f3 f4 f5 f6 ))], []) := by kernel_rfl
theorem sTurningOfBodies_1 (f0 f1 f2 f3 f4 f5 f6 : Nat → Nat)  : k_s_TurningOfBodies.run [.one (.su 0 7 0 1 true)] [some (.cols 1 [.fl .f32 f0, .fl .f32 f1, .fl .f32 f2, .fl .f32 f3, .fl .f32 f4, .fl .f32 f5, .fl .f32 f6])] = .leaf (.tup [.agg [.fl .f32 (VTurningOfBodies_0 1 f0 f1 f2 f3 f4 f5 f6 ), .fl .f32 (VTurningOfBodies_1 1 f0 f1 f2 f3 f4 f5 f6 ), .fl .f32 (VTurningOfBodies_2 1 f0 f1 f2 f3 f4 f5 f6 )], .one (.bo (VTurningOfBodies_3 1 f0 f1 f2 f3 f4 f5 f6 ))], []) := by kernel_rfl
theorem sTurningOfBodies_2 (f0 f1 f2 f3 f4 f5 f6 : Nat → Nat)  : k_s_TurningOfBodies.run [.one (.su 0 7 0 2 true)] [some (.cols 2 [.fl .f32 f0, .fl .f32 f1, .fl .f32 f2, .fl .f32 f3, .fl .f32 f4, .fl .f32 f5, .fl .f32 f6])] = .leaf (.tup [.agg [.fl .f32 (VTurningOfBodies_0 2 f0 f1 f2 f3 f4 f5 f6 ), .fl .f32 (VTurningOfBodies_1 2 f0 f1 f2 f3 f4 f5 f6 ), .fl .f32 (VTurningOfBodies_2 2 f0 f1 f2 f3 f4 f5 f6 )], .one (.bo (VTurningOfBodies_3 2 f0 f1 f2 f3 f4 f5 f6 ))], []) := by kernel_rfl
theorem sTurningOfBodies_3 (f0 f1 f2 f3 f4 f5 f6 : Nat → Nat)  : k_s_TurningOfBodies.run [.one (.su 0 7 0 3 true)] [some (.cols 3 [.fl .f32 f0, .fl .f32 f1, .fl .f32 f2, .fl .f32 f3, .fl .f32 f4, .fl .f32 f5, .fl .f32 f6])] = .leaf (.tup [.agg [.fl .f32 (VTurningOfBodies_0 3 f0 f1 f2 f3 f4 f5 f6 ), .fl .f32 (VTurningOfBodies_1 3 f0 f1 f2 f3 f4 f5 f6 ), .fl .f32 (VTurningOfBodies_2 3 f0 f1 f2 f3 f4 f5 f6 )], .one (.bo (VTurningOfBodies_3 3 f0 f1 f2 f3 f4 f5 f6 ))], []) := by kernel_rfl
theorem sTurningOfBodies_4 (f0 f1 f2 f3 f4 f5 f6 : Nat → Nat)  : k_s_TurningOfBodies.run [.one (.su 0 7 0 4 true)] [some (.cols 4 [.fl .f32 f0, .fl .f32 f1, .fl .f32 f2, .fl .f32 f3, .fl .f32 f4, .fl .f32 f5, .fl .f32 f6])] = .leaf (.tup [.agg [.fl .f32 (VTurningOfBodies_0 4 f0 f1 f2 f3 f4 f5 f6 ), .fl .f32 (VTurningOfBodies_1 4 f0 f1 f2 f3 f4 f5 f6 ), .fl .f32 (VTurningOfBodies_2 4 f0 f1 f2 f3 f4 f5 f6 )], .one (.bo (VTurningOfBodies_3 4 f0 f1 f2 f3 f4 f5 f6 ))], []) := by kernel_rfl
theorem sTurningOfBodies_5 (f0 f1 f2 f3 f4 f5 f6 : Nat → Nat)  : k_s_TurningOfBodies.run [.one (.su 0 7 0 5 true)] [some (.cols 5 [.fl .f32 f0, .fl .f32 f1, .fl .f32 f2, .fl .f32 f3, .fl .f32 f4, .fl .f32 f5, .fl .f32 f6])] = .leaf (.tup [.agg [.fl .f32 (VTurningOfBodies_0 5 f0 f1 f2 f3 f4 f5 f6 ), .fl .f32 (VTurningOfBodies_1 5 f0 f1 f2 f3 f4 f5 f6 ), .fl .f32 (VTurningOfBodies_2 5 f0 f1 f2 f3 f4 f5 f6 )], .one (.bo (VTurningOfBodies_3 5 f0 f1 f2 f3 f4 f5 f6 ))], []) := by kernel_rfl
theorem sTurningOfBodies_6 (f0 f1 f2 f3 f4 f5 f6 : Nat → Nat)  : k_s_TurningOfBodies.run [.one (.su 0 7 0 6 true)] [some (.cols 6 [.fl .f32 f0, .fl .f32 f1, .fl .f32 f2, .fl .f32 f3, .fl .f32 f4, .fl .f32 f5, .fl .f32 f6])] = .leaf (.tup [.agg [.fl .f32 (VTurningOfBodies_0 6 f0 f1 f2 f3 f4 f5 f6 ), .fl .f32 (VTurningOfBodies_1 6 f0 f1 f2 f3 f4 f5 f6 ), .fl .f32 (VTurningOfBodies_2 6 f0 f1 f2 f3 f4 f5 f6 )], .one (.bo (VTurningOfBodies_3 6 f0 f1 f2 f3 f4 f5 f6 ))], []) := by kernel_rfl
theorem sTurningOfBodies_7 (f0 f1 f2 f3 f4 f5 f6 : Nat → Nat)  : k_s_TurningOfBodies.run [.one (.su 0 7 0 7 true)] [some (.cols 7 [.fl .f32 f0, .fl .f32 f1, .fl .f32 f2, .fl .f32 f3, .fl .f32 f4, .fl .f32 f5, .fl .f32 f6])] = .leaf (.tup [.agg [.fl .f32 (VTurningOfBodies_0 7 f0 f1 f2 f3 f4 f5 f6 ), .fl .f32 (VTurningOfBodies_1 7 f0 f1 f2 f3 f4 f5 f6 ), .fl .f32 (VTurningOfBodies_2 7 f0 f1 f2 f3 f4 f5 f6 )], .one (.bo (VTurningOfBodies_3 7 f0 f1 f2 f3 f4 f5 f6 ))], []) := by kernel_rfl
theorem sTurningOfBodies_8 (f0 f1 f2 f3 f4 f5 f6 : Nat → Nat)  : k_s_TurningOfBodies.run [.one (.su 0 7 0 8 true)] [some (.cols 8 [.fl .f32 f0, .fl .f32 f1, .fl .f32 f2, .fl .f32 f3, .fl .f32 f4, .fl .f32 f5, .fl .f32 f6])] = .leaf (.tup [.agg [.fl .f32 (VTurningOfBodies_0 8 f0 f1 f2 f3 f4 f5 f6 ), .fl .f32 (VTurningOfBodies_1 8 f0 f1 f2 f3 f4 f5 f6 ), .fl .f32 (VTurningOfBodies_2 8 f0 f1 f2 f3 f4 f5 f6 )], .one (.bo (VTurningOfBodies_3 8 f0 f1 f2 f3 f4 f5 f6 ))], []) := by kernel_rfl
theorem sTurningOfBodies_9 (f0 f1 f2 f3 f4 f5 f6 : Nat → Nat)  : k_s_TurningOfBodies.run [.one (.su 0 7 0 9 true)] [some (.cols 9 [.fl .f32 f0, .fl .f32 f1, .fl .f32 f2, .fl .f32 f3, .fl .f32 f4, .fl .f32 f5, .fl .f32 f6])] = .leaf (.tup [.agg [.fl .f32 (VTurningOfBodies_0 9 f0 f1 f2 f3 f4 f5 f6 ), .fl .f32 (VTurningOfBodies_1 9 f0 f1 f2 f3 f4 f5 f6 ), .fl .f32 (VTurningOfBodies_2 9 f0 f1 f2 f3 f4 f5 f6 )], .one (.bo (VTurningOfBodies_3 9 f0 f1 f2 f3 f4 f5 f6 ))], []) := by kernel_rfl
theorem sTurningOfBodies_10 (f0 f1 f2 f3 f4 f5 f6 : Nat → Nat)  : k_s_TurningOfBodies.run [.one (.su 0 7 0 10 true)] [some (.cols 10 [.fl .f32 f0, .fl .f32 f1, .fl .f32 f2, .fl .f32 f3, .fl .f32 f4, .fl .f32 f5, .fl .f32 f6])] = .leaf (.tup [.agg [.fl .f32 (VTurningOfBodies_0 10 f0 f1 f2 f3 f4 f5 f6 ), .fl .f32 (VTurningOfBodies_1 10 f0 f1 f2 f3 f4 f5 f6 ), .fl .f32 (VTurningOfBodies_2 10 f0 f1 f2 f3 f4 f5 f6 )], .one (.bo (VTurningOfBodies_3 10 f0 f1 f2 f3 f4 f5 f6 ))], []) := by kernel_rfl
theorem sTurningOfBodies_11 (f0 f1 f2 f3 f4 f5 f6 : Nat → Nat)  : k_s_TurningOfBodies.run [.one (.su 0 7 0 11 true)] [some (.cols 11 [.fl .f32 f0, .fl .f32 f1, .fl .f32 f2, .fl .f32 f3, .fl .f32 f4, .fl .f32 f5, .fl .f32 f6])] = .leaf (.tup [.agg [.fl .f32 (VTurningOfBodies_0 11 f0 f1 f2 f3 f4 f5 f6 ), .fl .f32 (VTurningOfBodies_1 11 f0 f1 f2 f3 f4 f5 f6 ), .fl .f32 (VTurningOfBodies_2 11 f0 f1 f2 f3 f4 f5 f6 )], .one (.bo (VTurningOfBodies_3 11 f0 f1 f2 f3 f4 f5 f6 ))], []) := by kernel_rfl
theorem sTurningOfBodies_12 (f0 f1 f2 f3 f4 f5 f6 : Nat → Nat)  : k_s_TurningOfBodies.run [.one (.su 0 7 0 12 true)] [some (.cols 12 [.fl .f32 f0, .fl .f32 f1, .fl .f32 f2, .fl .f32 f3, .fl .f32 f4, .fl .f32 f5, .fl .f32 f6])] = .leaf (.tup [.agg [.fl .f32 (VTurningOfBodies_0 12 f0 f1 f2 f3 f4 f5 f6 ), .fl .f32 (VTurningOfBodies_1 12 f0 f1 f2 f3 f4 f5 f6 ), .fl .f32 (VTurningOfBodies_2 12 f0 f1 f2 f3 f4 f5 f6 )], .one (.bo (VTurningOfBodies_3 12 f0 f1 f2 f3 f4 f5 f6 ))], []) := by kernel_rfl
theorem sTurningOfBodies_13 (f0 f1 f2 f3 f4 f5 f6 : Nat → Nat)  : k_s_TurningOfBodies.run [.one (.su 0 7 0 13 true)] [some (.cols 13 [.fl .f32 f0, .fl .f32 f1, .fl .f32 f2, .fl .f32 f3, .fl .f32 f4, .fl .f32 f5, .fl .f32 f6])] = .leaf (.tup [.agg [.fl .f32 (VTurningOfBodies_0 13 f0 f1 f2 f3 f4 f5 f6 ), .fl .f32 (VTurningOfBodies_1 13 f0 f1 f2 f3 f4 f5 f6 ), .fl .f32 (VTurningOfBodies_2 13 f0 f1 f2 f3 f4 f5 f6 )], .one (.bo (VTurningOfBodies_3 13 f0 f1 f2 f3 f4 f5 f6 ))], []) := by kernel_rfl
theorem sTurningOfBodies_14 (f0 f1 f2 f3 f4 f5 f6 : Nat → Nat)  : k_s_TurningOfBodies.run [.one (.su 0 7 0 14 true)] [some (.cols 14 [.fl .f32 f0, .fl .f32 f1, .fl .f32 f2, .fl .f32 f3, .fl .f32 f4, .fl .f32 f5, .fl .f32 f6])] = .leaf (.tup [.agg [.fl .f32 (VTurningOfBodies_0 14 f0 f1 f2 f3 f4 f5 f6 ), .fl .f32 (VTurningOfBodies_1 14 f0 f1 f2 f3 f4 f5 f6 ), .fl .f32 (VTurningOfBodies_2 14 f0 f1 f2 f3 f4 f5 f6 )], .one (.bo (VTurningOfBodies_3 14 f0 f1 f2 f3 f4 f5 f6 ))], []) := by kernel_rfl
theorem sTurningOfBodies_15 (f0 f1 f2 f3 f4 f5 f6 : Nat → Nat)  : k_s_TurningOfBodies.run [.one (.su 0 7 0 15 true)] [some (.cols 15 [.fl .f32 f0, .fl .f32 f1, .fl .f32 f2, .fl .f32 f3, .fl .f32 f4, .fl .f32 f5, .fl .f32 f6])] = .leaf (.tup [.agg [.fl .f32 (VTurningOfBodies_0 15 f0 f1 f2 f3 f4 f5 f6 ), .fl .f32 (VTurningOfBodies_1 15 f0 f1 f2 f3 f4 f5 f6 ), .fl .f32 (VTurningOfBodies_2 15 f0 f1 f2 f3 f4 f5 f6 )], .one (.bo (VTurningOfBodies_3 15 f0 f1 f2 f3 f4 f5 f6 ))], []) := by kernel_rfl
theorem sTurningOfBodies_16 (f0 f1 f2 f3 f4 f5 f6 : Nat → Nat)  : k_s_TurningOfBodies.run [.one (.su 0 7 0 16 true)] [some (.cols 16 [.fl .f32 f0, .fl .f32 f1, .fl .f32 f2, .fl .f32 f3, .fl .f32 f4, .fl .f32 f5, .fl .f32 f6])] = .leaf (.tup [.agg [.fl .f32 (VTurningOfBodies_0 16 f0 f1 f2 f3 f4 f5 f6 ), .fl .f32 (VTurningOfBodies_1 16 f0 f1 f2 f3 f4 f5 f6 ), .fl .f32 (VTurningOfBodies_2 16 f0 f1 f2 f3 f4 f5 f6 )], .one (.bo (VTurningOfBodies_3 16 f0 f1 f2 f3 f4 f5 f6 ))], []) := by kernel_rfl

theorem sTurningOfBodies_all (n : Nat) (f0 f1 f2 f3 f4 f5 f6 : Nat → Nat)  (h : n ≤ 16) : k_s_TurningOfBodies.run [.one (.su 0 7 0 n true)] [some (.cols n [.fl .f32 f0, .fl .f32 f1, .fl .f32 f2, .fl .f32 f3, .fl .f32 f4, .fl .f32 f5, .fl .f32 f6])] = .leaf (.tup [.agg [.fl .f32 (VTurningOfBodies_0 n f0 f1 f2 f3 f4 f5 f6 ), .fl .f32 (VTurningOfBodies_1 n f0 f1 f2 f3 f4 f5 f6 ), .fl .f32 (VTurningOfBodies_2 n f0 f1 f2 f3 f4 f5 f6 )], .one (.bo (VTurningOfBodies_3 n f0 f1 f2 f3 f4 f5 f6 ))], []) := by
  rcases (by omega : n = 0 ∨ n = 1 ∨ n = 2 ∨ n = 3 ∨ n = 4 ∨ n = 5 ∨ n = 6 ∨ n = 7 ∨ n = 8 ∨ n = 9 ∨ n = 10 ∨ n = 11 ∨ n = 12 ∨ n = 13 ∨ n = 14 ∨ n = 15 ∨ n = 16) with rfl | rfl | rfl | rfl | rfl | rfl | rfl | rfl | rfl | rfl | rfl | rfl | rfl | rfl | rfl | rfl | rfl
  · exact sTurningOfBodies_0 f0 f1 f2 f3 f4 f5 f6 
  · exact sTurningOfBodies_1 f0 f1 f2 f3 f4 f5 f6 
  · exact sTurningOfBodies_2 f0 f1 f2 f3 f4 f5 f6 
  · exact sTurningOfBodies_3 f0 f1 f2 f3 f4 f5 f6 
  · exact sTurningOfBodies_4 f0 f1 f2 f3 f4 f5 f6 
  · exact sTurningOfBodies_5 f0 f1 f2 f3 f4 f5 f6 
  · exact sTurningOfBodies_6 f0 f1 f2 f3 f4 f5 f6 
  · exact sTurningOfBodies_7 f0 f1 f2 f3 f4 f5 f6 
  · exact sTurningOfBodies_8 f0 f1 f2 f3 f4 f5 f6 
  · exact sTurningOfBodies_9 f0 f1 f2 f3 f4 f5 f6 
  · exact sTurningOfBodies_10 f0 f1 f2 f3 f4 f5 f6 
  · exact sTurningOfBodies_11 f0 f1 f2 f3 f4 f5 f6 
  · exact sTurningOfBodies_12 f0 f1 f2 f3 f4 f5 f6 
  · exact sTurningOfBodies_13 f0 f1 f2 f3 f4 f5 f6 
  · exact sTurningOfBodies_14 f0 f1 f2 f3 f4 f5 f6 
  · exact sTurningOfBodies_15 f0 f1 f2 f3 f4 f5 f6 
  · exact sTurningOfBodies_16 f0 f1 f2 f3 f4 f5 f6 

theorem sTurningOfBodies_mo (n : Nat) (f0 f1 f2 f3 f4 f5 f6 : Nat → Nat)  : k_q_s_TurningOfBodies.run [.one (.su 0 7 0 n false)] [some (.cols n [.fl .f32 f0, .fl .f32 f1, .fl .f32 f2, .fl .f32 f3, .fl .f32 f4, .fl .f32 f5, .fl .f32 f6])] = .need (decide (n ≤ n)) (.need (decide (16 < n)) (.leaf (.tup [.agg [.fl .f32 (svFl (cellAt (k_q_s_TurningOfBodies.run [.one (.su 0 7 0 n false)] [some (.cols n [.fl .f32 f0, .fl .f32 f1, .fl .f32 f2, .fl .f32 f3, .fl .f32 f4, .fl .f32 f5, .fl .f32 f6])]) 0)), .fl .f32 (svFl (cellAt (k_q_s_TurningOfBodies.run [.one (.su 0 7 0 n false)] [some (.cols n [.fl .f32 f0, .fl .f32 f1, .fl .f32 f2, .fl .f32 f3, .fl .f32 f4, .fl .f32 f5, .fl .f32 f6])]) 1)), .fl .f32 (svFl (cellAt (k_q_s_TurningOfBodies.run [.one (.su 0 7 0 n false)] [some (.cols n [.fl .f32 f0, .fl .f32 f1, .fl .f32 f2, .fl .f32 f3, .fl .f32 f4, .fl .f32 f5, .fl .f32 f6])]) 2))], .one (.tt false)], []))) := by kernel_rfl
theorem sTurningOfBodies_le (n : Nat) (f0 f1 f2 f3 f4 f5 f6 : Nat → Nat)  (h : 16 < n) : le2 (.tup [.agg [.fl .f32 (svFl (cellAt (k_q_s_TurningOfBodies.run [.one (.su 0 7 0 n false)] [some (.cols n [.fl .f32 f0, .fl .f32 f1, .fl .f32 f2, .fl .f32 f3, .fl .f32 f4, .fl .f32 f5, .fl .f32 f6])]) 0)), .fl .f32 (svFl (cellAt (k_q_s_TurningOfBodies.run [.one (.su 0 7 0 n false)] [some (.cols n [.fl .f32 f0, .fl .f32 f1, .fl .f32 f2, .fl .f32 f3, .fl .f32 f4, .fl .f32 f5, .fl .f32 f6])]) 1)), .fl .f32 (svFl (cellAt (k_q_s_TurningOfBodies.run [.one (.su 0 7 0 n false)] [some (.cols n [.fl .f32 f0, .fl .f32 f1, .fl .f32 f2, .fl .f32 f3, .fl .f32 f4, .fl .f32 f5, .fl .f32 f6])]) 2))], .one (.tt false)], []) (.tup [.agg [.fl .f32 (VTurningOfBodies_0 n f0 f1 f2 f3 f4 f5 f6 ), .fl .f32 (VTurningOfBodies_1 n f0 f1 f2 f3 f4 f5 f6 ), .fl .f32 (VTurningOfBodies_2 n f0 f1 f2 f3 f4 f5 f6 )], .one (.bo (VTurningOfBodies_3 n f0 f1 f2 f3 f4 f5 f6 ))], []) := by
  have e : decide (n ≤ 16) = false := decide_eq_false (by omega)
  refine ⟨trivial, fun ρ v hv => ?_⟩
  have hb : ∀ {α : Type} (x y : α), cond (decide (n ≤ 16)) x y = y := fun x y => by rw [e]; rfl
  unfold VTurningOfBodies_0 VTurningOfBodies_1 VTurningOfBodies_2 VTurningOfBodies_3
  simp only [hb]
  refine tup_le ?_ ρ v hv
  exact ⟨fun _ _ h => h, fun _ _ h => h, trivial⟩
noncomputable def run_sTurningOfBodies : List AV → Mem → T Res
  | [.one (.su 0 7 0 n kn)], [some (.cols m [.fl .f32 f0, .fl .f32 f1, .fl .f32 f2, .fl .f32 f3, .fl .f32 f4, .fl .f32 f5, .fl .f32 f6])] => .need (decide (n ≤ m)) (.leaf (.tup [.agg [.fl .f32 (VTurningOfBodies_0 n f0 f1 f2 f3 f4 f5 f6 ), .fl .f32 (VTurningOfBodies_1 n f0 f1 f2 f3 f4 f5 f6 ), .fl .f32 (VTurningOfBodies_2 n f0 f1 f2 f3 f4 f5 f6 )], .one (.bo (VTurningOfBodies_3 n f0 f1 f2 f3 f4 f5 f6 ))], []))
  | _, _ => .fail
noncomputable def k_sTurningOfBodies : Ctr Try.prog := (k_s_TurningOfBodies.two k_q_s_TurningOfBodies (by kernel_rfl) run_sTurningOfBodies (by
  intro args mem _ Φ hΦ h
  unfold run_sTurningOfBodies at h
  split at h
  · rename_i n kn  m f0 f1 f2 f3 f4 f5 f6 _
    have hm : n ≤ m := of_decide_eq_true h.1
    have h2 : Φ (.tup [.agg [.fl .f32 (VTurningOfBodies_0 n f0 f1 f2 f3 f4 f5 f6 ), .fl .f32 (VTurningOfBodies_1 n f0 f1 f2 f3 f4 f5 f6 ), .fl .f32 (VTurningOfBodies_2 n f0 f1 f2 f3 f4 f5 f6 )], .one (.bo (VTurningOfBodies_3 n f0 f1 f2 f3 f4 f5 f6 ))], []) := h.2
    by_cases h16 : n ≤ 16
    · refine ⟨[.one (.su 0 7 0 n true)], [some (.cols n [.fl .f32 f0, .fl .f32 f1, .fl .f32 f2, .fl .f32 f3, .fl .f32 f4, .fl .f32 f5, .fl .f32 f6])], fun ρ vals hv => known_su ρ vals hv, ⟨BlLe.cols_le hm, trivial⟩, .inl ?_⟩
      rw [sTurningOfBodies_all _ _ _ _ _ _ _ _  h16]
      exact T.h_leaf h2
    · refine ⟨[.one (.su 0 7 0 n false)], [some (.cols n [.fl .f32 f0, .fl .f32 f1, .fl .f32 f2, .fl .f32 f3, .fl .f32 f4, .fl .f32 f5, .fl .f32 f6])], fun ρ vals hv => unknown_su ρ vals hv, ⟨BlLe.cols_le hm, trivial⟩, .inr ?_⟩
      rw [sTurningOfBodies_mo _ _ _ _ _ _ _ _ ]
      exact T.h_need (by simp) (T.h_need (decide_eq_true (by omega)) (T.h_leaf (hΦ _ _ (sTurningOfBodies_le n f0 f1 f2 f3 f4 f5 f6  (by omega)) h2)))
  · exact h.elim)).su.own

theorem iTurningOfBodies_0 (f0 f1 f2 f3 f4 f5 f6 : Nat → Nat)  : k_i_TurningOfBodies.run [.one (.su 0 7 0 0 true)] [some (.cols 0 [.fl .f32 f0, .fl .f32 f1, .fl .f32 f2, .fl .f32 f3, .fl .f32 f4, .fl .f32 f5, .fl .f32 f6])] = .leaf (.tup [.agg [.fl .f32 (VTurningOfBodies_0 0 f0 f1 f2 f3 f4 f5 f6 ), .fl .f32 (VTurningOfBodies_1 0 f0 f1 f2 f3 f4 f5 f6 ), .fl .f32 (VTurningOfBodies_2 0 f0 f1 f2 f3 f4 f5 f6 )], .one (.bo (VTurningOfBodies_3 0 f0 f1 f2 f3 f4 f5 f6 ))], []) := by kernel_rfl
theorem iTurningOfBodies_1 (f0 f1 f2 f3 f4 f5 f6 : Nat → Nat)  : k_i_TurningOfBodies.run [.one (.su 0 7 0 1 true)] [some (.cols 1 [.fl .f32 f0, .fl .f32 f1, .fl .f32 f2, .fl .f32 f3, .fl .f32 f4, .fl .f32 f5, .fl .f32 f6])] = .leaf (.tup [.agg [.fl .f32 (VTurningOfBodies_0 1 f0 f1 f2 f3 f4 f5 f6 ), .fl .f32 (VTurningOfBodies_1 1 f0 f1 f2 f3 f4 f5 f6 ), .fl .f32 (VTurningOfBodies_2 1 f0 f1 f2 f3 f4 f5 f6 )], .one (.bo (VTurningOfBodies_3 1 f0 f1 f2 f3 f4 f5 f6 ))], []) := by kernel_rfl
theorem iTurningOfBodies_2 (f0 f1 f2 f3 f4 f5 f6 : Nat → Nat)  : k_i_TurningOfBodies.run [.one (.su 0 7 0 2 true)] [some (.cols 2 [.fl .f32 f0, .fl .f32 f1, .fl .f32 f2, .fl .f32 f3, .fl .f32 f4, .fl .f32 f5, .fl .f32 f6])] = .leaf (.tup [.agg [.fl .f32 (VTurningOfBodies_0 2 f0 f1 f2 f3 f4 f5 f6 ), .fl .f32 (VTurningOfBodies_1 2 f0 f1 f2 f3 f4 f5 f6 ), .fl .f32 (VTurningOfBodies_2 2 f0 f1 f2 f3 f4 f5 f6 )], .one (.bo (VTurningOfBodies_3 2 f0 f1 f2 f3 f4 f5 f6 ))], []) := by kernel_rfl
theorem iTurningOfBodies_3 (f0 f1 f2 f3 f4 f5 f6 : Nat → Nat)  : k_i_TurningOfBodies.run [.one (.su 0 7 0 3 true)] [some (.cols 3 [.fl .f32 f0, .fl .f32 f1, .fl .f32 f2, .fl .f32 f3, .fl .f32 f4, .fl .f32 f5, .fl .f32 f6])] = .leaf (.tup [.agg [.fl .f32 (VTurningOfBodies_0 3 f0 f1 f2 f3 f4 f5 f6 ), .fl .f32 (VTurningOfBodies_1 3 f0 f1 f2 f3 f4 f5 f6 ), .fl .f32 (VTurningOfBodies_2 3 f0 f1 f2 f3 f4 f5 f6 )], .one (.bo (VTurningOfBodies_3 3 f0 f1 f2 f3 f4 f5 f6 ))], []) := by kernel_rfl
theorem iTurningOfBodies_4 (f0 f1 f2 f3 f4 f5 f6 : Nat → Nat)  : k_i_TurningOfBodies.run [.one (.su 0 7 0 4 true)] [some (.cols 4 [.fl .f32 f0, .fl .f32 f1, .fl .f32 f2, .fl .f32 f3, .fl .f32 f4, .fl .f32 f5, .fl .f32 f6])] = .leaf (.tup [.agg [.fl .f32 (VTurningOfBodies_0 4 f0 f1 f2 f3 f4 f5 f6 ), .fl .f32 (VTurningOfBodies_1 4 f0 f1 f2 f3 f4 f5 f6 ), .fl .f32 (VTurningOfBodies_2 4 f0 f1 f2 f3 f4 f5 f6 )], .one (.bo (VTurningOfBodies_3 4 f0 f1 f2 f3 f4 f5 f6 ))], []) := by kernel_rfl
theorem iTurningOfBodies_5 (f0 f1 f2 f3 f4 f5 f6 : Nat → Nat)  : k_i_TurningOfBodies.run [.one (.su 0 7 0 5 true)] [some (.cols 5 [.fl .f32 f0, .fl .f32 f1, .fl .f32 f2, .fl .f32 f3, .fl .f32 f4, .fl .f32 f5, .fl .f32 f6])] = .leaf (.tup [.agg [.fl .f32 (VTurningOfBodies_0 5 f0 f1 f2 f3 f4 f5 f6 ), .fl .f32 (VTurningOfBodies_1 5 f0 f1 f2 f3 f4 f5 f6 ), .fl .f32 (VTurningOfBodies_2 5 f0 f1 f2 f3 f4 f5 f6 )], .one (.bo (VTurningOfBodies_3 5 f0 f1 f2 f3 f4 f5 f6 ))], []) := by kernel_rfl
theorem iTurningOfBodies_6 (f0 f1 f2 f3 f4 f5 f6 : Nat → Nat)  : k_i_TurningOfBodies.run [.one (.su 0 7 0 6 true)] [some (.cols 6 [.fl .f32 f0, .fl .f32 f1, .fl .f32 f2, .fl .f32 f3, .fl .f32 f4, .fl .f32 f5, .fl .f32 f6])] = .leaf (.tup [.agg [.fl .f32 (VTurningOfBodies_0 6 f0 f1 f2 f3 f4 f5 f6 ), .fl .f32 (VTurningOfBodies_1 6 f0 f1 f2 f3 f4 f5 f6 ), .fl .f32 (VTurningOfBodies_2 6 f0 f1 f2 f3 f4 f5 f6 )], .one (.bo (VTurningOfBodies_3 6 f0 f1 f2 f3 f4 f5 f6 ))], []) := by kernel_rfl
theorem iTurningOfBodies_7 (f0 f1 f2 f3 f4 f5 f6 : Nat → Nat)  : k_i_TurningOfBodies.run [.one (.su 0 7 0 7 true)] [some (.cols 7 [.fl .f32 f0, .fl .f32 f1, .fl .f32 f2, .fl .f32 f3, .fl .f32 f4, .fl .f32 f5, .fl .f32 f6])] = .leaf (.tup [.agg [.fl .f32 (VTurningOfBodies_0 7 f0 f1 f2 f3 f4 f5 f6 ), .fl .f32 (VTurningOfBodies_1 7 f0 f1 f2 f3 f4 f5 f6 ), .fl .f32 (VTurningOfBodies_2 7 f0 f1 f2 f3 f4 f5 f6 )], .one (.bo (VTurningOfBodies_3 7 f0 f1 f2 f3 f4 f5 f6 ))], []) := by kernel_rfl
theorem iTurningOfBodies_8 (f0 f1 f2 f3 f4 f5 f6 : Nat → Nat)  : k_i_TurningOfBodies.run [.one (.su 0 7 0 8 true)] [some (.cols 8 [.fl .f32 f0, .fl .f32 f1, .fl .f32 f2, .fl .f32 f3, .fl .f32 f4, .fl .f32 f5, .fl .f32 f6])] = .leaf (.tup [.agg [.fl .f32 (VTurningOfBodies_0 8 f0 f1 f2 f3 f4 f5 f6 ), .fl .f32 (VTurningOfBodies_1 8 f0 f1 f2 f3 f4 f5 f6 ), .fl .f32 (VTurningOfBodies_2 8 f0 f1 f2 f3 f4 f5 f6 )], .one (.bo (VTurningOfBodies_3 8 f0 f1 f2 f3 f4 f5 f6 ))], []) := by kernel_rfl
theorem iTurningOfBodies_9 (f0 f1 f2 f3 f4 f5 f6 : Nat → Nat)  : k_i_TurningOfBodies.run [.one (.su 0 7 0 9 true)] [some (.cols 9 [.fl .f32 f0, .fl .f32 f1, .fl .f32 f2, .fl .f32 f3, .fl .f32 f4, .fl .f32 f5, .fl .f32 f6])] = .leaf (.tup [.agg [.fl .f32 (VTurningOfBodies_0 9 f0 f1 f2 f3 f4 f5 f6 ), .fl .f32 (VTurningOfBodies_1 9 f0 f1 f2 f3 f4 f5 f6 ), .fl .f32 (VTurningOfBodies_2 9 f0 f1 f2 f3 f4 f5 f6 )], .one (.bo (VTurningOfBodies_3 9 f0 f1 f2 f3 f4 f5 f6 ))], []) := by kernel_rfl
theorem iTurningOfBodies_10 (f0 f1 f2 f3 f4 f5 f6 : Nat → Nat)  : k_i_TurningOfBodies.run [.one (.su 0 7 0 10 true)] [some (.cols 10 [.fl .f32 f0, .fl .f32 f1, .fl .f32 f2, .fl .f32 f3, .fl .f32 f4, .fl .f32 f5, .fl .f32 f6])] = .leaf (.tup [.agg [.fl .f32 (VTurningOfBodies_0 10 f0 f1 f2 f3 f4 f5 f6 ), .fl .f32 (VTurningOfBodies_1 10 f0 f1 f2 f3 f4 f5 f6 ), .fl .f32 (VTurningOfBodies_2 10 f0 f1 f2 f3 f4 f5 f6 )], .one (.bo (VTurningOfBodies_3 10 f0 f1 f2 f3 f4 f5 f6 ))], []) := by kernel_rfl
theorem iTurningOfBodies_11 (f0 f1 f2 f3 f4 f5 f6 : Nat → Nat)  : k_i_TurningOfBodies.run [.one (.su 0 7 0 11 true)] [some (.cols 11 [.fl .f32 f0, .fl .f32 f1, .fl .f32 f2, .fl .f32 f3, .fl .f32 f4, .fl .f32 f5, .fl .f32 f6])] = .leaf (.tup [.agg [.fl .f32 (VTurningOfBodies_0 11 f0 f1 f2 f3 f4 f5 f6 ), .fl .f32 (VTurningOfBodies_1 11 f0 f1 f2 f3 f4 f5 f6 ), .fl .f32 (VTurningOfBodies_2 11 f0 f1 f2 f3 f4 f5 f6 )], .one (.bo (VTurningOfBodies_3 11 f0 f1 f2 f3 f4 f5 f6 ))], []) := by kernel_rfl
theorem iTurningOfBodies_12 (f0 f1 f2 f3 f4 f5 f6 : Nat → Nat)  : k_i_TurningOfBodies.run [.one (.su 0 7 0 12 true)] [some (.cols 12 [.fl .f32 f0, .fl .f32 f1, .fl .f32 f2, .fl .f32 f3, .fl .f32 f4, .fl .f32 f5, .fl .f32 f6])] = .leaf (.tup [.agg [.fl .f32 (VTurningOfBodies_0 12 f0 f1 f2 f3 f4 f5 f6 ), .fl .f32 (VTurningOfBodies_1 12 f0 f1 f2 f3 f4 f5 f6 ), .fl .f32 (VTurningOfBodies_2 12 f0 f1 f2 f3 f4 f5 f6 )], .one (.bo (VTurningOfBodies_3 12 f0 f1 f2 f3 f4 f5 f6 ))], []) := by kernel_rfl
theorem iTurningOfBodies_13 (f0 f1 f2 f3 f4 f5 f6 : Nat → Nat)  : k_i_TurningOfBodies.run [.one (.su 0 7 0 13 true)] [some (.cols 13 [.fl .f32 f0, .fl .f32 f1, .fl .f32 f2, .fl .f32 f3, .fl .f32 f4, .fl .f32 f5, .fl .f32 f6])] = .leaf (.tup [.agg [.fl .f32 (VTurningOfBodies_0 13 f0 f1 f2 f3 f4 f5 f6 ), .fl .f32 (VTurningOfBodies_1 13 f0 f1 f2 f3 f4 f5 f6 ), .fl .f32 (VTurningOfBodies_2 13 f0 f1 f2 f3 f4 f5 f6 )], .one (.bo (VTurningOfBodies_3 13 f0 f1 f2 f3 f4 f5 f6 ))], []) := by kernel_rfl
theorem iTurningOfBodies_14 (f0 f1 f2 f3 f4 f5 f6 : Nat → Nat)  : k_i_TurningOfBodies.run [.one (.su 0 7 0 14 true)] [some (.cols 14 [.fl .f32 f0, .fl .f32 f1, .fl .f32 f2, .fl .f32 f3, .fl .f32 f4, .fl .f32 f5, .fl .f32 f6])] = .leaf (.tup [.agg [.fl .f32 (VTurningOfBodies_0 14 f0 f1 f2 f3 f4 f5 f6 ), .fl .f32 (VTurningOfBodies_1 14 f0 f1 f2 f3 f4 f5 f6 ), .fl .f32 (VTurningOfBodies_2 14 f0 f1 f2 f3 f4 f5 f6 )], .one (.bo (VTurningOfBodies_3 14 f0 f1 f2 f3 f4 f5 f6 ))], []) := by kernel_rfl
theorem iTurningOfBodies_15 (f0 f1 f2 f3 f4 f5 f6 : Nat → Nat)  : k_i_TurningOfBodies.run [.one (.su 0 7 0 15 true)] [some (.cols 15 [.fl .f32 f0, .fl .f32 f1, .fl .f32 f2, .fl .f32 f3, .fl .f32 f4, .fl .f32 f5, .fl .f32 f6])] = .leaf (.tup [.agg [.fl .f32 (VTurningOfBodies_0 15 f0 f1 f2 f3 f4 f5 f6 ), .fl .f32 (VTurningOfBodies_1 15 f0 f1 f2 f3 f4 f5 f6 ), .fl .f32 (VTurningOfBodies_2 15 f0 f1 f2 f3 f4 f5 f6 )], .one (.bo (VTurningOfBodies_3 15 f0 f1 f2 f3 f4 f5 f6 ))], []) := by kernel_rfl
theorem iTurningOfBodies_16 (f0 f1 f2 f3 f4 f5 f6 : Nat → Nat)  : k_i_TurningOfBodies.run [.one (.su 0 7 0 16 true)] [some (.cols 16 [.fl .f32 f0, .fl .f32 f1, .fl .f32 f2, .fl .f32 f3, .fl .f32 f4, .fl .f32 f5, .fl .f32 f6])] = .leaf (.tup [.agg [.fl .f32 (VTurningOfBodies_0 16 f0 f1 f2 f3 f4 f5 f6 ), .fl .f32 (VTurningOfBodies_1 16 f0 f1 f2 f3 f4 f5 f6 ), .fl .f32 (VTurningOfBodies_2 16 f0 f1 f2 f3 f4 f5 f6 )], .one (.bo (VTurningOfBodies_3 16 f0 f1 f2 f3 f4 f5 f6 ))], []) := by kernel_rfl

theorem iTurningOfBodies_all (n : Nat) (f0 f1 f2 f3 f4 f5 f6 : Nat → Nat)  (h : n ≤ 16) : k_i_TurningOfBodies.run [.one (.su 0 7 0 n true)] [some (.cols n [.fl .f32 f0, .fl .f32 f1, .fl .f32 f2, .fl .f32 f3, .fl .f32 f4, .fl .f32 f5, .fl .f32 f6])] = .leaf (.tup [.agg [.fl .f32 (VTurningOfBodies_0 n f0 f1 f2 f3 f4 f5 f6 ), .fl .f32 (VTurningOfBodies_1 n f0 f1 f2 f3 f4 f5 f6 ), .fl .f32 (VTurningOfBodies_2 n f0 f1 f2 f3 f4 f5 f6 )], .one (.bo (VTurningOfBodies_3 n f0 f1 f2 f3 f4 f5 f6 ))], []) := by
  rcases (by omega : n = 0 ∨ n = 1 ∨ n = 2 ∨ n = 3 ∨ n = 4 ∨ n = 5 ∨ n = 6 ∨ n = 7 ∨ n = 8 ∨ n = 9 ∨ n = 10 ∨ n = 11 ∨ n = 12 ∨ n = 13 ∨ n = 14 ∨ n = 15 ∨ n = 16) with rfl | rfl | rfl | rfl | rfl | rfl | rfl | rfl | rfl | rfl | rfl | rfl | rfl | rfl | rfl | rfl | rfl
  · exact iTurningOfBodies_0 f0 f1 f2 f3 f4 f5 f6 
  · exact iTurningOfBodies_1 f0 f1 f2 f3 f4 f5 f6 
  · exact iTurningOfBodies_2 f0 f1 f2 f3 f4 f5 f6 
  · exact iTurningOfBodies_3 f0 f1 f2 f3 f4 f5 f6 
  · exact iTurningOfBodies_4 f0 f1 f2 f3 f4 f5 f6 
  · exact iTurningOfBodies_5 f0 f1 f2 f3 f4 f5 f6 
  · exact iTurningOfBodies_6 f0 f1 f2 f3 f4 f5 f6 
  · exact iTurningOfBodies_7 f0 f1 f2 f3 f4 f5 f6 
  · exact iTurningOfBodies_8 f0 f1 f2 f3 f4 f5 f6 
  · exact iTurningOfBodies_9 f0 f1 f2 f3 f4 f5 f6 
  · exact iTurningOfBodies_10 f0 f1 f2 f3 f4 f5 f6 
  · exact iTurningOfBodies_11 f0 f1 f2 f3 f4 f5 f6 
  · exact iTurningOfBodies_12 f0 f1 f2 f3 f4 f5 f6 
  · exact iTurningOfBodies_13 f0 f1 f2 f3 f4 f5 f6 
  · exact iTurningOfBodies_14 f0 f1 f2 f3 f4 f5 f6 
  · exact iTurningOfBodies_15 f0 f1 f2 f3 f4 f5 f6 
  · exact iTurningOfBodies_16 f0 f1 f2 f3 f4 f5 f6 

theorem iTurningOfBodies_mo (n : Nat) (f0 f1 f2 f3 f4 f5 f6 : Nat → Nat)  : k_q_i_TurningOfBodies.run [.one (.su 0 7 0 n false)] [some (.cols n [.fl .f32 f0, .fl .f32 f1, .fl .f32 f2, .fl .f32 f3, .fl .f32 f4, .fl .f32 f5, .fl .f32 f6])] = .need (decide (n ≤ n)) (.need (decide (16 < n)) (.leaf (.tup [.agg [.fl .f32 (svFl (cellAt (k_q_s_TurningOfBodies.run [.one (.su 0 7 0 n false)] [some (.cols n [.fl .f32 f0, .fl .f32 f1, .fl .f32 f2, .fl .f32 f3, .fl .f32 f4, .fl .f32 f5, .fl .f32 f6])]) 0)), .fl .f32 (svFl (cellAt (k_q_s_TurningOfBodies.run [.one (.su 0 7 0 n false)] [some (.cols n [.fl .f32 f0, .fl .f32 f1, .fl .f32 f2, .fl .f32 f3, .fl .f32 f4, .fl .f32 f5, .fl .f32 f6])]) 1)), .fl .f32 (svFl (cellAt (k_q_s_TurningOfBodies.run [.one (.su 0 7 0 n false)] [some (.cols n [.fl .f32 f0, .fl .f32 f1, .fl .f32 f2, .fl .f32 f3, .fl .f32 f4, .fl .f32 f5, .fl .f32 f6])]) 2))], .one (.tt false)], []))) := by kernel_rfl
theorem iTurningOfBodies_le (n : Nat) (f0 f1 f2 f3 f4 f5 f6 : Nat → Nat)  (h : 16 < n) : le2 (.tup [.agg [.fl .f32 (svFl (cellAt (k_q_s_TurningOfBodies.run [.one (.su 0 7 0 n false)] [some (.cols n [.fl .f32 f0, .fl .f32 f1, .fl .f32 f2, .fl .f32 f3, .fl .f32 f4, .fl .f32 f5, .fl .f32 f6])]) 0)), .fl .f32 (svFl (cellAt (k_q_s_TurningOfBodies.run [.one (.su 0 7 0 n false)] [some (.cols n [.fl .f32 f0, .fl .f32 f1, .fl .f32 f2, .fl .f32 f3, .fl .f32 f4, .fl .f32 f5, .fl .f32 f6])]) 1)), .fl .f32 (svFl (cellAt (k_q_s_TurningOfBodies.run [.one (.su 0 7 0 n false)] [some (.cols n [.fl .f32 f0, .fl .f32 f1, .fl .f32 f2, .fl .f32 f3, .fl .f32 f4, .fl .f32 f5, .fl .f32 f6])]) 2))], .one (.tt false)], []) (.tup [.agg [.fl .f32 (VTurningOfBodies_0 n f0 f1 f2 f3 f4 f5 f6 ), .fl .f32 (VTurningOfBodies_1 n f0 f1 f2 f3 f4 f5 f6 ), .fl .f32 (VTurningOfBodies_2 n f0 f1 f2 f3 f4 f5 f6 )], .one (.bo (VTurningOfBodies_3 n f0 f1 f2 f3 f4 f5 f6 ))], []) := by
  have e : decide (n ≤ 16) = false := decide_eq_false (by omega)
  refine ⟨trivial, fun ρ v hv => ?_⟩
  have hb : ∀ {α : Type} (x y : α), cond (decide (n ≤ 16)) x y = y := fun x y => by rw [e]; rfl
  unfold VTurningOfBodies_0 VTurningOfBodies_1 VTurningOfBodies_2 VTurningOfBodies_3
  simp only [hb]
  refine tup_le ?_ ρ v hv
  exact ⟨fun _ _ h => h, fun _ _ h => h, trivial⟩
noncomputable def run_iTurningOfBodies : List AV → Mem → T Res
  | [.one (.su 0 7 0 n kn)], [some (.cols m [.fl .f32 f0, .fl .f32 f1, .fl .f32 f2, .fl .f32 f3, .fl .f32 f4, .fl .f32 f5, .fl .f32 f6])] => .need (decide (n ≤ m)) (.leaf (.tup [.agg [.fl .f32 (VTurningOfBodies_0 n f0 f1 f2 f3 f4 f5 f6 ), .fl .f32 (VTurningOfBodies_1 n f0 f1 f2 f3 f4 f5 f6 ), .fl .f32 (VTurningOfBodies_2 n f0 f1 f2 f3 f4 f5 f6 )], .one (.bo (VTurningOfBodies_3 n f0 f1 f2 f3 f4 f5 f6 ))], []))
  | _, _ => .fail
noncomputable def k_iTurningOfBodies : Ctr Try.prog := (k_i_TurningOfBodies.two k_q_i_TurningOfBodies (by kernel_rfl) run_iTurningOfBodies (by
  intro args mem _ Φ hΦ h
  unfold run_iTurningOfBodies at h
  split at h
  · rename_i n kn  m f0 f1 f2 f3 f4 f5 f6 _
    have hm : n ≤ m := of_decide_eq_true h.1
    have h2 : Φ (.tup [.agg [.fl .f32 (VTurningOfBodies_0 n f0 f1 f2 f3 f4 f5 f6 ), .fl .f32 (VTurningOfBodies_1 n f0 f1 f2 f3 f4 f5 f6 ), .fl .f32 (VTurningOfBodies_2 n f0 f1 f2 f3 f4 f5 f6 )], .one (.bo (VTurningOfBodies_3 n f0 f1 f2 f3 f4 f5 f6 ))], []) := h.2
    by_cases h16 : n ≤ 16
    · refine ⟨[.one (.su 0 7 0 n true)], [some (.cols n [.fl .f32 f0, .fl .f32 f1, .fl .f32 f2, .fl .f32 f3, .fl .f32 f4, .fl .f32 f5, .fl .f32 f6])], fun ρ vals hv => known_su ρ vals hv, ⟨BlLe.cols_le hm, trivial⟩, .inl ?_⟩
      rw [iTurningOfBodies_all _ _ _ _ _ _ _ _  h16]
      exact T.h_leaf h2
    · refine ⟨[.one (.su 0 7 0 n false)], [some (.cols n [.fl .f32 f0, .fl .f32 f1, .fl .f32 f2, .fl .f32 f3, .fl .f32 f4, .fl .f32 f5, .fl .f32 f6])], fun ρ vals hv => unknown_su ρ vals hv, ⟨BlLe.cols_le hm, trivial⟩, .inr ?_⟩
      rw [iTurningOfBodies_mo _ _ _ _ _ _ _ _ ]
      exact T.h_need (by simp) (T.h_need (decide_eq_true (by omega)) (T.h_leaf (hΦ _ _ (iTurningOfBodies_le n f0 f1 f2 f3 f4 f5 f6  (by omega)) h2)))
  · exact h.elim)).su.own


end MMo2

end Go.Proofs.Ytdkhpadbpeapjaa
