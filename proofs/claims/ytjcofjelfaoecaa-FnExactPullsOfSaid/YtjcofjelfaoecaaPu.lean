/-
  The sum of pulls: both functions in the same words. No conditions.
-/
import Derived.Test.YtjcofjelfaoecaaMb
namespace Go.Proofs.Ytjcofjelfaoecaa
set_option linter.unusedVariables false
set_option linter.unusedSimpArgs false
open Go.RowKit

noncomputable def k_pu_s_l01VLess : Ctr Try.prog := (mkF Try.prog mix [] 51 Try.f51 (bodyOf Try.f51) Try.func51 (by kernel_rfl) (by kernel_rfl) [0, 1, 2, 3, 4] 21 (by kernel_rfl) (by kernel_rfl)).mg
noncomputable def k_pu_s_l01VInner : Ctr Try.prog := (mkF Try.prog mix [] 52 Try.f52 (bodyOf Try.f52) Try.func52 (by kernel_rfl) (by kernel_rfl) [0, 1, 2, 3, 4] 22 (by kernel_rfl) (by kernel_rfl)).mg
noncomputable def k_pu_s_l01VAdd : Ctr Try.prog := (mkF Try.prog mix [] 79 Try.f79 (bodyOf Try.f79) Try.func79 (by kernel_rfl) (by kernel_rfl) [0, 1, 2, 3, 4] 21 (by kernel_rfl) (by kernel_rfl)).mg
noncomputable def k_pu_s_l01VScale : Ctr Try.prog := (mkF Try.prog mix [] 80 Try.f80 (bodyOf Try.f80) Try.func80 (by kernel_rfl) (by kernel_rfl) [0, 1, 2, 4] 18 (by kernel_rfl) (by kernel_rfl)).mg
noncomputable def k_pu_i_LessVectors : Ctr Try.prog := (mkF Try.prog mix [] 58 Try.f58 (bodyOf Try.f58) Try.func58 (by kernel_rfl) (by kernel_rfl) [0, 1, 2, 3, 4] 21 (by kernel_rfl) (by kernel_rfl)).mg
noncomputable def k_pu_i_InnerOf : Ctr Try.prog := (mkF Try.prog mix [] 59 Try.f59 (bodyOf Try.f59) Try.func59 (by kernel_rfl) (by kernel_rfl) [0, 1, 2, 3, 4] 22 (by kernel_rfl) (by kernel_rfl)).mg
noncomputable def k_pu_i_softened : Ctr Try.prog := (mkF Try.prog mix [k_pu_i_InnerOf] 68 Try.f68 (bodyOf Try.f68) Try.func68 (by kernel_rfl) (by kernel_rfl) [0, 1, 2, 4] 12 (by kernel_rfl) (by kernel_rfl)).mg
noncomputable def k_pu_i_AddVectors : Ctr Try.prog := (mkF Try.prog mix [] 99 Try.f99 (bodyOf Try.f99) Try.func99 (by kernel_rfl) (by kernel_rfl) [0, 1, 2, 3, 4] 21 (by kernel_rfl) (by kernel_rfl)).mg
noncomputable def k_pu_i_ScaleVector : Ctr Try.prog := (mkF Try.prog mix [] 82 Try.f82 (bodyOf Try.f82) Try.func82 (by kernel_rfl) (by kernel_rfl) [0, 1, 2, 4] 18 (by kernel_rfl) (by kernel_rfl)).mg
def puQ (f0 f1 f2 : Nat → Nat) (x0 x1 x2 core j : Nat) : Nat := fadd .f32 (fadd .f32 (fadd .f32 (fmul .f32 (fsub .f32 (f0 j) x0) (fsub .f32 (f0 j) x0)) (fmul .f32 (fsub .f32 (f1 j) x1) (fsub .f32 (f1 j) x1))) (fmul .f32 (fsub .f32 (f2 j) x2) (fsub .f32 (f2 j) x2))) (fmul .f32 core core)
def puB (f0 f1 f2 f6 : Nat → Nat) (x0 x1 x2 core j : Nat) : Nat := fdiv .f32 (f6 j) (fmul .f32 (puQ f0 f1 f2 x0 x1 x2 core j) (rootV (puQ f0 f1 f2 x0 x1 x2 core j)))
def puS (f0 f1 f2 : Nat → Nat) (x0 x1 x2 core : Nat) (skip : Int) (j : Nat) : Bool := bif decide ((j : Int) = skip) then true else !fgt .f32 (puQ f0 f1 f2 x0 x1 x2 core j) (canon .f32 0)
def puG (f0 f1 f2 f6 : Nat → Nat) (x0 x1 x2 core : Nat) (skip : Int) (j : Nat) (a : Nat × Nat × Nat) : Nat × Nat × Nat :=
  bif puS f0 f1 f2 x0 x1 x2 core skip j then a else (fadd .f32 a.1 (fmul .f32 (fsub .f32 (f0 j) x0) (puB f0 f1 f2 f6 x0 x1 x2 core j)), fadd .f32 a.2.1 (fmul .f32 (fsub .f32 (f1 j) x1) (puB f0 f1 f2 f6 x0 x1 x2 core j)), fadd .f32 a.2.2 (fmul .f32 (fsub .f32 (f2 j) x2) (puB f0 f1 f2 f6 x0 x1 x2 core j)))
structure Cpu where
  n : Nat
  m : Nat
  f0 : Nat → Nat
  f1 : Nat → Nat
  f2 : Nat → Nat
  f3 : Nat → Nat
  f4 : Nat → Nat
  f5 : Nat → Nat
  f6 : Nat → Nat
  skip : Int
  core : Nat
def Cpu.base (c : Cpu) : Mem := [some (.cols c.m [.fl .f32 c.f0, .fl .f32 c.f1, .fl .f32 c.f2, .fl .f32 c.f3, .fl .f32 c.f4, .fl .f32 c.f5, .fl .f32 c.f6])]
structure Vpu where
  i : Int
  x0 : Nat
  x1 : Nat
  x2 : Nat
  y0 : Nat
  y1 : Nat
  y2 : Nat
  a0 : Nat
  a1 : Nat
  a2 : Nat
noncomputable abbrev puRoot : Code := bodyOf Try.f75
def pu_st (c : Cpu) (v : Vpu) : FSt := ⟨[(0, .one (.su 0 7 0 c.n false)), (1, .one (.num .i64 c.skip)), (3, .one (.fl .f32 c.core)), (6, .one (.ptr 1 3 0 0)), (8, .one (.ptr 2 3 0 0)), (9, .one (.ptr 3 3 0 0)), (10, .one (.num .i64 v.i))], c.base ++ [some (.box [.fl .f32 v.x0, .fl .f32 v.x1, .fl .f32 v.x2]), some (.box [.fl .f32 v.y0, .fl .f32 v.y1, .fl .f32 v.y2]), some (.box [.fl .f32 v.a0, .fl .f32 v.a1, .fl .f32 v.a2])]⟩
def pu_step (c : Cpu) (v : Vpu) : T (Nx Vpu) :=
  .ite (decide (v.1 < ↑c.1)) (.need (decide (0 ≤ v.1) && decide (v.1 < ↑c.1)) (.need (decide (v.1.toNat + 0 < c.2)) (.need (bif bif decide (v.1 = c.10) then true else !fgt FloatKind.f32 (fadd FloatKind.f32 (fadd FloatKind.f32 (fadd FloatKind.f32 (fmul FloatKind.f32 (fsub FloatKind.f32 (c.3 (v.1.toNat + 0)) v.2) (fsub FloatKind.f32 (c.3 (v.1.toNat + 0)) v.2)) (fmul FloatKind.f32 (fsub FloatKind.f32 (c.4 (v.1.toNat + 0)) v.3) (fsub FloatKind.f32 (c.4 (v.1.toNat + 0)) v.3))) (fmul FloatKind.f32 (fsub FloatKind.f32 (c.5 (v.1.toNat + 0)) v.4) (fsub FloatKind.f32 (c.5 (v.1.toNat + 0)) v.4))) (fmul FloatKind.f32 c.11 c.11)) (canon FloatKind.f32 0) then true else decide (0 ≤ v.1) && decide (v.1 < ↑c.1)) (.need (bif bif decide (v.1 = c.10) then true else !fgt FloatKind.f32 (fadd FloatKind.f32 (fadd FloatKind.f32 (fadd FloatKind.f32 (fmul FloatKind.f32 (fsub FloatKind.f32 (c.3 (v.1.toNat + 0)) v.2) (fsub FloatKind.f32 (c.3 (v.1.toNat + 0)) v.2)) (fmul FloatKind.f32 (fsub FloatKind.f32 (c.4 (v.1.toNat + 0)) v.3) (fsub FloatKind.f32 (c.4 (v.1.toNat + 0)) v.3))) (fmul FloatKind.f32 (fsub FloatKind.f32 (c.5 (v.1.toNat + 0)) v.4) (fsub FloatKind.f32 (c.5 (v.1.toNat + 0)) v.4))) (fmul FloatKind.f32 c.11 c.11)) (canon FloatKind.f32 0) then true else decide (v.1.toNat + 0 < c.2)) (.leaf (.go { i := IntKind.i64.wrap (v.1 + 1), x0 := (bif bif decide (v.1 = c.10) then true else !fgt FloatKind.f32 (fadd FloatKind.f32 (fadd FloatKind.f32 (fadd FloatKind.f32 (fmul FloatKind.f32 (fsub FloatKind.f32 (c.3 (v.1.toNat + 0)) v.2) (fsub FloatKind.f32 (c.3 (v.1.toNat + 0)) v.2)) (fmul FloatKind.f32 (fsub FloatKind.f32 (c.4 (v.1.toNat + 0)) v.3) (fsub FloatKind.f32 (c.4 (v.1.toNat + 0)) v.3))) (fmul FloatKind.f32 (fsub FloatKind.f32 (c.5 (v.1.toNat + 0)) v.4) (fsub FloatKind.f32 (c.5 (v.1.toNat + 0)) v.4))) (fmul FloatKind.f32 c.11 c.11)) (canon FloatKind.f32 0) then v.2 else v.2), x1 := (bif bif decide (v.1 = c.10) then true else !fgt FloatKind.f32 (fadd FloatKind.f32 (fadd FloatKind.f32 (fadd FloatKind.f32 (fmul FloatKind.f32 (fsub FloatKind.f32 (c.3 (v.1.toNat + 0)) v.2) (fsub FloatKind.f32 (c.3 (v.1.toNat + 0)) v.2)) (fmul FloatKind.f32 (fsub FloatKind.f32 (c.4 (v.1.toNat + 0)) v.3) (fsub FloatKind.f32 (c.4 (v.1.toNat + 0)) v.3))) (fmul FloatKind.f32 (fsub FloatKind.f32 (c.5 (v.1.toNat + 0)) v.4) (fsub FloatKind.f32 (c.5 (v.1.toNat + 0)) v.4))) (fmul FloatKind.f32 c.11 c.11)) (canon FloatKind.f32 0) then v.3 else v.3), x2 := (bif bif decide (v.1 = c.10) then true else !fgt FloatKind.f32 (fadd FloatKind.f32 (fadd FloatKind.f32 (fadd FloatKind.f32 (fmul FloatKind.f32 (fsub FloatKind.f32 (c.3 (v.1.toNat + 0)) v.2) (fsub FloatKind.f32 (c.3 (v.1.toNat + 0)) v.2)) (fmul FloatKind.f32 (fsub FloatKind.f32 (c.4 (v.1.toNat + 0)) v.3) (fsub FloatKind.f32 (c.4 (v.1.toNat + 0)) v.3))) (fmul FloatKind.f32 (fsub FloatKind.f32 (c.5 (v.1.toNat + 0)) v.4) (fsub FloatKind.f32 (c.5 (v.1.toNat + 0)) v.4))) (fmul FloatKind.f32 c.11 c.11)) (canon FloatKind.f32 0) then v.4 else v.4), y0 := (bif bif decide (v.1 = c.10) then true else !fgt FloatKind.f32 (fadd FloatKind.f32 (fadd FloatKind.f32 (fadd FloatKind.f32 (fmul FloatKind.f32 (fsub FloatKind.f32 (c.3 (v.1.toNat + 0)) v.2) (fsub FloatKind.f32 (c.3 (v.1.toNat + 0)) v.2)) (fmul FloatKind.f32 (fsub FloatKind.f32 (c.4 (v.1.toNat + 0)) v.3) (fsub FloatKind.f32 (c.4 (v.1.toNat + 0)) v.3))) (fmul FloatKind.f32 (fsub FloatKind.f32 (c.5 (v.1.toNat + 0)) v.4) (fsub FloatKind.f32 (c.5 (v.1.toNat + 0)) v.4))) (fmul FloatKind.f32 c.11 c.11)) (canon FloatKind.f32 0) then v.5 else v.5), y1 := (bif bif decide (v.1 = c.10) then true else !fgt FloatKind.f32 (fadd FloatKind.f32 (fadd FloatKind.f32 (fadd FloatKind.f32 (fmul FloatKind.f32 (fsub FloatKind.f32 (c.3 (v.1.toNat + 0)) v.2) (fsub FloatKind.f32 (c.3 (v.1.toNat + 0)) v.2)) (fmul FloatKind.f32 (fsub FloatKind.f32 (c.4 (v.1.toNat + 0)) v.3) (fsub FloatKind.f32 (c.4 (v.1.toNat + 0)) v.3))) (fmul FloatKind.f32 (fsub FloatKind.f32 (c.5 (v.1.toNat + 0)) v.4) (fsub FloatKind.f32 (c.5 (v.1.toNat + 0)) v.4))) (fmul FloatKind.f32 c.11 c.11)) (canon FloatKind.f32 0) then v.6 else v.6), y2 := (bif bif decide (v.1 = c.10) then true else !fgt FloatKind.f32 (fadd FloatKind.f32 (fadd FloatKind.f32 (fadd FloatKind.f32 (fmul FloatKind.f32 (fsub FloatKind.f32 (c.3 (v.1.toNat + 0)) v.2) (fsub FloatKind.f32 (c.3 (v.1.toNat + 0)) v.2)) (fmul FloatKind.f32 (fsub FloatKind.f32 (c.4 (v.1.toNat + 0)) v.3) (fsub FloatKind.f32 (c.4 (v.1.toNat + 0)) v.3))) (fmul FloatKind.f32 (fsub FloatKind.f32 (c.5 (v.1.toNat + 0)) v.4) (fsub FloatKind.f32 (c.5 (v.1.toNat + 0)) v.4))) (fmul FloatKind.f32 c.11 c.11)) (canon FloatKind.f32 0) then v.7 else v.7), a0 := (bif bif decide (v.1 = c.10) then true else !fgt FloatKind.f32 (fadd FloatKind.f32 (fadd FloatKind.f32 (fadd FloatKind.f32 (fmul FloatKind.f32 (fsub FloatKind.f32 (c.3 (v.1.toNat + 0)) v.2) (fsub FloatKind.f32 (c.3 (v.1.toNat + 0)) v.2)) (fmul FloatKind.f32 (fsub FloatKind.f32 (c.4 (v.1.toNat + 0)) v.3) (fsub FloatKind.f32 (c.4 (v.1.toNat + 0)) v.3))) (fmul FloatKind.f32 (fsub FloatKind.f32 (c.5 (v.1.toNat + 0)) v.4) (fsub FloatKind.f32 (c.5 (v.1.toNat + 0)) v.4))) (fmul FloatKind.f32 c.11 c.11)) (canon FloatKind.f32 0) then v.8 else fadd FloatKind.f32 v.8 (fmul FloatKind.f32 (fsub FloatKind.f32 (c.3 (v.1.toNat + 0)) v.2) (fdiv FloatKind.f32 (c.9 (v.1.toNat + 0)) (fmul FloatKind.f32 (fadd FloatKind.f32 (fadd FloatKind.f32 (fadd FloatKind.f32 (fmul FloatKind.f32 (fsub FloatKind.f32 (c.3 (v.1.toNat + 0)) v.2) (fsub FloatKind.f32 (c.3 (v.1.toNat + 0)) v.2)) (fmul FloatKind.f32 (fsub FloatKind.f32 (c.4 (v.1.toNat + 0)) v.3) (fsub FloatKind.f32 (c.4 (v.1.toNat + 0)) v.3))) (fmul FloatKind.f32 (fsub FloatKind.f32 (c.5 (v.1.toNat + 0)) v.4) (fsub FloatKind.f32 (c.5 (v.1.toNat + 0)) v.4))) (fmul FloatKind.f32 c.11 c.11)) (rootV (fadd FloatKind.f32 (fadd FloatKind.f32 (fadd FloatKind.f32 (fmul FloatKind.f32 (fsub FloatKind.f32 (c.3 (v.1.toNat + 0)) v.2) (fsub FloatKind.f32 (c.3 (v.1.toNat + 0)) v.2)) (fmul FloatKind.f32 (fsub FloatKind.f32 (c.4 (v.1.toNat + 0)) v.3) (fsub FloatKind.f32 (c.4 (v.1.toNat + 0)) v.3))) (fmul FloatKind.f32 (fsub FloatKind.f32 (c.5 (v.1.toNat + 0)) v.4) (fsub FloatKind.f32 (c.5 (v.1.toNat + 0)) v.4))) (fmul FloatKind.f32 c.11 c.11))))))), a1 := (bif bif decide (v.1 = c.10) then true else !fgt FloatKind.f32 (fadd FloatKind.f32 (fadd FloatKind.f32 (fadd FloatKind.f32 (fmul FloatKind.f32 (fsub FloatKind.f32 (c.3 (v.1.toNat + 0)) v.2) (fsub FloatKind.f32 (c.3 (v.1.toNat + 0)) v.2)) (fmul FloatKind.f32 (fsub FloatKind.f32 (c.4 (v.1.toNat + 0)) v.3) (fsub FloatKind.f32 (c.4 (v.1.toNat + 0)) v.3))) (fmul FloatKind.f32 (fsub FloatKind.f32 (c.5 (v.1.toNat + 0)) v.4) (fsub FloatKind.f32 (c.5 (v.1.toNat + 0)) v.4))) (fmul FloatKind.f32 c.11 c.11)) (canon FloatKind.f32 0) then v.9 else fadd FloatKind.f32 v.9 (fmul FloatKind.f32 (fsub FloatKind.f32 (c.4 (v.1.toNat + 0)) v.3) (fdiv FloatKind.f32 (c.9 (v.1.toNat + 0)) (fmul FloatKind.f32 (fadd FloatKind.f32 (fadd FloatKind.f32 (fadd FloatKind.f32 (fmul FloatKind.f32 (fsub FloatKind.f32 (c.3 (v.1.toNat + 0)) v.2) (fsub FloatKind.f32 (c.3 (v.1.toNat + 0)) v.2)) (fmul FloatKind.f32 (fsub FloatKind.f32 (c.4 (v.1.toNat + 0)) v.3) (fsub FloatKind.f32 (c.4 (v.1.toNat + 0)) v.3))) (fmul FloatKind.f32 (fsub FloatKind.f32 (c.5 (v.1.toNat + 0)) v.4) (fsub FloatKind.f32 (c.5 (v.1.toNat + 0)) v.4))) (fmul FloatKind.f32 c.11 c.11)) (rootV (fadd FloatKind.f32 (fadd FloatKind.f32 (fadd FloatKind.f32 (fmul FloatKind.f32 (fsub FloatKind.f32 (c.3 (v.1.toNat + 0)) v.2) (fsub FloatKind.f32 (c.3 (v.1.toNat + 0)) v.2)) (fmul FloatKind.f32 (fsub FloatKind.f32 (c.4 (v.1.toNat + 0)) v.3) (fsub FloatKind.f32 (c.4 (v.1.toNat + 0)) v.3))) (fmul FloatKind.f32 (fsub FloatKind.f32 (c.5 (v.1.toNat + 0)) v.4) (fsub FloatKind.f32 (c.5 (v.1.toNat + 0)) v.4))) (fmul FloatKind.f32 c.11 c.11))))))), a2 := (bif bif decide (v.1 = c.10) then true else !fgt FloatKind.f32 (fadd FloatKind.f32 (fadd FloatKind.f32 (fadd FloatKind.f32 (fmul FloatKind.f32 (fsub FloatKind.f32 (c.3 (v.1.toNat + 0)) v.2) (fsub FloatKind.f32 (c.3 (v.1.toNat + 0)) v.2)) (fmul FloatKind.f32 (fsub FloatKind.f32 (c.4 (v.1.toNat + 0)) v.3) (fsub FloatKind.f32 (c.4 (v.1.toNat + 0)) v.3))) (fmul FloatKind.f32 (fsub FloatKind.f32 (c.5 (v.1.toNat + 0)) v.4) (fsub FloatKind.f32 (c.5 (v.1.toNat + 0)) v.4))) (fmul FloatKind.f32 c.11 c.11)) (canon FloatKind.f32 0) then v.10 else fadd FloatKind.f32 v.10 (fmul FloatKind.f32 (fsub FloatKind.f32 (c.5 (v.1.toNat + 0)) v.4) (fdiv FloatKind.f32 (c.9 (v.1.toNat + 0)) (fmul FloatKind.f32 (fadd FloatKind.f32 (fadd FloatKind.f32 (fadd FloatKind.f32 (fmul FloatKind.f32 (fsub FloatKind.f32 (c.3 (v.1.toNat + 0)) v.2) (fsub FloatKind.f32 (c.3 (v.1.toNat + 0)) v.2)) (fmul FloatKind.f32 (fsub FloatKind.f32 (c.4 (v.1.toNat + 0)) v.3) (fsub FloatKind.f32 (c.4 (v.1.toNat + 0)) v.3))) (fmul FloatKind.f32 (fsub FloatKind.f32 (c.5 (v.1.toNat + 0)) v.4) (fsub FloatKind.f32 (c.5 (v.1.toNat + 0)) v.4))) (fmul FloatKind.f32 c.11 c.11)) (rootV (fadd FloatKind.f32 (fadd FloatKind.f32 (fadd FloatKind.f32 (fmul FloatKind.f32 (fsub FloatKind.f32 (c.3 (v.1.toNat + 0)) v.2) (fsub FloatKind.f32 (c.3 (v.1.toNat + 0)) v.2)) (fmul FloatKind.f32 (fsub FloatKind.f32 (c.4 (v.1.toNat + 0)) v.3) (fsub FloatKind.f32 (c.4 (v.1.toNat + 0)) v.3))) (fmul FloatKind.f32 (fsub FloatKind.f32 (c.5 (v.1.toNat + 0)) v.4) (fsub FloatKind.f32 (c.5 (v.1.toNat + 0)) v.4))) (fmul FloatKind.f32 c.11 c.11))))))) })))))) (.leaf (.out (EX.exit 0) ⟨[(0, AV.one (SV.su 0 7 0 c.1 false)), (1, AV.one (SV.num IntKind.i64 c.10)), (3, AV.one (SV.fl FloatKind.f32 c.11)), (6, AV.one (SV.ptr 1 3 0 0)), (8, AV.one (SV.ptr 2 3 0 0)), (9, AV.one (SV.ptr 3 3 0 0)), (10, AV.one (SV.num IntKind.i64 v.1))], c.base ++ [some (.box [.fl .f32 v.x0, .fl .f32 v.x1, .fl .f32 v.x2]), some (.box [.fl .f32 v.y0, .fl .f32 v.y1, .fl .f32 v.y2]), some (.box [.fl .f32 v.a0, .fl .f32 v.a1, .fl .f32 v.a2])]⟩))
theorem pu_round (c : Cpu) (v : Vpu) : roundF Try.prog 57 [k_pu_s_l01VLess, k_pu_s_l01VInner, k_l01Sqrt, k_pu_s_l01VScale, k_pu_s_l01VAdd] puRoot [] c.base [0, 1, 2, 3, 6, 8, 9, 10, 11, 12, 17, 41, 198] [0, 1, 3, 6, 8, 9, 10] 0 (pu_st c v) = (pu_step c v).map (nxF (pu_st c)) := by kernel_rfl
def pu_g (c : Cpu) (j : Nat) (a : Nat × Nat × Nat × Nat × Nat × Nat × Nat × Nat × Nat) : Nat × Nat × Nat × Nat × Nat × Nat × Nat × Nat × Nat := (bif puS c.f0 c.f1 c.f2 (a.1) (a.2.1) (a.2.2.1) c.core c.skip j then a.1 else a.1, bif puS c.f0 c.f1 c.f2 (a.1) (a.2.1) (a.2.2.1) c.core c.skip j then a.2.1 else a.2.1, bif puS c.f0 c.f1 c.f2 (a.1) (a.2.1) (a.2.2.1) c.core c.skip j then a.2.2.1 else a.2.2.1, bif puS c.f0 c.f1 c.f2 (a.1) (a.2.1) (a.2.2.1) c.core c.skip j then a.2.2.2.1 else a.2.2.2.1, bif puS c.f0 c.f1 c.f2 (a.1) (a.2.1) (a.2.2.1) c.core c.skip j then a.2.2.2.2.1 else a.2.2.2.2.1, bif puS c.f0 c.f1 c.f2 (a.1) (a.2.1) (a.2.2.1) c.core c.skip j then a.2.2.2.2.2.1 else a.2.2.2.2.2.1, bif puS c.f0 c.f1 c.f2 (a.1) (a.2.1) (a.2.2.1) c.core c.skip j then a.2.2.2.2.2.2.1 else fadd .f32 (a.2.2.2.2.2.2.1) (fmul .f32 (fsub .f32 (c.f0 j) (a.1)) (puB c.f0 c.f1 c.f2 c.f6 (a.1) (a.2.1) (a.2.2.1) c.core j)), bif puS c.f0 c.f1 c.f2 (a.1) (a.2.1) (a.2.2.1) c.core c.skip j then a.2.2.2.2.2.2.2.1 else fadd .f32 (a.2.2.2.2.2.2.2.1) (fmul .f32 (fsub .f32 (c.f1 j) (a.2.1)) (puB c.f0 c.f1 c.f2 c.f6 (a.1) (a.2.1) (a.2.2.1) c.core j)), bif puS c.f0 c.f1 c.f2 (a.1) (a.2.1) (a.2.2.1) c.core c.skip j then a.2.2.2.2.2.2.2.2 else fadd .f32 (a.2.2.2.2.2.2.2.2) (fmul .f32 (fsub .f32 (c.f2 j) (a.2.2.1)) (puB c.f0 c.f1 c.f2 c.f6 (a.1) (a.2.1) (a.2.2.1) c.core j)))
def pu_ok (c : Cpu) (v : Vpu) : Bool := decide (c.n ≤ c.m ∧ c.n ≤ 1099511627776 ∧ 0 ≤ v.i ∧ v.i ≤ ((c.n : Nat) : Int))
def pu_fin (c : Cpu) (a : Nat × Nat × Nat × Nat × Nat × Nat × Nat × Nat × Nat) : FSt := pu_st c ({ i := (c.n : Int), x0 := a.1, x1 := a.2.1, x2 := a.2.2.1, y0 := a.2.2.2.1, y1 := a.2.2.2.2.1, y2 := a.2.2.2.2.2.1, a0 := a.2.2.2.2.2.2.1, a1 := a.2.2.2.2.2.2.2.1, a2 := a.2.2.2.2.2.2.2.2 })
noncomputable def pu_R (x : Cpu × Vpu) : T (EX × FSt) := .need (pu_ok x.1 x.2) (.leaf (.normal, pu_fin x.1 (iter (pu_g x.1) (x.1.n - x.2.i.toNat) x.2.i.toNat (x.2.x0, x.2.x1, x.2.x2, x.2.y0, x.2.y1, x.2.y2, x.2.a0, x.2.a1, x.2.a2))))
theorem pu_tri (x : Cpu × Vpu) : TriR Try.prog 57 x.1.base (.block 0 (.loop (bodyB puRoot 0))) (pu_st x.1 x.2) (pu_R x) := by
  obtain ⟨c, v⟩ := x
  refine triR_of mix (root := puRoot) (by kernel_rfl) (by kernel_rfl) [0, 1, 2, 3, 6, 8, 9, 10, 11, 12, 17, 41, 198] [0, 1, 3, 6, 8, 9, 10] (pu_st c) (pu_step c) (pu_round c) v _ ((c.n - v.i.toNat) + 1) (fun Φ h => ?_)
  have h0 := h.1
  have h1 : Φ (.normal, pu_fin c (iter (pu_g c) (c.n - v.i.toNat) v.i.toNat (v.x0, v.x1, v.x2, v.y0, v.y1, v.y2, v.a0, v.a1, v.a2))) := h.2
  simp only [pu_ok, decide_eq_true_eq] at h0
  obtain ⟨hk0, hk1, hi0, hin⟩ := h0
  have hv : v = (fun (j : Nat) (a : Nat × Nat × Nat × Nat × Nat × Nat × Nat × Nat × Nat) => ({ i := (j : Int), x0 := a.1, x1 := a.2.1, x2 := a.2.2.1, y0 := a.2.2.2.1, y1 := a.2.2.2.2.1, y2 := a.2.2.2.2.2.1, a0 := a.2.2.2.2.2.2.1, a1 := a.2.2.2.2.2.2.2.1, a2 := a.2.2.2.2.2.2.2.2 } : Vpu)) v.i.toNat (v.x0, v.x1, v.x2, v.y0, v.y1, v.y2, v.a0, v.a1, v.a2) := by
    obtain ⟨i, x0, x1, x2, y0, y1, y2, a0, a1, a2⟩ := v
    have hi0 : 0 ≤ i := hi0
    simp only [Int.toNat_of_nonneg hi0]
  have key := T_iter (pu_step c) (fun (j : Nat) (a : Nat × Nat × Nat × Nat × Nat × Nat × Nat × Nat × Nat) => ({ i := (j : Int), x0 := a.1, x1 := a.2.1, x2 := a.2.2.1, y0 := a.2.2.2.1, y1 := a.2.2.2.2.1, y2 := a.2.2.2.2.2.1, a0 := a.2.2.2.2.2.2.1, a1 := a.2.2.2.2.2.2.2.1, a2 := a.2.2.2.2.2.2.2.2 } : Vpu)) c.n (pu_g c) (fun a => (.exit 0, pu_fin c a)) (fun j a hj Ψ hΨ => ?_) (fun a Ψ hΨ => ?_) (fun a => by simp) (c.n - v.i.toNat) v.i.toNat (v.x0, v.x1, v.x2, v.y0, v.y1, v.y2, v.a0, v.a1, v.a2) (by omega) (fun r => Φ (blkEx 0 r.1, r.2)) (by simpa [blkEx] using h1)
  · exact (congrArg (fun z => (loopTree (pu_step c) (c.n - v.i.toNat + 1) z).holds fun r => Φ (blkEx 0 r.1, r.2)) hv).mpr key
  · unfold pu_step
    refine (T.h_ite (fun _ => ?_) (fun hc => absurd hc (by simp <;> omega)))
    refine (T.h_need (by simp <;> omega) (T.h_need (by simp <;> omega) (T.h_need (needT fun c0 => (by simp <;> omega)) (T.h_need (needT fun c0 => (by simp <;> omega)) ?_))))
    refine T.h_leaf ?_
    rw [wrap_next (by omega)]
    exact hΨ
  · unfold pu_step
    refine (T.h_ite (fun hc => absurd hc (by simp <;> omega)) (fun _ => T.h_leaf hΨ.2))

def pu_dec (b : Mem) (f : FSt) : Option (Cpu × Vpu) :=
  match getSu 0 7 (findF 0 f.sl), getI (findF 1 f.sl), getF .f32 (findF 3 f.sl), getPtr 1 3 (findF 6 f.sl), getPtr 2 3 (findF 8 f.sl), getPtr 3 3 (findF 9 f.sl), getI (findF 10 f.sl), id b, f.mem with
  | some (0, n_), some skip_, some core_, some (), some (), some (), some q_i, [some (.cols m_ [.fl .f32 f0_, .fl .f32 f1_, .fl .f32 f2_, .fl .f32 f3_, .fl .f32 f4_, .fl .f32 f5_, .fl .f32 f6_])], [_, some (.box [.fl .f32 q_x0, .fl .f32 q_x1, .fl .f32 q_x2]), some (.box [.fl .f32 q_y0, .fl .f32 q_y1, .fl .f32 q_y2]), some (.box [.fl .f32 q_a0, .fl .f32 q_a1, .fl .f32 q_a2])] => some ({ n := n_, m := m_, f0 := f0_, f1 := f1_, f2 := f2_, f3 := f3_, f4 := f4_, f5 := f5_, f6 := f6_, skip := skip_, core := core_ }, { i := q_i, x0 := q_x0, x1 := q_x1, x2 := q_x2, y0 := q_y0, y1 := q_y1, y2 := q_y2, a0 := q_a0, a1 := q_a1, a2 := q_a2 })
  | _, _, _, _, _, _, _, _, _ => none
theorem pu_dec_ok (b : Mem) (f : FSt) (x : Cpu × Vpu) (h : pu_dec b f = some x) : b = x.1.base ∧ FLe b f (pu_st x.1 x.2) := by
  unfold pu_dec at h
  split at h
  · rename_i e0 e1 e2 e3 e4 e5 e6 hb hm
    cases h
    have hb : b = _ := hb
    subst hb
    refine ⟨rfl, fle_of (fun p hp => ?_) (by rw [hm]; exact memLe_refl _)⟩
    simp only [List.mem_cons, List.not_mem_nil, or_false] at hp
    rcases hp with rfl | rfl | rfl | rfl | rfl | rfl | rfl
    · exact getSu_rel e0
    · exact getI_rel e1
    · exact getF_rel e2
    · exact getPtr_rel e3
    · exact getPtr_rel e4
    · exact getPtr_rel e5
    · exact getI_rel e6
  · cases h
noncomputable def pu_sum : SumF Try.prog 57 puRoot :=
  sumL (pathB puRoot 0) pu_dec (fun x => x.1.base) (fun x => pu_st x.1 x.2) pu_R pu_dec_ok (by
    intro code hc x
    have hc2 : code = .block 0 (.loop (bodyB puRoot 0)) := by
      have h : subR puRoot (pathB puRoot 0) = some (.block 0 (.loop (bodyB puRoot 0))) := by kernel_rfl
      rw [h] at hc; cases hc; rfl
    subst hc2
    exact pu_tri x)

structure Cpv where
  n : Nat
  m : Nat
  f0 : Nat → Nat
  f1 : Nat → Nat
  f2 : Nat → Nat
  f3 : Nat → Nat
  f4 : Nat → Nat
  f5 : Nat → Nat
  f6 : Nat → Nat
  skip : Int
  core : Nat
  l : Int
def Cpv.base (c : Cpv) : Mem := [some (.cols c.m [.fl .f32 c.f0, .fl .f32 c.f1, .fl .f32 c.f2, .fl .f32 c.f3, .fl .f32 c.f4, .fl .f32 c.f5, .fl .f32 c.f6])]
structure Vpv where
  i : Int
  x0 : Nat
  x1 : Nat
  x2 : Nat
  y0 : Nat
  y1 : Nat
  y2 : Nat
  a0 : Nat
  a1 : Nat
  a2 : Nat
noncomputable abbrev pvRoot : Code := bodyOf Try.f77
def pv_st (c : Cpv) (v : Vpv) : FSt := ⟨[(1, .one (.num .i64 c.skip)), (3, .one (.fl .f32 c.core)), (6, .one (.ptr 1 3 0 0)), (8, .one (.ptr 2 3 0 0)), (9, .one (.ptr 3 3 0 0)), (15, .one (.su 0 7 0 c.n false)), (16, .one (.num .i64 c.l)), (17, .one (.num .i64 v.i))], c.base ++ [some (.box [.fl .f32 v.x0, .fl .f32 v.x1, .fl .f32 v.x2]), some (.box [.fl .f32 v.y0, .fl .f32 v.y1, .fl .f32 v.y2]), some (.box [.fl .f32 v.a0, .fl .f32 v.a1, .fl .f32 v.a2])]⟩
def pv_step (c : Cpv) (v : Vpv) : T (Nx Vpv) :=
  .ite (decide (v.1 < c.12)) (.need (decide (0 ≤ v.1) && decide (v.1 < ↑c.1)) (.need (decide (v.1.toNat + 0 < c.2)) (.leaf (.go { i := IntKind.i64.wrap (v.1 + 1), x0 := (bif bif !decide (v.1 = c.10) then fgt FloatKind.f32 (fadd FloatKind.f32 (fadd FloatKind.f32 (fadd FloatKind.f32 (fmul FloatKind.f32 (fsub FloatKind.f32 (c.3 (v.1.toNat + 0)) v.2) (fsub FloatKind.f32 (c.3 (v.1.toNat + 0)) v.2)) (fmul FloatKind.f32 (fsub FloatKind.f32 (c.4 (v.1.toNat + 0)) v.3) (fsub FloatKind.f32 (c.4 (v.1.toNat + 0)) v.3))) (fmul FloatKind.f32 (fsub FloatKind.f32 (c.5 (v.1.toNat + 0)) v.4) (fsub FloatKind.f32 (c.5 (v.1.toNat + 0)) v.4))) (fmul FloatKind.f32 c.11 c.11)) (canon FloatKind.f32 0) else false then v.2 else v.2), x1 := (bif bif !decide (v.1 = c.10) then fgt FloatKind.f32 (fadd FloatKind.f32 (fadd FloatKind.f32 (fadd FloatKind.f32 (fmul FloatKind.f32 (fsub FloatKind.f32 (c.3 (v.1.toNat + 0)) v.2) (fsub FloatKind.f32 (c.3 (v.1.toNat + 0)) v.2)) (fmul FloatKind.f32 (fsub FloatKind.f32 (c.4 (v.1.toNat + 0)) v.3) (fsub FloatKind.f32 (c.4 (v.1.toNat + 0)) v.3))) (fmul FloatKind.f32 (fsub FloatKind.f32 (c.5 (v.1.toNat + 0)) v.4) (fsub FloatKind.f32 (c.5 (v.1.toNat + 0)) v.4))) (fmul FloatKind.f32 c.11 c.11)) (canon FloatKind.f32 0) else false then v.3 else v.3), x2 := (bif bif !decide (v.1 = c.10) then fgt FloatKind.f32 (fadd FloatKind.f32 (fadd FloatKind.f32 (fadd FloatKind.f32 (fmul FloatKind.f32 (fsub FloatKind.f32 (c.3 (v.1.toNat + 0)) v.2) (fsub FloatKind.f32 (c.3 (v.1.toNat + 0)) v.2)) (fmul FloatKind.f32 (fsub FloatKind.f32 (c.4 (v.1.toNat + 0)) v.3) (fsub FloatKind.f32 (c.4 (v.1.toNat + 0)) v.3))) (fmul FloatKind.f32 (fsub FloatKind.f32 (c.5 (v.1.toNat + 0)) v.4) (fsub FloatKind.f32 (c.5 (v.1.toNat + 0)) v.4))) (fmul FloatKind.f32 c.11 c.11)) (canon FloatKind.f32 0) else false then v.4 else v.4), y0 := (bif bif !decide (v.1 = c.10) then fgt FloatKind.f32 (fadd FloatKind.f32 (fadd FloatKind.f32 (fadd FloatKind.f32 (fmul FloatKind.f32 (fsub FloatKind.f32 (c.3 (v.1.toNat + 0)) v.2) (fsub FloatKind.f32 (c.3 (v.1.toNat + 0)) v.2)) (fmul FloatKind.f32 (fsub FloatKind.f32 (c.4 (v.1.toNat + 0)) v.3) (fsub FloatKind.f32 (c.4 (v.1.toNat + 0)) v.3))) (fmul FloatKind.f32 (fsub FloatKind.f32 (c.5 (v.1.toNat + 0)) v.4) (fsub FloatKind.f32 (c.5 (v.1.toNat + 0)) v.4))) (fmul FloatKind.f32 c.11 c.11)) (canon FloatKind.f32 0) else false then v.5 else v.5), y1 := (bif bif !decide (v.1 = c.10) then fgt FloatKind.f32 (fadd FloatKind.f32 (fadd FloatKind.f32 (fadd FloatKind.f32 (fmul FloatKind.f32 (fsub FloatKind.f32 (c.3 (v.1.toNat + 0)) v.2) (fsub FloatKind.f32 (c.3 (v.1.toNat + 0)) v.2)) (fmul FloatKind.f32 (fsub FloatKind.f32 (c.4 (v.1.toNat + 0)) v.3) (fsub FloatKind.f32 (c.4 (v.1.toNat + 0)) v.3))) (fmul FloatKind.f32 (fsub FloatKind.f32 (c.5 (v.1.toNat + 0)) v.4) (fsub FloatKind.f32 (c.5 (v.1.toNat + 0)) v.4))) (fmul FloatKind.f32 c.11 c.11)) (canon FloatKind.f32 0) else false then v.6 else v.6), y2 := (bif bif !decide (v.1 = c.10) then fgt FloatKind.f32 (fadd FloatKind.f32 (fadd FloatKind.f32 (fadd FloatKind.f32 (fmul FloatKind.f32 (fsub FloatKind.f32 (c.3 (v.1.toNat + 0)) v.2) (fsub FloatKind.f32 (c.3 (v.1.toNat + 0)) v.2)) (fmul FloatKind.f32 (fsub FloatKind.f32 (c.4 (v.1.toNat + 0)) v.3) (fsub FloatKind.f32 (c.4 (v.1.toNat + 0)) v.3))) (fmul FloatKind.f32 (fsub FloatKind.f32 (c.5 (v.1.toNat + 0)) v.4) (fsub FloatKind.f32 (c.5 (v.1.toNat + 0)) v.4))) (fmul FloatKind.f32 c.11 c.11)) (canon FloatKind.f32 0) else false then v.7 else v.7), a0 := (bif bif !decide (v.1 = c.10) then fgt FloatKind.f32 (fadd FloatKind.f32 (fadd FloatKind.f32 (fadd FloatKind.f32 (fmul FloatKind.f32 (fsub FloatKind.f32 (c.3 (v.1.toNat + 0)) v.2) (fsub FloatKind.f32 (c.3 (v.1.toNat + 0)) v.2)) (fmul FloatKind.f32 (fsub FloatKind.f32 (c.4 (v.1.toNat + 0)) v.3) (fsub FloatKind.f32 (c.4 (v.1.toNat + 0)) v.3))) (fmul FloatKind.f32 (fsub FloatKind.f32 (c.5 (v.1.toNat + 0)) v.4) (fsub FloatKind.f32 (c.5 (v.1.toNat + 0)) v.4))) (fmul FloatKind.f32 c.11 c.11)) (canon FloatKind.f32 0) else false then fadd FloatKind.f32 v.8 (fmul FloatKind.f32 (fsub FloatKind.f32 (c.3 (v.1.toNat + 0)) v.2) (fdiv FloatKind.f32 (c.9 (v.1.toNat + 0)) (fmul FloatKind.f32 (fadd FloatKind.f32 (fadd FloatKind.f32 (fadd FloatKind.f32 (fmul FloatKind.f32 (fsub FloatKind.f32 (c.3 (v.1.toNat + 0)) v.2) (fsub FloatKind.f32 (c.3 (v.1.toNat + 0)) v.2)) (fmul FloatKind.f32 (fsub FloatKind.f32 (c.4 (v.1.toNat + 0)) v.3) (fsub FloatKind.f32 (c.4 (v.1.toNat + 0)) v.3))) (fmul FloatKind.f32 (fsub FloatKind.f32 (c.5 (v.1.toNat + 0)) v.4) (fsub FloatKind.f32 (c.5 (v.1.toNat + 0)) v.4))) (fmul FloatKind.f32 c.11 c.11)) (rootV (fadd FloatKind.f32 (fadd FloatKind.f32 (fadd FloatKind.f32 (fmul FloatKind.f32 (fsub FloatKind.f32 (c.3 (v.1.toNat + 0)) v.2) (fsub FloatKind.f32 (c.3 (v.1.toNat + 0)) v.2)) (fmul FloatKind.f32 (fsub FloatKind.f32 (c.4 (v.1.toNat + 0)) v.3) (fsub FloatKind.f32 (c.4 (v.1.toNat + 0)) v.3))) (fmul FloatKind.f32 (fsub FloatKind.f32 (c.5 (v.1.toNat + 0)) v.4) (fsub FloatKind.f32 (c.5 (v.1.toNat + 0)) v.4))) (fmul FloatKind.f32 c.11 c.11)))))) else v.8), a1 := (bif bif !decide (v.1 = c.10) then fgt FloatKind.f32 (fadd FloatKind.f32 (fadd FloatKind.f32 (fadd FloatKind.f32 (fmul FloatKind.f32 (fsub FloatKind.f32 (c.3 (v.1.toNat + 0)) v.2) (fsub FloatKind.f32 (c.3 (v.1.toNat + 0)) v.2)) (fmul FloatKind.f32 (fsub FloatKind.f32 (c.4 (v.1.toNat + 0)) v.3) (fsub FloatKind.f32 (c.4 (v.1.toNat + 0)) v.3))) (fmul FloatKind.f32 (fsub FloatKind.f32 (c.5 (v.1.toNat + 0)) v.4) (fsub FloatKind.f32 (c.5 (v.1.toNat + 0)) v.4))) (fmul FloatKind.f32 c.11 c.11)) (canon FloatKind.f32 0) else false then fadd FloatKind.f32 v.9 (fmul FloatKind.f32 (fsub FloatKind.f32 (c.4 (v.1.toNat + 0)) v.3) (fdiv FloatKind.f32 (c.9 (v.1.toNat + 0)) (fmul FloatKind.f32 (fadd FloatKind.f32 (fadd FloatKind.f32 (fadd FloatKind.f32 (fmul FloatKind.f32 (fsub FloatKind.f32 (c.3 (v.1.toNat + 0)) v.2) (fsub FloatKind.f32 (c.3 (v.1.toNat + 0)) v.2)) (fmul FloatKind.f32 (fsub FloatKind.f32 (c.4 (v.1.toNat + 0)) v.3) (fsub FloatKind.f32 (c.4 (v.1.toNat + 0)) v.3))) (fmul FloatKind.f32 (fsub FloatKind.f32 (c.5 (v.1.toNat + 0)) v.4) (fsub FloatKind.f32 (c.5 (v.1.toNat + 0)) v.4))) (fmul FloatKind.f32 c.11 c.11)) (rootV (fadd FloatKind.f32 (fadd FloatKind.f32 (fadd FloatKind.f32 (fmul FloatKind.f32 (fsub FloatKind.f32 (c.3 (v.1.toNat + 0)) v.2) (fsub FloatKind.f32 (c.3 (v.1.toNat + 0)) v.2)) (fmul FloatKind.f32 (fsub FloatKind.f32 (c.4 (v.1.toNat + 0)) v.3) (fsub FloatKind.f32 (c.4 (v.1.toNat + 0)) v.3))) (fmul FloatKind.f32 (fsub FloatKind.f32 (c.5 (v.1.toNat + 0)) v.4) (fsub FloatKind.f32 (c.5 (v.1.toNat + 0)) v.4))) (fmul FloatKind.f32 c.11 c.11)))))) else v.9), a2 := (bif bif !decide (v.1 = c.10) then fgt FloatKind.f32 (fadd FloatKind.f32 (fadd FloatKind.f32 (fadd FloatKind.f32 (fmul FloatKind.f32 (fsub FloatKind.f32 (c.3 (v.1.toNat + 0)) v.2) (fsub FloatKind.f32 (c.3 (v.1.toNat + 0)) v.2)) (fmul FloatKind.f32 (fsub FloatKind.f32 (c.4 (v.1.toNat + 0)) v.3) (fsub FloatKind.f32 (c.4 (v.1.toNat + 0)) v.3))) (fmul FloatKind.f32 (fsub FloatKind.f32 (c.5 (v.1.toNat + 0)) v.4) (fsub FloatKind.f32 (c.5 (v.1.toNat + 0)) v.4))) (fmul FloatKind.f32 c.11 c.11)) (canon FloatKind.f32 0) else false then fadd FloatKind.f32 v.10 (fmul FloatKind.f32 (fsub FloatKind.f32 (c.5 (v.1.toNat + 0)) v.4) (fdiv FloatKind.f32 (c.9 (v.1.toNat + 0)) (fmul FloatKind.f32 (fadd FloatKind.f32 (fadd FloatKind.f32 (fadd FloatKind.f32 (fmul FloatKind.f32 (fsub FloatKind.f32 (c.3 (v.1.toNat + 0)) v.2) (fsub FloatKind.f32 (c.3 (v.1.toNat + 0)) v.2)) (fmul FloatKind.f32 (fsub FloatKind.f32 (c.4 (v.1.toNat + 0)) v.3) (fsub FloatKind.f32 (c.4 (v.1.toNat + 0)) v.3))) (fmul FloatKind.f32 (fsub FloatKind.f32 (c.5 (v.1.toNat + 0)) v.4) (fsub FloatKind.f32 (c.5 (v.1.toNat + 0)) v.4))) (fmul FloatKind.f32 c.11 c.11)) (rootV (fadd FloatKind.f32 (fadd FloatKind.f32 (fadd FloatKind.f32 (fmul FloatKind.f32 (fsub FloatKind.f32 (c.3 (v.1.toNat + 0)) v.2) (fsub FloatKind.f32 (c.3 (v.1.toNat + 0)) v.2)) (fmul FloatKind.f32 (fsub FloatKind.f32 (c.4 (v.1.toNat + 0)) v.3) (fsub FloatKind.f32 (c.4 (v.1.toNat + 0)) v.3))) (fmul FloatKind.f32 (fsub FloatKind.f32 (c.5 (v.1.toNat + 0)) v.4) (fsub FloatKind.f32 (c.5 (v.1.toNat + 0)) v.4))) (fmul FloatKind.f32 c.11 c.11)))))) else v.10) })))) (.leaf (.out (EX.exit 0) ⟨[(1, AV.one (SV.num IntKind.i64 c.10)), (3, AV.one (SV.fl FloatKind.f32 c.11)), (6, AV.one (SV.ptr 1 3 0 0)), (8, AV.one (SV.ptr 2 3 0 0)), (9, AV.one (SV.ptr 3 3 0 0)), (15, AV.one (SV.su 0 7 0 c.1 false)), (16, AV.one (SV.num IntKind.i64 c.12)), (17, AV.one (SV.num IntKind.i64 v.1))], c.base ++ [some (.box [.fl .f32 v.x0, .fl .f32 v.x1, .fl .f32 v.x2]), some (.box [.fl .f32 v.y0, .fl .f32 v.y1, .fl .f32 v.y2]), some (.box [.fl .f32 v.a0, .fl .f32 v.a1, .fl .f32 v.a2])]⟩))
theorem pv_round (c : Cpv) (v : Vpv) : roundF Try.prog 49 [k_pu_i_LessVectors, k_pu_i_softened, k_RootNumber, k_pu_i_ScaleVector, k_pu_i_AddVectors] pvRoot [] c.base [0, 1, 2, 3, 6, 8, 9, 10, 11, 12, 13, 15, 16, 17, 18, 35, 198] [1, 3, 6, 8, 9, 15, 16, 17] 0 (pv_st c v) = (pv_step c v).map (nxF (pv_st c)) := by kernel_rfl
def pvS (f0 f1 f2 : Nat → Nat) (x0 x1 x2 core : Nat) (skip : Int) (j : Nat) : Bool := bif !decide ((j : Int) = skip) then fgt .f32 (puQ f0 f1 f2 x0 x1 x2 core j) (canon .f32 0) else false
theorem pvS_eq (f0 f1 f2 : Nat → Nat) (x0 x1 x2 core : Nat) (skip : Int) (j : Nat) : pvS f0 f1 f2 x0 x1 x2 core skip j = !puS f0 f1 f2 x0 x1 x2 core skip j := by
  unfold pvS puS
  cases decide ((j : Int) = skip) <;> cases fgt .f32 (puQ f0 f1 f2 x0 x1 x2 core j) (canon .f32 0) <;> rfl
def pv_g (c : Cpv) (j : Nat) (a : Nat × Nat × Nat × Nat × Nat × Nat × Nat × Nat × Nat) : Nat × Nat × Nat × Nat × Nat × Nat × Nat × Nat × Nat := (bif pvS c.f0 c.f1 c.f2 (a.1) (a.2.1) (a.2.2.1) c.core c.skip j then a.1 else a.1, bif pvS c.f0 c.f1 c.f2 (a.1) (a.2.1) (a.2.2.1) c.core c.skip j then a.2.1 else a.2.1, bif pvS c.f0 c.f1 c.f2 (a.1) (a.2.1) (a.2.2.1) c.core c.skip j then a.2.2.1 else a.2.2.1, bif pvS c.f0 c.f1 c.f2 (a.1) (a.2.1) (a.2.2.1) c.core c.skip j then a.2.2.2.1 else a.2.2.2.1, bif pvS c.f0 c.f1 c.f2 (a.1) (a.2.1) (a.2.2.1) c.core c.skip j then a.2.2.2.2.1 else a.2.2.2.2.1, bif pvS c.f0 c.f1 c.f2 (a.1) (a.2.1) (a.2.2.1) c.core c.skip j then a.2.2.2.2.2.1 else a.2.2.2.2.2.1, bif pvS c.f0 c.f1 c.f2 (a.1) (a.2.1) (a.2.2.1) c.core c.skip j then fadd .f32 (a.2.2.2.2.2.2.1) (fmul .f32 (fsub .f32 (c.f0 j) (a.1)) (puB c.f0 c.f1 c.f2 c.f6 (a.1) (a.2.1) (a.2.2.1) c.core j)) else a.2.2.2.2.2.2.1, bif pvS c.f0 c.f1 c.f2 (a.1) (a.2.1) (a.2.2.1) c.core c.skip j then fadd .f32 (a.2.2.2.2.2.2.2.1) (fmul .f32 (fsub .f32 (c.f1 j) (a.2.1)) (puB c.f0 c.f1 c.f2 c.f6 (a.1) (a.2.1) (a.2.2.1) c.core j)) else a.2.2.2.2.2.2.2.1, bif pvS c.f0 c.f1 c.f2 (a.1) (a.2.1) (a.2.2.1) c.core c.skip j then fadd .f32 (a.2.2.2.2.2.2.2.2) (fmul .f32 (fsub .f32 (c.f2 j) (a.2.2.1)) (puB c.f0 c.f1 c.f2 c.f6 (a.1) (a.2.1) (a.2.2.1) c.core j)) else a.2.2.2.2.2.2.2.2)
def pv_ok (c : Cpv) (v : Vpv) : Bool := decide (c.n ≤ c.m ∧ c.n ≤ 1099511627776 ∧ c.l = (c.n : Int) ∧ 0 ≤ v.i ∧ v.i ≤ ((c.n : Nat) : Int))
def pv_fin (c : Cpv) (a : Nat × Nat × Nat × Nat × Nat × Nat × Nat × Nat × Nat) : FSt := pv_st c ({ i := (c.n : Int), x0 := a.1, x1 := a.2.1, x2 := a.2.2.1, y0 := a.2.2.2.1, y1 := a.2.2.2.2.1, y2 := a.2.2.2.2.2.1, a0 := a.2.2.2.2.2.2.1, a1 := a.2.2.2.2.2.2.2.1, a2 := a.2.2.2.2.2.2.2.2 })
noncomputable def pv_R (x : Cpv × Vpv) : T (EX × FSt) := .need (pv_ok x.1 x.2) (.leaf (.normal, pv_fin x.1 (iter (pv_g x.1) (x.1.n - x.2.i.toNat) x.2.i.toNat (x.2.x0, x.2.x1, x.2.x2, x.2.y0, x.2.y1, x.2.y2, x.2.a0, x.2.a1, x.2.a2))))
theorem pv_tri (x : Cpv × Vpv) : TriR Try.prog 49 x.1.base (.block 0 (.loop (bodyB pvRoot 0))) (pv_st x.1 x.2) (pv_R x) := by
  obtain ⟨c, v⟩ := x
  refine triR_of mix (root := pvRoot) (by kernel_rfl) (by kernel_rfl) [0, 1, 2, 3, 6, 8, 9, 10, 11, 12, 13, 15, 16, 17, 18, 35, 198] [1, 3, 6, 8, 9, 15, 16, 17] (pv_st c) (pv_step c) (pv_round c) v _ ((c.n - v.i.toNat) + 1) (fun Φ h => ?_)
  have h0 := h.1
  have h1 : Φ (.normal, pv_fin c (iter (pv_g c) (c.n - v.i.toNat) v.i.toNat (v.x0, v.x1, v.x2, v.y0, v.y1, v.y2, v.a0, v.a1, v.a2))) := h.2
  simp only [pv_ok, decide_eq_true_eq] at h0
  obtain ⟨hk0, hk1, hk2, hi0, hin⟩ := h0
  have hv : v = (fun (j : Nat) (a : Nat × Nat × Nat × Nat × Nat × Nat × Nat × Nat × Nat) => ({ i := (j : Int), x0 := a.1, x1 := a.2.1, x2 := a.2.2.1, y0 := a.2.2.2.1, y1 := a.2.2.2.2.1, y2 := a.2.2.2.2.2.1, a0 := a.2.2.2.2.2.2.1, a1 := a.2.2.2.2.2.2.2.1, a2 := a.2.2.2.2.2.2.2.2 } : Vpv)) v.i.toNat (v.x0, v.x1, v.x2, v.y0, v.y1, v.y2, v.a0, v.a1, v.a2) := by
    obtain ⟨i, x0, x1, x2, y0, y1, y2, a0, a1, a2⟩ := v
    have hi0 : 0 ≤ i := hi0
    simp only [Int.toNat_of_nonneg hi0]
  have key := T_iter (pv_step c) (fun (j : Nat) (a : Nat × Nat × Nat × Nat × Nat × Nat × Nat × Nat × Nat) => ({ i := (j : Int), x0 := a.1, x1 := a.2.1, x2 := a.2.2.1, y0 := a.2.2.2.1, y1 := a.2.2.2.2.1, y2 := a.2.2.2.2.2.1, a0 := a.2.2.2.2.2.2.1, a1 := a.2.2.2.2.2.2.2.1, a2 := a.2.2.2.2.2.2.2.2 } : Vpv)) c.n (pv_g c) (fun a => (.exit 0, pv_fin c a)) (fun j a hj Ψ hΨ => ?_) (fun a Ψ hΨ => ?_) (fun a => by simp) (c.n - v.i.toNat) v.i.toNat (v.x0, v.x1, v.x2, v.y0, v.y1, v.y2, v.a0, v.a1, v.a2) (by omega) (fun r => Φ (blkEx 0 r.1, r.2)) (by simpa [blkEx] using h1)
  · exact (congrArg (fun z => (loopTree (pv_step c) (c.n - v.i.toNat + 1) z).holds fun r => Φ (blkEx 0 r.1, r.2)) hv).mpr key
  · unfold pv_step
    refine (T.h_ite (fun _ => ?_) (fun hc => absurd hc (by simp <;> omega)))
    refine (T.h_need (by simp <;> omega) (T.h_need (by simp <;> omega) ?_))
    refine T.h_leaf ?_
    rw [wrap_next (by omega)]
    exact hΨ
  · unfold pv_step
    refine (T.h_ite (fun hc => absurd hc (by simp <;> omega)) (fun _ => T.h_leaf hΨ.2))

def pv_dec (b : Mem) (f : FSt) : Option (Cpv × Vpv) :=
  match getI (findF 1 f.sl), getF .f32 (findF 3 f.sl), getPtr 1 3 (findF 6 f.sl), getPtr 2 3 (findF 8 f.sl), getPtr 3 3 (findF 9 f.sl), getSu 0 7 (findF 15 f.sl), getI (findF 16 f.sl), getI (findF 17 f.sl), id b, f.mem with
  | some skip_, some core_, some (), some (), some (), some (0, n_), some l_, some q_i, [some (.cols m_ [.fl .f32 f0_, .fl .f32 f1_, .fl .f32 f2_, .fl .f32 f3_, .fl .f32 f4_, .fl .f32 f5_, .fl .f32 f6_])], [_, some (.box [.fl .f32 q_x0, .fl .f32 q_x1, .fl .f32 q_x2]), some (.box [.fl .f32 q_y0, .fl .f32 q_y1, .fl .f32 q_y2]), some (.box [.fl .f32 q_a0, .fl .f32 q_a1, .fl .f32 q_a2])] => some ({ n := n_, m := m_, f0 := f0_, f1 := f1_, f2 := f2_, f3 := f3_, f4 := f4_, f5 := f5_, f6 := f6_, skip := skip_, core := core_, l := l_ }, { i := q_i, x0 := q_x0, x1 := q_x1, x2 := q_x2, y0 := q_y0, y1 := q_y1, y2 := q_y2, a0 := q_a0, a1 := q_a1, a2 := q_a2 })
  | _, _, _, _, _, _, _, _, _, _ => none
theorem pv_dec_ok (b : Mem) (f : FSt) (x : Cpv × Vpv) (h : pv_dec b f = some x) : b = x.1.base ∧ FLe b f (pv_st x.1 x.2) := by
  unfold pv_dec at h
  split at h
  · rename_i e0 e1 e2 e3 e4 e5 e6 e7 hb hm
    cases h
    have hb : b = _ := hb
    subst hb
    refine ⟨rfl, fle_of (fun p hp => ?_) (by rw [hm]; exact memLe_refl _)⟩
    simp only [List.mem_cons, List.not_mem_nil, or_false] at hp
    rcases hp with rfl | rfl | rfl | rfl | rfl | rfl | rfl | rfl
    · exact getI_rel e0
    · exact getF_rel e1
    · exact getPtr_rel e2
    · exact getPtr_rel e3
    · exact getPtr_rel e4
    · exact getSu_rel e5
    · exact getI_rel e6
    · exact getI_rel e7
  · cases h
noncomputable def pv_sum : SumF Try.prog 49 pvRoot :=
  sumL (pathB pvRoot 0) pv_dec (fun x => x.1.base) (fun x => pv_st x.1 x.2) pv_R pv_dec_ok (by
    intro code hc x
    have hc2 : code = .block 0 (.loop (bodyB pvRoot 0)) := by
      have h : subR pvRoot (pathB pvRoot 0) = some (.block 0 (.loop (bodyB pvRoot 0))) := by kernel_rfl
      rw [h] at hc; cases hc; rfl
    subst hc2
    exact pv_tri x)

theorem pu_st1 (c : Cpu) (j : Nat) (a : Nat × Nat × Nat × Nat × Nat × Nat × Nat × Nat × Nat) : pu_g c j a = (a.1, a.2.1, a.2.2.1, a.2.2.2.1, a.2.2.2.2.1, a.2.2.2.2.2.1, (puG c.f0 c.f1 c.f2 c.f6 (a.1) (a.2.1) (a.2.2.1) c.core c.skip j (a.2.2.2.2.2.2.1, a.2.2.2.2.2.2.2.1, a.2.2.2.2.2.2.2.2)).1, (puG c.f0 c.f1 c.f2 c.f6 (a.1) (a.2.1) (a.2.2.1) c.core c.skip j (a.2.2.2.2.2.2.1, a.2.2.2.2.2.2.2.1, a.2.2.2.2.2.2.2.2)).2.1, (puG c.f0 c.f1 c.f2 c.f6 (a.1) (a.2.1) (a.2.2.1) c.core c.skip j (a.2.2.2.2.2.2.1, a.2.2.2.2.2.2.2.1, a.2.2.2.2.2.2.2.2)).2.2) := by
  unfold pu_g puG
  cases puS c.f0 c.f1 c.f2 (a.1) (a.2.1) (a.2.2.1) c.core c.skip j <;> rfl
theorem pu_it (c : Cpu) : ∀ (k s : Nat) (a : Nat × Nat × Nat × Nat × Nat × Nat × Nat × Nat × Nat), iter (pu_g c) k s a = (a.1, a.2.1, a.2.2.1, a.2.2.2.1, a.2.2.2.2.1, a.2.2.2.2.2.1, (iter (puG c.f0 c.f1 c.f2 c.f6 (a.1) (a.2.1) (a.2.2.1) c.core c.skip) k s (a.2.2.2.2.2.2.1, a.2.2.2.2.2.2.2.1, a.2.2.2.2.2.2.2.2)).1, (iter (puG c.f0 c.f1 c.f2 c.f6 (a.1) (a.2.1) (a.2.2.1) c.core c.skip) k s (a.2.2.2.2.2.2.1, a.2.2.2.2.2.2.2.1, a.2.2.2.2.2.2.2.2)).2.1, (iter (puG c.f0 c.f1 c.f2 c.f6 (a.1) (a.2.1) (a.2.2.1) c.core c.skip) k s (a.2.2.2.2.2.2.1, a.2.2.2.2.2.2.2.1, a.2.2.2.2.2.2.2.2)).2.2)
  | 0, _, _ => rfl
  | k + 1, s, a => by
    show iter (pu_g c) k (s + 1) (pu_g c s a) = _
    rw [pu_it c k (s + 1), pu_st1 c s a]
    rfl
theorem pv_st1 (c : Cpv) (j : Nat) (a : Nat × Nat × Nat × Nat × Nat × Nat × Nat × Nat × Nat) : pv_g c j a = (a.1, a.2.1, a.2.2.1, a.2.2.2.1, a.2.2.2.2.1, a.2.2.2.2.2.1, (puG c.f0 c.f1 c.f2 c.f6 (a.1) (a.2.1) (a.2.2.1) c.core c.skip j (a.2.2.2.2.2.2.1, a.2.2.2.2.2.2.2.1, a.2.2.2.2.2.2.2.2)).1, (puG c.f0 c.f1 c.f2 c.f6 (a.1) (a.2.1) (a.2.2.1) c.core c.skip j (a.2.2.2.2.2.2.1, a.2.2.2.2.2.2.2.1, a.2.2.2.2.2.2.2.2)).2.1, (puG c.f0 c.f1 c.f2 c.f6 (a.1) (a.2.1) (a.2.2.1) c.core c.skip j (a.2.2.2.2.2.2.1, a.2.2.2.2.2.2.2.1, a.2.2.2.2.2.2.2.2)).2.2) := by
  unfold pv_g puG
  rw [pvS_eq]
  cases puS c.f0 c.f1 c.f2 (a.1) (a.2.1) (a.2.2.1) c.core c.skip j <;> rfl
theorem pv_it (c : Cpv) : ∀ (k s : Nat) (a : Nat × Nat × Nat × Nat × Nat × Nat × Nat × Nat × Nat), iter (pv_g c) k s a = (a.1, a.2.1, a.2.2.1, a.2.2.2.1, a.2.2.2.2.1, a.2.2.2.2.2.1, (iter (puG c.f0 c.f1 c.f2 c.f6 (a.1) (a.2.1) (a.2.2.1) c.core c.skip) k s (a.2.2.2.2.2.2.1, a.2.2.2.2.2.2.2.1, a.2.2.2.2.2.2.2.2)).1, (iter (puG c.f0 c.f1 c.f2 c.f6 (a.1) (a.2.1) (a.2.2.1) c.core c.skip) k s (a.2.2.2.2.2.2.1, a.2.2.2.2.2.2.2.1, a.2.2.2.2.2.2.2.2)).2.1, (iter (puG c.f0 c.f1 c.f2 c.f6 (a.1) (a.2.1) (a.2.2.1) c.core c.skip) k s (a.2.2.2.2.2.2.1, a.2.2.2.2.2.2.2.1, a.2.2.2.2.2.2.2.2)).2.2)
  | 0, _, _ => rfl
  | k + 1, s, a => by
    show iter (pv_g c) k (s + 1) (pv_g c s a) = _
    rw [pv_it c k (s + 1), pv_st1 c s a]
    rfl
noncomputable def k_sPu0 : Ctr Try.prog := (mkF0 Try.prog mix [k_pu_s_l01VLess, k_pu_s_l01VInner, k_l01Sqrt, k_pu_s_l01VScale, k_pu_s_l01VAdd] 75 Try.f75 (bodyOf Try.f75) Try.func75 (by kernel_rfl) (by kernel_rfl) [0, 1, 2, 3, 6, 8, 9, 10, 11, 12, 17, 41, 198] 57 (by kernel_rfl) (by kernel_rfl) [pu_sum]).mg
noncomputable def k_iPu0 : Ctr Try.prog := (mkF0 Try.prog mix [k_pu_i_LessVectors, k_pu_i_softened, k_RootNumber, k_pu_i_ScaleVector, k_pu_i_AddVectors] 77 Try.f77 (bodyOf Try.f77) Try.func77 (by kernel_rfl) (by kernel_rfl) [0, 1, 2, 3, 6, 8, 9, 10, 11, 12, 13, 15, 16, 17, 18, 35, 198] 49 (by kernel_rfl) (by kernel_rfl) [pv_sum]).mg
def puV (n : Nat) (f0 f1 f2 f3 f4 f5 f6 : Nat → Nat) (x0 x1 x2 core : Nat) (skip : Int) : Nat × Nat × Nat := iter (puG f0 f1 f2 f6 x0 x1 x2 core skip) n 0 (0, 0, 0)
def puRes (n : Nat) (f0 f1 f2 f3 f4 f5 f6 : Nat → Nat) (x0 x1 x2 core : Nat) (skip : Int) : Res := (.agg [.fl .f32 (puV n f0 f1 f2 f3 f4 f5 f6 x0 x1 x2 core skip).1, .fl .f32 (puV n f0 f1 f2 f3 f4 f5 f6 x0 x1 x2 core skip).2.1, .fl .f32 (puV n f0 f1 f2 f3 f4 f5 f6 x0 x1 x2 core skip).2.2], [])
def run_pu : List AV → Mem → T Res
  | [.one (.su 0 7 0 n false), .one (.num .i64 skip), .agg [.fl .f32 x0, .fl .f32 x1, .fl .f32 x2], .one (.fl .f32 core)], [some (.cols m [.fl .f32 f0, .fl .f32 f1, .fl .f32 f2, .fl .f32 f3, .fl .f32 f4, .fl .f32 f5, .fl .f32 f6])] => .need (decide (n ≤ m)) (.need (decide (n ≤ 1048576)) (.leaf (puRes n f0 f1 f2 f3 f4 f5 f6 x0 x1 x2 core skip)))
  | [.one (.su 0 7 0 n false), .one (.int .i64 skip), .agg [.fl .f32 x0, .fl .f32 x1, .fl .f32 x2], .one (.fl .f32 core)], [some (.cols m [.fl .f32 f0, .fl .f32 f1, .fl .f32 f2, .fl .f32 f3, .fl .f32 f4, .fl .f32 f5, .fl .f32 f6])] => .need (decide (n ≤ m)) (.need (decide (n ≤ 1048576)) (.leaf (puRes n f0 f1 f2 f3 f4 f5 f6 x0 x1 x2 core skip)))
  | _, _ => .fail
def puIT (n m : Nat) (f0 f1 f2 f3 f4 f5 f6 : Nat → Nat) (x0 x1 x2 core : Nat) (skip : Int) : Nat × Nat × Nat × Nat × Nat × Nat × Nat × Nat × Nat := iter (pu_g { n := n, m := m, f0 := f0, f1 := f1, f2 := f2, f3 := f3, f4 := f4, f5 := f5, f6 := f6, skip := skip, core := core }) n 0 (x0, x1, x2, canon .f32 0, canon .f32 0, canon .f32 0, canon .f32 0, canon .f32 0, canon .f32 0)
theorem sPu0_num (n m : Nat) (f0 f1 f2 f3 f4 f5 f6 : Nat → Nat) (x0 x1 x2 core : Nat) (skip : Int) : k_sPu0.run [.one (.su 0 7 0 n false), .one (.num .i64 skip), .agg [.fl .f32 x0, .fl .f32 x1, .fl .f32 x2], .one (.fl .f32 core)] [some (.cols m [.fl .f32 f0, .fl .f32 f1, .fl .f32 f2, .fl .f32 f3, .fl .f32 f4, .fl .f32 f5, .fl .f32 f6])] =
    .need (pu_ok { n := n, m := m, f0 := f0, f1 := f1, f2 := f2, f3 := f3, f4 := f4, f5 := f5, f6 := f6, skip := skip, core := core } { i := 0, x0 := x0, x1 := x1, x2 := x2, y0 := canon .f32 0, y1 := canon .f32 0, y2 := canon .f32 0, a0 := canon .f32 0, a1 := canon .f32 0, a2 := canon .f32 0 }) (.leaf (.agg [.fl .f32 (puIT n m f0 f1 f2 f3 f4 f5 f6 x0 x1 x2 core skip).2.2.2.2.2.2.1, .fl .f32 (puIT n m f0 f1 f2 f3 f4 f5 f6 x0 x1 x2 core skip).2.2.2.2.2.2.2.1, .fl .f32 (puIT n m f0 f1 f2 f3 f4 f5 f6 x0 x1 x2 core skip).2.2.2.2.2.2.2.2], [])) := by kernel_rfl
theorem sPu0_int (n m : Nat) (f0 f1 f2 f3 f4 f5 f6 : Nat → Nat) (x0 x1 x2 core : Nat) (skip : Int) : k_sPu0.run [.one (.su 0 7 0 n false), .one (.int .i64 skip), .agg [.fl .f32 x0, .fl .f32 x1, .fl .f32 x2], .one (.fl .f32 core)] [some (.cols m [.fl .f32 f0, .fl .f32 f1, .fl .f32 f2, .fl .f32 f3, .fl .f32 f4, .fl .f32 f5, .fl .f32 f6])] =
    .need (pu_ok { n := n, m := m, f0 := f0, f1 := f1, f2 := f2, f3 := f3, f4 := f4, f5 := f5, f6 := f6, skip := skip, core := core } { i := 0, x0 := x0, x1 := x1, x2 := x2, y0 := canon .f32 0, y1 := canon .f32 0, y2 := canon .f32 0, a0 := canon .f32 0, a1 := canon .f32 0, a2 := canon .f32 0 }) (.leaf (.agg [.fl .f32 (puIT n m f0 f1 f2 f3 f4 f5 f6 x0 x1 x2 core skip).2.2.2.2.2.2.1, .fl .f32 (puIT n m f0 f1 f2 f3 f4 f5 f6 x0 x1 x2 core skip).2.2.2.2.2.2.2.1, .fl .f32 (puIT n m f0 f1 f2 f3 f4 f5 f6 x0 x1 x2 core skip).2.2.2.2.2.2.2.2], [])) := by kernel_rfl
theorem puIT_eq (n m : Nat) (f0 f1 f2 f3 f4 f5 f6 : Nat → Nat) (x0 x1 x2 core : Nat) (skip : Int) : (puIT n m f0 f1 f2 f3 f4 f5 f6 x0 x1 x2 core skip) = (x0, x1, x2, canon .f32 0, canon .f32 0, canon .f32 0, (puV n f0 f1 f2 f3 f4 f5 f6 x0 x1 x2 core skip).1, (puV n f0 f1 f2 f3 f4 f5 f6 x0 x1 x2 core skip).2.1, (puV n f0 f1 f2 f3 f4 f5 f6 x0 x1 x2 core skip).2.2) := pu_it _ n 0 _
noncomputable def k_sPu : Ctr Try.prog := (k_sPu0.to run_pu (by
  intro args mem _
  unfold run_pu
  split
  · rename_i n skip x0 x1 x2 core m f0 f1 f2 f3 f4 f5 f6 _
    rw [sPu0_num, puIT_eq]
    constructor
    intro Φ hΦ h
    have hm := of_decide_eq_true h.1
    have hn := of_decide_eq_true h.2.1
    exact T.h_need (decide_eq_true ⟨hm, by show n ≤ 1099511627776; omega, Int.le_refl 0, Int.natCast_nonneg n⟩) (T.h_leaf h.2.2)
  · rename_i n skip x0 x1 x2 core m f0 f1 f2 f3 f4 f5 f6 _
    rw [sPu0_int, puIT_eq]
    constructor
    intro Φ hΦ h
    have hm := of_decide_eq_true h.1
    have hn := of_decide_eq_true h.2.1
    exact T.h_need (decide_eq_true ⟨hm, by show n ≤ 1099511627776; omega, Int.le_refl 0, Int.natCast_nonneg n⟩) (T.h_leaf h.2.2)
  · exact Weak.fail _)).su.own
def pvIT (n m : Nat) (f0 f1 f2 f3 f4 f5 f6 : Nat → Nat) (x0 x1 x2 core : Nat) (skip : Int) : Nat × Nat × Nat × Nat × Nat × Nat × Nat × Nat × Nat := iter (pv_g { n := n, m := m, f0 := f0, f1 := f1, f2 := f2, f3 := f3, f4 := f4, f5 := f5, f6 := f6, skip := skip, core := core, l := (n : Int) }) n 0 (x0, x1, x2, canon .f32 0, canon .f32 0, canon .f32 0, canon .f32 0, canon .f32 0, canon .f32 0)
theorem iPu0_num (n m : Nat) (f0 f1 f2 f3 f4 f5 f6 : Nat → Nat) (x0 x1 x2 core : Nat) (skip : Int) : k_iPu0.run [.one (.su 0 7 0 n false), .one (.num .i64 skip), .agg [.fl .f32 x0, .fl .f32 x1, .fl .f32 x2], .one (.fl .f32 core)] [some (.cols m [.fl .f32 f0, .fl .f32 f1, .fl .f32 f2, .fl .f32 f3, .fl .f32 f4, .fl .f32 f5, .fl .f32 f6])] =
    .need (pv_ok { n := n, m := m, f0 := f0, f1 := f1, f2 := f2, f3 := f3, f4 := f4, f5 := f5, f6 := f6, skip := skip, core := core, l := (n : Int) } { i := 0, x0 := x0, x1 := x1, x2 := x2, y0 := canon .f32 0, y1 := canon .f32 0, y2 := canon .f32 0, a0 := canon .f32 0, a1 := canon .f32 0, a2 := canon .f32 0 }) (.leaf (.agg [.fl .f32 (pvIT n m f0 f1 f2 f3 f4 f5 f6 x0 x1 x2 core skip).2.2.2.2.2.2.1, .fl .f32 (pvIT n m f0 f1 f2 f3 f4 f5 f6 x0 x1 x2 core skip).2.2.2.2.2.2.2.1, .fl .f32 (pvIT n m f0 f1 f2 f3 f4 f5 f6 x0 x1 x2 core skip).2.2.2.2.2.2.2.2], [])) := by kernel_rfl
theorem iPu0_int (n m : Nat) (f0 f1 f2 f3 f4 f5 f6 : Nat → Nat) (x0 x1 x2 core : Nat) (skip : Int) : k_iPu0.run [.one (.su 0 7 0 n false), .one (.int .i64 skip), .agg [.fl .f32 x0, .fl .f32 x1, .fl .f32 x2], .one (.fl .f32 core)] [some (.cols m [.fl .f32 f0, .fl .f32 f1, .fl .f32 f2, .fl .f32 f3, .fl .f32 f4, .fl .f32 f5, .fl .f32 f6])] =
    .need (pv_ok { n := n, m := m, f0 := f0, f1 := f1, f2 := f2, f3 := f3, f4 := f4, f5 := f5, f6 := f6, skip := skip, core := core, l := (n : Int) } { i := 0, x0 := x0, x1 := x1, x2 := x2, y0 := canon .f32 0, y1 := canon .f32 0, y2 := canon .f32 0, a0 := canon .f32 0, a1 := canon .f32 0, a2 := canon .f32 0 }) (.leaf (.agg [.fl .f32 (pvIT n m f0 f1 f2 f3 f4 f5 f6 x0 x1 x2 core skip).2.2.2.2.2.2.1, .fl .f32 (pvIT n m f0 f1 f2 f3 f4 f5 f6 x0 x1 x2 core skip).2.2.2.2.2.2.2.1, .fl .f32 (pvIT n m f0 f1 f2 f3 f4 f5 f6 x0 x1 x2 core skip).2.2.2.2.2.2.2.2], [])) := by kernel_rfl
theorem pvIT_eq (n m : Nat) (f0 f1 f2 f3 f4 f5 f6 : Nat → Nat) (x0 x1 x2 core : Nat) (skip : Int) : (pvIT n m f0 f1 f2 f3 f4 f5 f6 x0 x1 x2 core skip) = (x0, x1, x2, canon .f32 0, canon .f32 0, canon .f32 0, (puV n f0 f1 f2 f3 f4 f5 f6 x0 x1 x2 core skip).1, (puV n f0 f1 f2 f3 f4 f5 f6 x0 x1 x2 core skip).2.1, (puV n f0 f1 f2 f3 f4 f5 f6 x0 x1 x2 core skip).2.2) := pv_it _ n 0 _
noncomputable def k_iPu : Ctr Try.prog := (k_iPu0.to run_pu (by
  intro args mem _
  unfold run_pu
  split
  · rename_i n skip x0 x1 x2 core m f0 f1 f2 f3 f4 f5 f6 _
    rw [iPu0_num, pvIT_eq]
    constructor
    intro Φ hΦ h
    have hm := of_decide_eq_true h.1
    have hn := of_decide_eq_true h.2.1
    exact T.h_need (decide_eq_true ⟨hm, by show n ≤ 1099511627776; omega, rfl, Int.le_refl 0, Int.natCast_nonneg n⟩) (T.h_leaf h.2.2)
  · rename_i n skip x0 x1 x2 core m f0 f1 f2 f3 f4 f5 f6 _
    rw [iPu0_int, pvIT_eq]
    constructor
    intro Φ hΦ h
    have hm := of_decide_eq_true h.1
    have hn := of_decide_eq_true h.2.1
    exact T.h_need (decide_eq_true ⟨hm, by show n ≤ 1099511627776; omega, rfl, Int.le_refl 0, Int.natCast_nonneg n⟩) (T.h_leaf h.2.2)
  · exact Weak.fail _)).su.own
noncomputable def k_pu_s_l02Vector : Ctr Try.prog := (mkF Try.prog mix [k_l01VFinite] 74 Try.f74 (bodyOf Try.f74) Try.func74 (by kernel_rfl) (by kernel_rfl) [0, 1, 2, 3, 6] 9 (by kernel_rfl) (by kernel_rfl)).mg
noncomputable def k_pu_i_isCore : Ctr Try.prog := (mkF Try.prog mix [k_IsFinite] 67 Try.f67 (bodyOf Try.f67) Try.func67 (by kernel_rfl) (by kernel_rfl) [0, 2] 9 (by kernel_rfl) (by kernel_rfl)).mg
noncomputable def k_sPa0 : Ctr Try.prog := (mkF0 Try.prog mix [k_l02Are, k_l01VFinite, k_l02Least, k_sPu, k_pu_s_l02Vector] 25 Try.f25 (bodyOf Try.f25) Try.func25 (by kernel_rfl) (by kernel_rfl) [0, 1, 2, 4, 6, 7, 20, 198] 29 (by kernel_rfl) (by kernel_rfl) []).mg
noncomputable def k_iPa0 : Ctr Try.prog := (mkF0 Try.prog mix [k_AreBodies, k_pu_i_isCore, k_isFiniteVector, k_iPu] 27 Try.f27 (bodyOf Try.f27) Try.func27 (by kernel_rfl) (by kernel_rfl) [0, 1, 2, 4, 6, 7, 8, 21, 29, 198] 32 (by kernel_rfl) (by kernel_rfl) []).mg
def paC (A f co : Bool) : Bool := bif !A then true else bif !f then true else !co
def paD (A f co : Bool) : Bool := bif !A then true else bif !co then true else !f
theorem paD_eq (A f co : Bool) : paD A f co = paC A f co := by cases A <;> cases f <;> cases co <;> rfl
theorem paC_in {A f co : Bool} (h : paC A f co = false) : A = true := by cases A <;> first | rfl | cases h
def coreB (core : Nat) : Bool := bif fin .f32 core then fge .f32 core (canon .f32 0) else false
def paLeaf (C : Bool) (V : Nat × Nat × Nat) : Res := (.tup [.agg [.fl .f32 (bif C then canon .f32 0 else bif !fin3 V.1 V.2.1 V.2.2 then canon .f32 0 else V.1), .fl .f32 (bif C then canon .f32 0 else bif !fin3 V.1 V.2.1 V.2.2 then canon .f32 0 else V.2.1), .fl .f32 (bif C then canon .f32 0 else bif !fin3 V.1 V.2.1 V.2.2 then canon .f32 0 else V.2.2)], .one (.bo (bif C then false else !!fin3 V.1 V.2.1 V.2.2))], [])
def run_pa : List AV → Mem → T Res
  | [.one (.su 0 7 0 n false), .agg [.fl .f32 x0, .fl .f32 x1, .fl .f32 x2], .one (.fl .f32 core)], [some (.cols m [.fl .f32 f0, .fl .f32 f1, .fl .f32 f2, .fl .f32 f3, .fl .f32 f4, .fl .f32 f5, .fl .f32 f6])] => .need (decide (n ≤ m)) (.leaf (paLeaf (paC (areB n f0 f1 f2 f3 f4 f5 f6) (fin3 x0 x1 x2) (coreB core)) (puV n f0 f1 f2 f3 f4 f5 f6 x0 x1 x2 core (-1))))
  | _, _ => .fail
theorem sPa0_ev (n m : Nat) (f0 f1 f2 f3 f4 f5 f6 : Nat → Nat) (x0 x1 x2 core : Nat) : k_sPa0.run [.one (.su 0 7 0 n false), .agg [.fl .f32 x0, .fl .f32 x1, .fl .f32 x2], .one (.fl .f32 core)] [some (.cols m [.fl .f32 f0, .fl .f32 f1, .fl .f32 f2, .fl .f32 f3, .fl .f32 f4, .fl .f32 f5, .fl .f32 f6])] =
    .need (decide (n ≤ m)) (.need (bif (paC (areB n f0 f1 f2 f3 f4 f5 f6) (fin3 x0 x1 x2) (coreB core)) then true else decide (n ≤ m)) (.need (bif (paC (areB n f0 f1 f2 f3 f4 f5 f6) (fin3 x0 x1 x2) (coreB core)) then true else decide (n ≤ 1048576)) (.leaf (paLeaf (paC (areB n f0 f1 f2 f3 f4 f5 f6) (fin3 x0 x1 x2) (coreB core)) (puV n f0 f1 f2 f3 f4 f5 f6 x0 x1 x2 core (-1)))))) := by kernel_rfl
noncomputable def k_sPa : Ctr Try.prog := (k_sPa0.to run_pa (by
  intro args mem _
  unfold run_pa
  split
  · rename_i n x0 x1 x2 core m f0 f1 f2 f3 f4 f5 f6 _
    rw [sPa0_ev]
    constructor
    intro Φ hΦ h
    exact T.h_need h.1 (T.h_need (needT fun _ => h.1) (T.h_need (needT fun hA => decide_eq_true (by have : n ≤ 16 := areB_le (paC_in hA); omega)) (T.h_leaf h.2)))
  · exact Weak.fail _)).su.own
theorem iPa0_ev (n m : Nat) (f0 f1 f2 f3 f4 f5 f6 : Nat → Nat) (x0 x1 x2 core : Nat) : k_iPa0.run [.one (.su 0 7 0 n false), .agg [.fl .f32 x0, .fl .f32 x1, .fl .f32 x2], .one (.fl .f32 core)] [some (.cols m [.fl .f32 f0, .fl .f32 f1, .fl .f32 f2, .fl .f32 f3, .fl .f32 f4, .fl .f32 f5, .fl .f32 f6])] =
    .need (decide (n ≤ m)) (.need (bif (paD (areB n f0 f1 f2 f3 f4 f5 f6) (fin3 x0 x1 x2) (coreB core)) then true else decide (n ≤ m)) (.need (bif (paD (areB n f0 f1 f2 f3 f4 f5 f6) (fin3 x0 x1 x2) (coreB core)) then true else decide (n ≤ 1048576)) (.leaf (paLeaf (paD (areB n f0 f1 f2 f3 f4 f5 f6) (fin3 x0 x1 x2) (coreB core)) (puV n f0 f1 f2 f3 f4 f5 f6 x0 x1 x2 core (-1)))))) := by kernel_rfl
noncomputable def k_iPa : Ctr Try.prog := (k_iPa0.to run_pa (by
  intro args mem _
  unfold run_pa
  split
  · rename_i n x0 x1 x2 core m f0 f1 f2 f3 f4 f5 f6 _
    rw [iPa0_ev, paD_eq]
    constructor
    intro Φ hΦ h
    exact T.h_need h.1 (T.h_need (needT fun _ => h.1) (T.h_need (needT fun hA => decide_eq_true (by have : n ≤ 16 := areB_le (paC_in hA); omega)) (T.h_leaf h.2)))
  · exact Weak.fail _)).su.own

end Go.Proofs.Ytjcofjelfaoecaa
