/-
  AreEntries: both functions in the same words. No conditions.
-/
import Derived.Test.YtdmcpgbnomhahaaEs
namespace Go.Proofs.Ytdmcpgbnomhahaa
set_option linter.unusedVariables false
set_option linter.unusedSimpArgs false
open Go.RowKit

noncomputable def k_orP : Ctr Try.prog := (mkF0 Try.prog mix [k_l01Finite, k_en_s_l03Turn] 67 Try.f67 (bodyOf Try.f67) Try.func67 (by kernel_rfl) (by kernel_rfl) [0, 2, 47, 52, 198] 98 (by kernel_rfl) (by kernel_rfl) []).mg
noncomputable def k_enP : Ctr Try.prog := (mkF0 Try.prog mix [k_sNm, k_en_s_l02Above, k_orP] 37 Try.f37 (bodyOf Try.f37) Try.func37 (by kernel_rfl) (by kernel_rfl) [0, 2, 198] 21 (by kernel_rfl) (by kernel_rfl) []).mg
def run_enP : List AV → Mem → T Res
  | [.one (.ptr 0 8 i 0)], [some (.cols m [.str f0, .fl .f32 f1, .fl .f32 f2, .fl .f32 f3, .fl .f32 f4, .fl .f32 f5, .fl .f32 f6, .fl .f32 f7])] => .need (decide (i < m)) (.need (decide ((f0 i).size ≤ 1099511627776)) (.leaf (.one (.bo (entOK (f0 i) (f1 i) (f2 i) (f3 i) (f4 i) (f5 i) (f6 i) (f7 i))), [])))
  | _, _ => .fail
theorem enP_ev (i m : Nat) (f0 : Nat → ByteArray) (f1 f2 f3 f4 f5 f6 f7 : Nat → Nat) : k_enP.run [.one (.ptr 0 8 i 0)] [some (.cols m [.str f0, .fl .f32 f1, .fl .f32 f2, .fl .f32 f3, .fl .f32 f4, .fl .f32 f5, .fl .f32 f6, .fl .f32 f7])] =
    (T.need (decide (i < m)) (T.need (decide ((f0 i).size ≤ 1099511627776)) (T.need (bif nameOK (f0 i) then decide (i < m) else true) (T.need (bif nameOK (f0 i) then bif bif fin FloatKind.f32 (f1 i) then fgt FloatKind.f32 (f1 i) (canon FloatKind.f32 0) else false then decide (i < m) else true else true) (T.need (bif nameOK (f0 i) then bif bif fin FloatKind.f32 (f1 i) then fgt FloatKind.f32 (f1 i) (canon FloatKind.f32 0) else false then bif !fin FloatKind.f32 (f2 i) then true else decide (i < m) else true else true) (T.need (bif nameOK (f0 i) then bif bif fin FloatKind.f32 (f1 i) then fgt FloatKind.f32 (f1 i) (canon FloatKind.f32 0) else false then bif !fin FloatKind.f32 (f2 i) then true else bif !fin FloatKind.f32 (f3 i) then true else decide (i < m) else true else true) (T.need (bif nameOK (f0 i) then bif bif fin FloatKind.f32 (f1 i) then fgt FloatKind.f32 (f1 i) (canon FloatKind.f32 0) else false then bif !fin FloatKind.f32 (f2 i) then true else bif !fin FloatKind.f32 (f3 i) then true else bif fge FloatKind.f32 (f4 i) (canon FloatKind.f32 0) then decide (i < m) else true else true else true) (T.need (bif nameOK (f0 i) then bif bif fin FloatKind.f32 (f1 i) then fgt FloatKind.f32 (f1 i) (canon FloatKind.f32 0) else false then bif !fin FloatKind.f32 (f2 i) then true else bif !fin FloatKind.f32 (f3 i) then true else bif fge FloatKind.f32 (f4 i) (canon FloatKind.f32 0) then bif !fle FloatKind.f32 (f4 i) (canon FloatKind.f32 1056964608) then true else decide (i < m) else true else true else true) (T.need (bif nameOK (f0 i) then bif bif fin FloatKind.f32 (f1 i) then fgt FloatKind.f32 (f1 i) (canon FloatKind.f32 0) else false then bif !fin FloatKind.f32 (f2 i) then true else bif !fin FloatKind.f32 (f3 i) then true else bif fge FloatKind.f32 (f4 i) (canon FloatKind.f32 0) then bif !fle FloatKind.f32 (f4 i) (canon FloatKind.f32 1056964608) then true else bif !bif fge FloatKind.f32 (f5 i) (canon FloatKind.f32 0) then flt FloatKind.f32 (f5 i) (canon FloatKind.f32 1065353216) else false then true else decide (i < m) else true else true else true) (T.need (bif nameOK (f0 i) then bif bif fin FloatKind.f32 (f1 i) then fgt FloatKind.f32 (f1 i) (canon FloatKind.f32 0) else false then bif bif !fin FloatKind.f32 (f2 i) then true else bif !fin FloatKind.f32 (f3 i) then true else bif fge FloatKind.f32 (f4 i) (canon FloatKind.f32 0) then bif !fle FloatKind.f32 (f4 i) (canon FloatKind.f32 1056964608) then true else bif !bif fge FloatKind.f32 (f5 i) (canon FloatKind.f32 0) then flt FloatKind.f32 (f5 i) (canon FloatKind.f32 1065353216) else false then true else !bif fge FloatKind.f32 (f6 i) (canon FloatKind.f32 0) then flt FloatKind.f32 (f6 i) (canon FloatKind.f32 1065353216) else false else true then true else decide (i < m) else true else true) (T.need (bif nameOK (f0 i) then bif bif fin FloatKind.f32 (f1 i) then fgt FloatKind.f32 (f1 i) (canon FloatKind.f32 0) else false then bif bif !fin FloatKind.f32 (f2 i) then true else bif !fin FloatKind.f32 (f3 i) then true else bif fge FloatKind.f32 (f4 i) (canon FloatKind.f32 0) then bif !fle FloatKind.f32 (f4 i) (canon FloatKind.f32 1056964608) then true else bif !bif fge FloatKind.f32 (f5 i) (canon FloatKind.f32 0) then flt FloatKind.f32 (f5 i) (canon FloatKind.f32 1065353216) else false then true else !bif fge FloatKind.f32 (f6 i) (canon FloatKind.f32 0) then flt FloatKind.f32 (f6 i) (canon FloatKind.f32 1065353216) else false else true then true else bif fgt FloatKind.f32 (f2 i) (canon FloatKind.f32 0) then decide (i < m) else true else true else true) (T.need (bif nameOK (f0 i) then bif bif fin FloatKind.f32 (f1 i) then fgt FloatKind.f32 (f1 i) (canon FloatKind.f32 0) else false then bif bif !fin FloatKind.f32 (f2 i) then true else bif !fin FloatKind.f32 (f3 i) then true else bif fge FloatKind.f32 (f4 i) (canon FloatKind.f32 0) then bif !fle FloatKind.f32 (f4 i) (canon FloatKind.f32 1056964608) then true else bif !bif fge FloatKind.f32 (f5 i) (canon FloatKind.f32 0) then flt FloatKind.f32 (f5 i) (canon FloatKind.f32 1065353216) else false then true else !bif fge FloatKind.f32 (f6 i) (canon FloatKind.f32 0) then flt FloatKind.f32 (f6 i) (canon FloatKind.f32 1065353216) else false else true then true else bif fgt FloatKind.f32 (f2 i) (canon FloatKind.f32 0) then bif fge FloatKind.f32 (f3 i) (canon FloatKind.f32 0) then decide (i < m) else true else true else true else true) (T.need (bif nameOK (f0 i) then bif bif fin FloatKind.f32 (f1 i) then fgt FloatKind.f32 (f1 i) (canon FloatKind.f32 0) else false then bif bif !fin FloatKind.f32 (f2 i) then true else bif !fin FloatKind.f32 (f3 i) then true else bif fge FloatKind.f32 (f4 i) (canon FloatKind.f32 0) then bif !fle FloatKind.f32 (f4 i) (canon FloatKind.f32 1056964608) then true else bif !bif fge FloatKind.f32 (f5 i) (canon FloatKind.f32 0) then flt FloatKind.f32 (f5 i) (canon FloatKind.f32 1065353216) else false then true else !bif fge FloatKind.f32 (f6 i) (canon FloatKind.f32 0) then flt FloatKind.f32 (f6 i) (canon FloatKind.f32 1065353216) else false else true then true else bif fgt FloatKind.f32 (f2 i) (canon FloatKind.f32 0) then bif fge FloatKind.f32 (f3 i) (canon FloatKind.f32 0) then bif flt FloatKind.f32 (f3 i) (canon FloatKind.f32 1065353216) then decide (i < m) else true else true else true else true else true) (T.need (bif nameOK (f0 i) then bif bif fin FloatKind.f32 (f1 i) then fgt FloatKind.f32 (f1 i) (canon FloatKind.f32 0) else false then bif bif !fin FloatKind.f32 (f2 i) then true else bif !fin FloatKind.f32 (f3 i) then true else bif fge FloatKind.f32 (f4 i) (canon FloatKind.f32 0) then bif !fle FloatKind.f32 (f4 i) (canon FloatKind.f32 1056964608) then true else bif !bif fge FloatKind.f32 (f5 i) (canon FloatKind.f32 0) then flt FloatKind.f32 (f5 i) (canon FloatKind.f32 1065353216) else false then true else !bif fge FloatKind.f32 (f6 i) (canon FloatKind.f32 0) then flt FloatKind.f32 (f6 i) (canon FloatKind.f32 1065353216) else false else true then true else bif fgt FloatKind.f32 (f2 i) (canon FloatKind.f32 0) then true else decide (i < m) else true else true) (T.need (bif nameOK (f0 i) then bif bif fin FloatKind.f32 (f1 i) then fgt FloatKind.f32 (f1 i) (canon FloatKind.f32 0) else false then bif bif !fin FloatKind.f32 (f2 i) then true else bif !fin FloatKind.f32 (f3 i) then true else bif fge FloatKind.f32 (f4 i) (canon FloatKind.f32 0) then bif !fle FloatKind.f32 (f4 i) (canon FloatKind.f32 1056964608) then true else bif !bif fge FloatKind.f32 (f5 i) (canon FloatKind.f32 0) then flt FloatKind.f32 (f5 i) (canon FloatKind.f32 1065353216) else false then true else !bif fge FloatKind.f32 (f6 i) (canon FloatKind.f32 0) then flt FloatKind.f32 (f6 i) (canon FloatKind.f32 1065353216) else false else true then true else bif fgt FloatKind.f32 (f2 i) (canon FloatKind.f32 0) then true else bif flt FloatKind.f32 (f2 i) (canon FloatKind.f32 0) then decide (i < m) else true else true else true) (T.need (bif nameOK (f0 i) then bif bif fin FloatKind.f32 (f1 i) then fgt FloatKind.f32 (f1 i) (canon FloatKind.f32 0) else false then bif bif !fin FloatKind.f32 (f2 i) then true else bif !fin FloatKind.f32 (f3 i) then true else bif fge FloatKind.f32 (f4 i) (canon FloatKind.f32 0) then bif !fle FloatKind.f32 (f4 i) (canon FloatKind.f32 1056964608) then true else bif !bif fge FloatKind.f32 (f5 i) (canon FloatKind.f32 0) then flt FloatKind.f32 (f5 i) (canon FloatKind.f32 1065353216) else false then true else !bif fge FloatKind.f32 (f6 i) (canon FloatKind.f32 0) then flt FloatKind.f32 (f6 i) (canon FloatKind.f32 1065353216) else false else true then true else bif fgt FloatKind.f32 (f2 i) (canon FloatKind.f32 0) then true else bif flt FloatKind.f32 (f2 i) (canon FloatKind.f32 0) then bif fgt FloatKind.f32 (f3 i) (canon FloatKind.f32 1065353216) then decide (i < m) else true else true else true else true) (T.need (bif nameOK (f0 i) then bif bif fin FloatKind.f32 (f1 i) then fgt FloatKind.f32 (f1 i) (canon FloatKind.f32 0) else false then bif bif !fin FloatKind.f32 (f2 i) then true else bif !fin FloatKind.f32 (f3 i) then true else bif fge FloatKind.f32 (f4 i) (canon FloatKind.f32 0) then bif !fle FloatKind.f32 (f4 i) (canon FloatKind.f32 1056964608) then true else bif !bif fge FloatKind.f32 (f5 i) (canon FloatKind.f32 0) then flt FloatKind.f32 (f5 i) (canon FloatKind.f32 1065353216) else false then true else !bif fge FloatKind.f32 (f6 i) (canon FloatKind.f32 0) then flt FloatKind.f32 (f6 i) (canon FloatKind.f32 1065353216) else false else true then true else bif fgt FloatKind.f32 (f2 i) (canon FloatKind.f32 0) then true else bif flt FloatKind.f32 (f2 i) (canon FloatKind.f32 0) then bif fgt FloatKind.f32 (f3 i) (canon FloatKind.f32 1065353216) then bif fge FloatKind.f32 (f7 i) (canon FloatKind.f32 3246391296) then decide (i < m) else true else true else true else true else true) (T.leaf (AV.one (SV.bo (bif nameOK (f0 i) then bif bif fin FloatKind.f32 (f1 i) then fgt FloatKind.f32 (f1 i) (canon FloatKind.f32 0) else false then bif bif !fin FloatKind.f32 (f2 i) then true else bif !fin FloatKind.f32 (f3 i) then true else bif fge FloatKind.f32 (f4 i) (canon FloatKind.f32 0) then bif !fle FloatKind.f32 (f4 i) (canon FloatKind.f32 1056964608) then true else bif !bif fge FloatKind.f32 (f5 i) (canon FloatKind.f32 0) then flt FloatKind.f32 (f5 i) (canon FloatKind.f32 1065353216) else false then true else !bif fge FloatKind.f32 (f6 i) (canon FloatKind.f32 0) then flt FloatKind.f32 (f6 i) (canon FloatKind.f32 1065353216) else false else true then false else bif fgt FloatKind.f32 (f2 i) (canon FloatKind.f32 0) then bif fge FloatKind.f32 (f3 i) (canon FloatKind.f32 0) then bif flt FloatKind.f32 (f3 i) (canon FloatKind.f32 1065353216) then bif fge FloatKind.f32 (f7 i) (canon FloatKind.f32 0) then flt FloatKind.f32 (f7 i) (canon FloatKind.f32 1065353216) else false else false else false else bif flt FloatKind.f32 (f2 i) (canon FloatKind.f32 0) then bif fgt FloatKind.f32 (f3 i) (canon FloatKind.f32 1065353216) then bif fge FloatKind.f32 (f7 i) (canon FloatKind.f32 3246391296) then fle FloatKind.f32 (f7 i) (canon FloatKind.f32 1098907648) else false else false else false else false else false)), []))))))))))))))))))) := by kernel_rfl
noncomputable def k_enE : Ctr Try.prog := (k_enP.to run_enP (by
  intro args mem _
  unfold run_enP
  split
  · rename_i i m f0 f1 f2 f3 f4 f5 f6 f7 _
    rw [enP_ev]
    constructor
    intro Φ hΦ h
    have hi : i < m := of_decide_eq_true h.1
    exact T.h_need (decide_eq_true hi) (T.h_need (h.2.1) (T.h_need (by simp [hi]) (T.h_need (by simp [hi]) (T.h_need (by simp [hi]) (T.h_need (by simp [hi]) (T.h_need (by simp [hi]) (T.h_need (by simp [hi]) (T.h_need (by simp [hi]) (T.h_need (by simp [hi]) (T.h_need (by simp [hi]) (T.h_need (by simp [hi]) (T.h_need (by simp [hi]) (T.h_need (by simp [hi]) (T.h_need (by simp [hi]) (T.h_need (by simp [hi]) (T.h_need (by simp [hi]) (T.h_leaf h.2.2)))))))))))))))))
  · exact Weak.fail _)).own
def entBad (f0 : Nat → ByteArray) (f1 f2 f3 f4 f5 f6 f7 : Nat → Nat) (j : Nat) : Bool := bif !entOK (f0 j) (f1 j) (f2 j) (f3 j) (f4 j) (f5 j) (f6 j) (f7 j) then true else bif decide (0 < (j : Int)) then !Op.bytesLess (f0 ((IntKind.i64.wrap ((j : Int) - 1)).toNat + 0)).toList (f0 j).toList else false
structure Cls where
  n : Nat
  m : Nat
  f0 : Nat → ByteArray
  f1 : Nat → Nat
  f2 : Nat → Nat
  f3 : Nat → Nat
  f4 : Nat → Nat
  f5 : Nat → Nat
  f6 : Nat → Nat
  f7 : Nat → Nat
def Cls.base (c : Cls) : Mem := [some (.cols c.m [.str c.f0, .fl .f32 c.f1, .fl .f32 c.f2, .fl .f32 c.f3, .fl .f32 c.f4, .fl .f32 c.f5, .fl .f32 c.f6, .fl .f32 c.f7])]
structure Vls where
  i : Int
noncomputable abbrev lsRoot : Code := bodyOf Try.f45
def ls_st (c : Cls) (v : Vls) : FSt := ⟨[(0, .one (.su 0 8 0 c.n false)), (2, .one (.tt false)), (3, .one (.num .i64 v.i))], c.base ++ []⟩
def ls_step (c : Cls) (v : Vls) : T (Nx Vls) :=
  .ite (bif decide (v.1 < ((c.1 : Nat) : Int)) then decide (((c.1 : Nat) : Int) ≤ 16) else false) (.need (decide (0 ≤ v.1) && decide (v.1 < ((c.1 : Nat) : Int))) (.need (decide (v.1.toNat + 0 < c.2)) (.need (decide ((c.3 (v.1.toNat + 0)).size ≤ 1099511627776)) (.need (bif !entOK (c.3 (v.1.toNat + 0)) (c.4 (v.1.toNat + 0)) (c.5 (v.1.toNat + 0)) (c.6 (v.1.toNat + 0)) (c.7 (v.1.toNat + 0)) (c.8 (v.1.toNat + 0)) (c.9 (v.1.toNat + 0)) (c.10 (v.1.toNat + 0)) then true else bif decide (0 < v.1) then decide (0 ≤ IntKind.i64.wrap (v.1 - 1)) && decide (IntKind.i64.wrap (v.1 - 1) < ((c.1 : Nat) : Int)) else true) (.need (bif !entOK (c.3 (v.1.toNat + 0)) (c.4 (v.1.toNat + 0)) (c.5 (v.1.toNat + 0)) (c.6 (v.1.toNat + 0)) (c.7 (v.1.toNat + 0)) (c.8 (v.1.toNat + 0)) (c.9 (v.1.toNat + 0)) (c.10 (v.1.toNat + 0)) then true else bif decide (0 < v.1) then decide ((IntKind.i64.wrap (v.1 - 1)).toNat + 0 < c.2) else true) (.need (bif !entOK (c.3 (v.1.toNat + 0)) (c.4 (v.1.toNat + 0)) (c.5 (v.1.toNat + 0)) (c.6 (v.1.toNat + 0)) (c.7 (v.1.toNat + 0)) (c.8 (v.1.toNat + 0)) (c.9 (v.1.toNat + 0)) (c.10 (v.1.toNat + 0)) then true else bif decide (0 < v.1) then decide (0 ≤ v.1) && decide (v.1 < ((c.1 : Nat) : Int)) else true) (.need (bif !entOK (c.3 (v.1.toNat + 0)) (c.4 (v.1.toNat + 0)) (c.5 (v.1.toNat + 0)) (c.6 (v.1.toNat + 0)) (c.7 (v.1.toNat + 0)) (c.8 (v.1.toNat + 0)) (c.9 (v.1.toNat + 0)) (c.10 (v.1.toNat + 0)) then true else bif decide (0 < v.1) then decide (v.1.toNat + 0 < c.2) else true) (.ite (bif !entOK (c.3 (v.1.toNat + 0)) (c.4 (v.1.toNat + 0)) (c.5 (v.1.toNat + 0)) (c.6 (v.1.toNat + 0)) (c.7 (v.1.toNat + 0)) (c.8 (v.1.toNat + 0)) (c.9 (v.1.toNat + 0)) (c.10 (v.1.toNat + 0)) then true else bif decide (0 < v.1) then !Op.bytesLess (c.3 ((IntKind.i64.wrap (v.1 - 1)).toNat + 0)).toList (c.3 (v.1.toNat + 0)).toList else false) (.leaf (.out (EX.ret) ⟨[(0, AV.one (SV.su 0 8 0 c.1 false)), (2, AV.one (SV.tt false)), (3, AV.one (SV.num IntKind.i64 v.1))], c.base ++ []⟩)) (.leaf (.go { i := IntKind.i64.wrap (v.1 + 1) })))))))))) (.leaf (.out (EX.exit 0) ⟨[(0, AV.one (SV.su 0 8 0 c.1 false)), (2, AV.one (SV.tt false)), (3, AV.one (SV.num IntKind.i64 v.1))], c.base ++ []⟩))
theorem ls_round (c : Cls) (v : Vls) : roundF Try.prog 41 [k_enE] lsRoot [] c.base [0, 2, 3, 12, 37, 198] [0, 2, 3] 0 (ls_st c v) = (ls_step c v).map (nxF (ls_st c)) := by kernel_rfl
structure Cli where
  m : Nat
  f0 : Nat → ByteArray
  f1 : Nat → Nat
  f2 : Nat → Nat
  f3 : Nat → Nat
  f4 : Nat → Nat
  f5 : Nat → Nat
  f6 : Nat → Nat
  f7 : Nat → Nat
  n2 : Nat
  n : Nat
  l : Int
def Cli.base (c : Cli) : Mem := [some (.cols c.m [.str c.f0, .fl .f32 c.f1, .fl .f32 c.f2, .fl .f32 c.f3, .fl .f32 c.f4, .fl .f32 c.f5, .fl .f32 c.f6, .fl .f32 c.f7])]
structure Vli where
  i : Int
noncomputable abbrev liRoot : Code := bodyOf Try.f46
def li_st (c : Cli) (v : Vli) : FSt := ⟨[(0, .one (.su 0 8 0 c.n2 false)), (2, .one (.tt false)), (5, .one (.su 0 8 0 c.n false)), (6, .one (.num .i64 c.l)), (7, .one (.num .i64 v.i))], c.base ++ []⟩
def li_step (c : Cli) (v : Vli) : T (Nx Vli) :=
  .ite (decide (v.1 < c.12)) (.need (decide (0 ≤ v.1) && decide (v.1 < ((c.11 : Nat) : Int))) (.need (decide (v.1.toNat + 0 < c.1)) (.need (decide ((c.2 (v.1.toNat + 0)).size ≤ 1099511627776)) (.need (bif !entOK (c.2 (v.1.toNat + 0)) (c.3 (v.1.toNat + 0)) (c.4 (v.1.toNat + 0)) (c.5 (v.1.toNat + 0)) (c.6 (v.1.toNat + 0)) (c.7 (v.1.toNat + 0)) (c.8 (v.1.toNat + 0)) (c.9 (v.1.toNat + 0)) then true else bif decide (0 < v.1) then decide (0 ≤ IntKind.i64.wrap (v.1 - 1)) && decide (IntKind.i64.wrap (v.1 - 1) < ((c.10 : Nat) : Int)) else true) (.need (bif !entOK (c.2 (v.1.toNat + 0)) (c.3 (v.1.toNat + 0)) (c.4 (v.1.toNat + 0)) (c.5 (v.1.toNat + 0)) (c.6 (v.1.toNat + 0)) (c.7 (v.1.toNat + 0)) (c.8 (v.1.toNat + 0)) (c.9 (v.1.toNat + 0)) then true else bif decide (0 < v.1) then decide ((IntKind.i64.wrap (v.1 - 1)).toNat + 0 < c.1) else true) (.ite (bif !entOK (c.2 (v.1.toNat + 0)) (c.3 (v.1.toNat + 0)) (c.4 (v.1.toNat + 0)) (c.5 (v.1.toNat + 0)) (c.6 (v.1.toNat + 0)) (c.7 (v.1.toNat + 0)) (c.8 (v.1.toNat + 0)) (c.9 (v.1.toNat + 0)) then true else bif decide (0 < v.1) then !Op.bytesLess (c.2 ((IntKind.i64.wrap (v.1 - 1)).toNat + 0)).toList (c.2 (v.1.toNat + 0)).toList else false) (.leaf (.out (EX.ret) ⟨[(0, AV.one (SV.su 0 8 0 c.10 false)), (2, AV.one (SV.tt false)), (5, AV.one (SV.su 0 8 0 c.11 false)), (6, AV.one (SV.num IntKind.i64 c.12)), (7, AV.one (SV.num IntKind.i64 v.1))], c.base ++ []⟩)) (.leaf (.go { i := IntKind.i64.wrap (v.1 + 1) })))))))) (.leaf (.out (EX.exit 0) ⟨[(0, AV.one (SV.su 0 8 0 c.10 false)), (2, AV.one (SV.tt false)), (5, AV.one (SV.su 0 8 0 c.11 false)), (6, AV.one (SV.num IntKind.i64 c.12)), (7, AV.one (SV.num IntKind.i64 v.1))], c.base ++ []⟩))
theorem li_round (c : Cli) (v : Vli) : roundF Try.prog 34 [k_iVe] liRoot [] c.base [0, 2, 3, 4, 5, 6, 7, 8, 29, 198] [0, 2, 5, 6, 7] 0 (li_st c v) = (li_step c v).map (nxF (li_st c)) := by kernel_rfl
def capN (n : Nat) : Nat := if n ≤ 16 then n else 0
theorem capN_le (n : Nat) : capN n ≤ n := by
  unfold capN
  split <;> omega
def ls_g (c : Cls) (j : Nat) (a : Unit) : Unit := a
def ls_ok (c : Cls) (v : Vls) : Bool := decide (c.n ≤ c.m ∧ c.n ≤ 1048576 ∧ (∀ i, i < c.n → (c.f0 i).size ≤ 1099511627776) ∧ 0 ≤ v.i ∧ v.i ≤ (((capN c.n) : Nat) : Int))
def ls_fin (c : Cls) (a : Unit) : FSt := ls_st c ({ i := (((capN c.n) : Nat) : Int) })
def ls_osv (c : Cls) (v : Vls) : FSt := ⟨[(0, AV.one (SV.su 0 8 0 c.1 false)), (2, AV.one (SV.tt false)), (3, AV.one (SV.num IntKind.i64 v.1))], c.base ++ []⟩
def ls_ost (c : Cls) (o : (Nat × (Unit))) : FSt := ls_osv c ((fun (j : Nat) (a : Unit) => ({ i := ((j : Nat) : Int) } : Vls)) o.1 o.2)
def ls_it (c : Cls) (k s : Nat) (a : Unit) : (Unit) ⊕ (Nat × (Unit)) := iterX (exitAt (entBad c.f0 c.f1 c.f2 c.f3 c.f4 c.f5 c.f6 c.f7) (ls_g c)) k s a
noncomputable def ls_R (x : Cls × Vls) : T (EX × FSt) := .need (ls_ok x.1 x.2) (.ite (isL (ls_it x.1 ((capN x.1.n) - x.2.i.toNat) x.2.i.toNat ())) (.leaf (.normal, ls_fin x.1 (valL () (ls_it x.1 ((capN x.1.n) - x.2.i.toNat) x.2.i.toNat ())))) (.leaf (.ret, ls_ost x.1 (valR (0, ()) (ls_it x.1 ((capN x.1.n) - x.2.i.toNat) x.2.i.toNat ())))))
theorem ls_tri (x : Cls × Vls) : TriR Try.prog 41 x.1.base (.block 0 (.loop (bodyB lsRoot 0))) (ls_st x.1 x.2) (ls_R x) := by
  obtain ⟨c, v⟩ := x
  refine triR_of mix (root := lsRoot) (by kernel_rfl) (by kernel_rfl) [0, 2, 3, 12, 37, 198] [0, 2, 3] (ls_st c) (ls_step c) (ls_round c) v _ (((capN c.n) - v.i.toNat) + 1) (fun Φ h => ?_)
  have h0 := h.1
  have h3 : (isL (ls_it c ((capN c.n) - v.i.toNat) v.i.toNat ()) = true → Φ (.normal, ls_fin c (valL () (ls_it c ((capN c.n) - v.i.toNat) v.i.toNat ())))) ∧ (isL (ls_it c ((capN c.n) - v.i.toNat) v.i.toNat ()) = false → Φ (.ret, ls_ost c (valR (0, ()) (ls_it c ((capN c.n) - v.i.toNat) v.i.toNat ())))) := h.2
  simp only [ls_ok, decide_eq_true_eq] at h0
  obtain ⟨hk0, hk1, hk2, hi0, hin⟩ := h0
  have hv : v = (fun (j : Nat) (a : Unit) => ({ i := ((j : Nat) : Int) } : Vls)) v.i.toNat () := by
    obtain ⟨i⟩ := v
    have hi0 : 0 ≤ i := hi0
    simp only [Int.toNat_of_nonneg hi0]
  have key := T_iterX (ls_step c) (fun (j : Nat) (a : Unit) => ({ i := ((j : Nat) : Int) } : Vls)) (capN c.n) (exitAt (entBad c.f0 c.f1 c.f2 c.f3 c.f4 c.f5 c.f6 c.f7) (ls_g c)) (fun a => (.exit 0, ls_fin c a)) (fun o => (.ret, ls_ost c o)) (fun j a hj Ψ h1 h2 => ?_) (fun a Ψ hΨ => ?_) (fun a => by simp) (fun o => by simp) ((capN c.n) - v.i.toNat) v.i.toNat () (by omega) (fun r => Φ (blkEx 0 r.1, r.2)) (fun b hb => ?_) (fun o ho => ?_)
  · exact (congrArg (fun z => (loopTree (ls_step c) ((capN c.n) - v.i.toNat + 1) z).holds fun r => Φ (blkEx 0 r.1, r.2)) hv).mpr key
  · unfold ls_step
    refine (T.h_ite (fun _ => ?_) (fun hc => absurd hc (by unfold capN at hj; by_cases hq : c.n ≤ 16 <;> simp [hq] at hj ⊢ <;> omega)))
    refine (T.h_need (by have h8 := capN_le c.n; simp <;> omega) (T.h_need (by have h8 := capN_le c.n; simp <;> omega) (T.h_need (decide_eq_true (hk2 j (by have h8 := capN_le c.n; omega))) (T.h_need (needT fun c0 => (needE fun c1 => (by have h8 := capN_le c.n; have h9 : (0 : Int) < (j : Int) := of_decide_eq_true c1; rw [IntWalk.i64_in _ (by simp <;> omega)]; simp <;> omega))) (T.h_need (needT fun c0 => (needE fun c1 => (by have h8 := capN_le c.n; have h9 : (0 : Int) < (j : Int) := of_decide_eq_true c1; rw [IntWalk.i64_in _ (by simp <;> omega)]; simp <;> omega))) (T.h_need (needT fun c0 => (needE fun c1 => (by have h8 := capN_le c.n; simp <;> omega))) (T.h_need (needT fun c0 => (needE fun c1 => (by have h8 := capN_le c.n; simp <;> omega))) (T.h_ite (fun hc => (T.h_leaf (h2 (j, a) (by unfold exitAt; rw [show (entBad c.f0 c.f1 c.f2 c.f3 c.f4 c.f5 c.f6 c.f7) j = true from hc])))) (fun hc => ?_)))))))))
    refine T.h_leaf ?_
    rw [wrap_next (by have h8 := capN_le c.n; omega)]
    exact h1 (ls_g c j a) (by unfold exitAt; rw [show (entBad c.f0 c.f1 c.f2 c.f3 c.f4 c.f5 c.f6 c.f7) j = false from hc])
  · unfold ls_step
    refine (T.h_ite (fun hc => absurd hc (by unfold capN; by_cases hq : c.n ≤ 16 <;> simp [hq] <;> omega)) (fun _ => T.h_leaf hΨ))
  · have hb : ls_it c ((capN c.n) - v.i.toNat) v.i.toNat () = .inl b := hb
    have h4 := h3.1 (by rw [hb]; rfl)
    rw [hb] at h4
    simpa [blkEx, valL] using h4
  · have ho : ls_it c ((capN c.n) - v.i.toNat) v.i.toNat () = .inr o := ho
    have h4 := h3.2 (by rw [ho]; rfl)
    rw [ho] at h4
    simpa [blkEx, valR] using h4

def ls_dec (b : Mem) (f : FSt) : Option (Cls × Vls) :=
  match getSu 0 8 (findF 0 f.sl), getFf (findF 2 f.sl), getI (findF 3 f.sl), id b, f.mem with
  | some (0, n_), some (), some q_i, [some (.cols m_ [.str f0_, .fl .f32 f1_, .fl .f32 f2_, .fl .f32 f3_, .fl .f32 f4_, .fl .f32 f5_, .fl .f32 f6_, .fl .f32 f7_])], [_] => some ({ n := n_, m := m_, f0 := f0_, f1 := f1_, f2 := f2_, f3 := f3_, f4 := f4_, f5 := f5_, f6 := f6_, f7 := f7_ }, { i := q_i })
  | _, _, _, _, _ => none
theorem ls_dec_ok (b : Mem) (f : FSt) (x : Cls × Vls) (h : ls_dec b f = some x) : b = x.1.base ∧ FLe b f (ls_st x.1 x.2) := by
  unfold ls_dec at h
  split at h
  · rename_i e0 e1 e2 hb hm
    cases h
    have hb : b = _ := hb
    subst hb
    refine ⟨rfl, fle_of (fun p hp => ?_) (by rw [hm]; exact trivial)⟩
    simp only [List.mem_cons, List.not_mem_nil, or_false] at hp
    rcases hp with rfl | rfl | rfl
    · exact getSu_rel e0
    · exact getFf_rel e1
    · exact getI_rel e2
  · cases h
noncomputable def ls_sum : SumF Try.prog 41 lsRoot :=
  sumL (pathB lsRoot 0) ls_dec (fun x => x.1.base) (fun x => ls_st x.1 x.2) ls_R ls_dec_ok (by
    intro code hc x
    have hc2 : code = .block 0 (.loop (bodyB lsRoot 0)) := by
      have h : subR lsRoot (pathB lsRoot 0) = some (.block 0 (.loop (bodyB lsRoot 0))) := by kernel_rfl
      rw [h] at hc; cases hc; rfl
    subst hc2
    exact ls_tri x)

def li_g (c : Cli) (j : Nat) (a : Unit) : Unit := a
def li_ok (c : Cli) (v : Vli) : Bool := decide (c.n ≤ c.m ∧ c.n ≤ 1048576 ∧ c.l = (c.n : Int) ∧ c.n2 = c.n ∧ (∀ i, i < c.n → (c.f0 i).size ≤ 1099511627776) ∧ 0 ≤ v.i ∧ v.i ≤ ((c.n : Nat) : Int))
def li_fin (c : Cli) (a : Unit) : FSt := li_st c ({ i := ((c.n : Nat) : Int) })
def li_osv (c : Cli) (v : Vli) : FSt := ⟨[(0, AV.one (SV.su 0 8 0 c.10 false)), (2, AV.one (SV.tt false)), (5, AV.one (SV.su 0 8 0 c.11 false)), (6, AV.one (SV.num IntKind.i64 c.12)), (7, AV.one (SV.num IntKind.i64 v.1))], c.base ++ []⟩
def li_ost (c : Cli) (o : (Nat × (Unit))) : FSt := li_osv c ((fun (j : Nat) (a : Unit) => ({ i := ((j : Nat) : Int) } : Vli)) o.1 o.2)
def li_it (c : Cli) (k s : Nat) (a : Unit) : (Unit) ⊕ (Nat × (Unit)) := iterX (exitAt (entBad c.f0 c.f1 c.f2 c.f3 c.f4 c.f5 c.f6 c.f7) (li_g c)) k s a
noncomputable def li_R (x : Cli × Vli) : T (EX × FSt) := .need (li_ok x.1 x.2) (.ite (isL (li_it x.1 (x.1.n - x.2.i.toNat) x.2.i.toNat ())) (.leaf (.normal, li_fin x.1 (valL () (li_it x.1 (x.1.n - x.2.i.toNat) x.2.i.toNat ())))) (.leaf (.ret, li_ost x.1 (valR (0, ()) (li_it x.1 (x.1.n - x.2.i.toNat) x.2.i.toNat ())))))
theorem li_tri (x : Cli × Vli) : TriR Try.prog 34 x.1.base (.block 0 (.loop (bodyB liRoot 0))) (li_st x.1 x.2) (li_R x) := by
  obtain ⟨c, v⟩ := x
  refine triR_of mix (root := liRoot) (by kernel_rfl) (by kernel_rfl) [0, 2, 3, 4, 5, 6, 7, 8, 29, 198] [0, 2, 5, 6, 7] (li_st c) (li_step c) (li_round c) v _ ((c.n - v.i.toNat) + 1) (fun Φ h => ?_)
  have h0 := h.1
  have h3 : (isL (li_it c (c.n - v.i.toNat) v.i.toNat ()) = true → Φ (.normal, li_fin c (valL () (li_it c (c.n - v.i.toNat) v.i.toNat ())))) ∧ (isL (li_it c (c.n - v.i.toNat) v.i.toNat ()) = false → Φ (.ret, li_ost c (valR (0, ()) (li_it c (c.n - v.i.toNat) v.i.toNat ())))) := h.2
  simp only [li_ok, decide_eq_true_eq] at h0
  obtain ⟨hk0, hk1, hk2, hk3, hk4, hi0, hin⟩ := h0
  have hv : v = (fun (j : Nat) (a : Unit) => ({ i := ((j : Nat) : Int) } : Vli)) v.i.toNat () := by
    obtain ⟨i⟩ := v
    have hi0 : 0 ≤ i := hi0
    simp only [Int.toNat_of_nonneg hi0]
  have key := T_iterX (li_step c) (fun (j : Nat) (a : Unit) => ({ i := ((j : Nat) : Int) } : Vli)) c.n (exitAt (entBad c.f0 c.f1 c.f2 c.f3 c.f4 c.f5 c.f6 c.f7) (li_g c)) (fun a => (.exit 0, li_fin c a)) (fun o => (.ret, li_ost c o)) (fun j a hj Ψ h1 h2 => ?_) (fun a Ψ hΨ => ?_) (fun a => by simp) (fun o => by simp) (c.n - v.i.toNat) v.i.toNat () (by omega) (fun r => Φ (blkEx 0 r.1, r.2)) (fun b hb => ?_) (fun o ho => ?_)
  · exact (congrArg (fun z => (loopTree (li_step c) (c.n - v.i.toNat + 1) z).holds fun r => Φ (blkEx 0 r.1, r.2)) hv).mpr key
  · unfold li_step
    refine (T.h_ite (fun _ => ?_) (fun hc => absurd hc (by simp <;> omega)))
    refine (T.h_need (by simp <;> omega) (T.h_need (by simp <;> omega) (T.h_need (decide_eq_true (hk4 j (by omega))) (T.h_need (needT fun c0 => (needE fun c1 => (by have h9 : (0 : Int) < (j : Int) := of_decide_eq_true c1; rw [IntWalk.i64_in _ (by simp <;> omega)]; simp <;> omega))) (T.h_need (needT fun c0 => (needE fun c1 => (by have h9 : (0 : Int) < (j : Int) := of_decide_eq_true c1; rw [IntWalk.i64_in _ (by simp <;> omega)]; simp <;> omega))) (T.h_ite (fun hc => (T.h_leaf (h2 (j, a) (by unfold exitAt; rw [show (entBad c.f0 c.f1 c.f2 c.f3 c.f4 c.f5 c.f6 c.f7) j = true from hc])))) (fun hc => ?_)))))))
    refine T.h_leaf ?_
    rw [wrap_next (by omega)]
    exact h1 (li_g c j a) (by unfold exitAt; rw [show (entBad c.f0 c.f1 c.f2 c.f3 c.f4 c.f5 c.f6 c.f7) j = false from hc])
  · unfold li_step
    refine (T.h_ite (fun hc => absurd hc (by simp <;> omega)) (fun _ => T.h_leaf hΨ))
  · have hb : li_it c (c.n - v.i.toNat) v.i.toNat () = .inl b := hb
    have h4 := h3.1 (by rw [hb]; rfl)
    rw [hb] at h4
    simpa [blkEx, valL] using h4
  · have ho : li_it c (c.n - v.i.toNat) v.i.toNat () = .inr o := ho
    have h4 := h3.2 (by rw [ho]; rfl)
    rw [ho] at h4
    simpa [blkEx, valR] using h4

def li_dec (b : Mem) (f : FSt) : Option (Cli × Vli) :=
  match getSu 0 8 (findF 0 f.sl), getFf (findF 2 f.sl), getSu 0 8 (findF 5 f.sl), getI (findF 6 f.sl), getI (findF 7 f.sl), id b, f.mem with
  | some (0, n2_), some (), some (0, n_), some l_, some q_i, [some (.cols m_ [.str f0_, .fl .f32 f1_, .fl .f32 f2_, .fl .f32 f3_, .fl .f32 f4_, .fl .f32 f5_, .fl .f32 f6_, .fl .f32 f7_])], [_] => some ({ m := m_, f0 := f0_, f1 := f1_, f2 := f2_, f3 := f3_, f4 := f4_, f5 := f5_, f6 := f6_, f7 := f7_, n2 := n2_, n := n_, l := l_ }, { i := q_i })
  | _, _, _, _, _, _, _ => none
theorem li_dec_ok (b : Mem) (f : FSt) (x : Cli × Vli) (h : li_dec b f = some x) : b = x.1.base ∧ FLe b f (li_st x.1 x.2) := by
  unfold li_dec at h
  split at h
  · rename_i e0 e1 e2 e3 e4 hb hm
    cases h
    have hb : b = _ := hb
    subst hb
    refine ⟨rfl, fle_of (fun p hp => ?_) (by rw [hm]; exact trivial)⟩
    simp only [List.mem_cons, List.not_mem_nil, or_false] at hp
    rcases hp with rfl | rfl | rfl | rfl | rfl
    · exact getSu_rel e0
    · exact getFf_rel e1
    · exact getSu_rel e2
    · exact getI_rel e3
    · exact getI_rel e4
  · cases h
noncomputable def li_sum : SumF Try.prog 34 liRoot :=
  sumL (pathB liRoot 0) li_dec (fun x => x.1.base) (fun x => li_st x.1 x.2) li_R li_dec_ok (by
    intro code hc x
    have hc2 : code = .block 0 (.loop (bodyB liRoot 0)) := by
      have h : subR liRoot (pathB liRoot 0) = some (.block 0 (.loop (bodyB liRoot 0))) := by kernel_rfl
      rw [h] at hc; cases hc; rfl
    subst hc2
    exact li_tri x)

noncomputable def k_sAe0 : Ctr Try.prog := (mkF0 Try.prog mix [k_enE] 45 Try.f45 (bodyOf Try.f45) Try.func45 (by kernel_rfl) (by kernel_rfl) [0, 2, 3, 12, 37, 198] 41 (by kernel_rfl) (by kernel_rfl) [ls_sum]).mg
noncomputable def k_iAe0 : Ctr Try.prog := (mkF0 Try.prog mix [k_iVe] 46 Try.f46 (bodyOf Try.f46) Try.func46 (by kernel_rfl) (by kernel_rfl) [0, 2, 3, 4, 5, 6, 7, 8, 29, 198] 34 (by kernel_rfl) (by kernel_rfl) [li_sum]).mg
def szOK (n : Nat) (f : Nat → ByteArray) : Bool := decide (∀ i, i < n → (f i).size ≤ 1099511627776)
def areE (n : Nat) (f0 : Nat → ByteArray) (f1 f2 f3 f4 f5 f6 f7 : Nat → Nat) : Bool := bif noneIn (entBad f0 f1 f2 f3 f4 f5 f6 f7) n 0 then decide ((n : Int) ≤ 16) else false
theorem areE_cap (n : Nat) (f0 : Nat → ByteArray) (f1 f2 f3 f4 f5 f6 f7 : Nat → Nat) : (bif noneIn (entBad f0 f1 f2 f3 f4 f5 f6 f7) (capN n) 0 then decide ((n : Int) ≤ 16) else false) = areE n f0 f1 f2 f3 f4 f5 f6 f7 := by
  unfold areE capN
  by_cases hn : n ≤ 16
  · rw [if_pos hn]
  · rw [if_neg hn]
    have e : decide ((n : Int) ≤ 16) = false := decide_eq_false (by omega)
    rw [e]
    cases noneIn (entBad f0 f1 f2 f3 f4 f5 f6 f7) n 0 <;> cases noneIn (entBad f0 f1 f2 f3 f4 f5 f6 f7) 0 0 <;> rfl
def run_ae : List AV → Mem → T Res
  | [.one (.su 0 8 0 n false)], [some (.cols m [.str f0, .fl .f32 f1, .fl .f32 f2, .fl .f32 f3, .fl .f32 f4, .fl .f32 f5, .fl .f32 f6, .fl .f32 f7])] => .need (decide (n ≤ m)) (.need (decide (n ≤ 1048576)) (.need (szOK n f0) (.leaf (.one (.bo (areE n f0 f1 f2 f3 f4 f5 f6 f7)), []))))
  | _, _ => .fail
theorem sAe0_ev (n m : Nat) (f0 : Nat → ByteArray) (f1 f2 f3 f4 f5 f6 f7 : Nat → Nat) : k_sAe0.run [.one (.su 0 8 0 n false)] [some (.cols m [.str f0, .fl .f32 f1, .fl .f32 f2, .fl .f32 f3, .fl .f32 f4, .fl .f32 f5, .fl .f32 f6, .fl .f32 f7])] =
    .need (ls_ok { n := n, m := m, f0 := f0, f1 := f1, f2 := f2, f3 := f3, f4 := f4, f5 := f5, f6 := f6, f7 := f7 } { i := 0 }) (.leaf (.one (.bo (bif isL (ls_it { n := n, m := m, f0 := f0, f1 := f1, f2 := f2, f3 := f3, f4 := f4, f5 := f5, f6 := f6, f7 := f7 } (capN n) 0 ()) then decide ((n : Int) ≤ 16) else false)), [])) := by kernel_rfl
noncomputable def k_sAeL : Ctr Try.prog := (k_sAe0.to run_ae (by
  intro args mem _
  unfold run_ae
  split
  · rename_i n m f0 f1 f2 f3 f4 f5 f6 f7 _
    rw [sAe0_ev]
    constructor
    intro Φ hΦ h
    have hm := of_decide_eq_true h.1
    have hn := of_decide_eq_true h.2.1
    have hs : ∀ i, i < n → (f0 i).size ≤ 1099511627776 := of_decide_eq_true h.2.2.1
    have e : isL (ls_it { n := n, m := m, f0 := f0, f1 := f1, f2 := f2, f3 := f3, f4 := f4, f5 := f5, f6 := f6, f7 := f7 } (capN n) 0 ()) = noneIn (entBad f0 f1 f2 f3 f4 f5 f6 f7) (capN n) 0 := (exitAt_iter _ (ls_g { n := n, m := m, f0 := f0, f1 := f1, f2 := f2, f3 := f3, f4 := f4, f5 := f5, f6 := f6, f7 := f7 }) () (capN n) 0 ()).1
    rw [e, areE_cap]
    exact T.h_need (decide_eq_true ⟨hm, hn, hs, Int.le_refl 0, Int.natCast_nonneg _⟩) (T.h_leaf h.2.2.2)
  · exact Weak.fail _)).su.own
theorem iAe0_ev (n m : Nat) (f0 : Nat → ByteArray) (f1 f2 f3 f4 f5 f6 f7 : Nat → Nat) : k_iAe0.run [.one (.su 0 8 0 n false)] [some (.cols m [.str f0, .fl .f32 f1, .fl .f32 f2, .fl .f32 f3, .fl .f32 f4, .fl .f32 f5, .fl .f32 f6, .fl .f32 f7])] =
    .need (li_ok { m := m, f0 := f0, f1 := f1, f2 := f2, f3 := f3, f4 := f4, f5 := f5, f6 := f6, f7 := f7, n2 := n, n := n, l := (n : Int) } { i := 0 }) (.leaf (.one (.bo (bif isL (li_it { m := m, f0 := f0, f1 := f1, f2 := f2, f3 := f3, f4 := f4, f5 := f5, f6 := f6, f7 := f7, n2 := n, n := n, l := (n : Int) } n 0 ()) then decide ((n : Int) ≤ 16) else false)), [])) := by kernel_rfl
noncomputable def k_iAeL : Ctr Try.prog := (k_iAe0.to run_ae (by
  intro args mem _
  unfold run_ae
  split
  · rename_i n m f0 f1 f2 f3 f4 f5 f6 f7 _
    rw [iAe0_ev]
    constructor
    intro Φ hΦ h
    have hm := of_decide_eq_true h.1
    have hn := of_decide_eq_true h.2.1
    have hs : ∀ i, i < n → (f0 i).size ≤ 1099511627776 := of_decide_eq_true h.2.2.1
    have e : isL (li_it { m := m, f0 := f0, f1 := f1, f2 := f2, f3 := f3, f4 := f4, f5 := f5, f6 := f6, f7 := f7, n2 := n, n := n, l := (n : Int) } n 0 ()) = noneIn (entBad f0 f1 f2 f3 f4 f5 f6 f7) n 0 := (exitAt_iter _ (li_g { m := m, f0 := f0, f1 := f1, f2 := f2, f3 := f3, f4 := f4, f5 := f5, f6 := f6, f7 := f7, n2 := n, n := n, l := (n : Int) }) () n 0 ()).1
    rw [e]
    exact T.h_need (decide_eq_true ⟨hm, hn, rfl, rfl, hs, Int.le_refl 0, Int.natCast_nonneg _⟩) (T.h_leaf h.2.2.2)
  · exact Weak.fail _)).su.own
noncomputable def k_iAe : Ctr Try.prog := k_iAeL

end Go.Proofs.Ytdmcpgbnomhahaa
