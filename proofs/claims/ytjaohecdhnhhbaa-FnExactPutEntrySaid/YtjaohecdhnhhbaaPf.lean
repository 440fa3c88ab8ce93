/-
  PutEntry in words, both sides. No conditions.
-/
import Derived.Test.YtjaohecdhnhhbaaPe
namespace Go.Proofs.Ytjaohecdhnhhbaa
set_option linter.unusedVariables false
set_option linter.unusedSimpArgs false
open Go.RowKit

def peZ : PeA := (0, fun _ => ⟨#[]⟩, fun _ => canon .f32 0, fun _ => canon .f32 0, fun _ => canon .f32 0, fun _ => canon .f32 0, fun _ => canon .f32 0, fun _ => canon .f32 0, fun _ => canon .f32 0)
def peP (n : Nat) (f0 : Nat → ByteArray) (f1 f2 f3 f4 f5 f6 f7 : Nat → Nat) (e0 : ByteArray) (e1 e2 e3 e4 e5 e6 e7 : Nat) : PeA := putI (peI f0 f1 f2 f3 f4 f5 f6 f7) (peE e0 e1 e2 e3 e4 e5 e6 e7) (peL f0 e0) (peQ f0 e0) n peZ
theorem iPe0_ev (n m : Nat) (f0 : Nat → ByteArray) (f1 f2 f3 f4 f5 f6 f7 : Nat → Nat) (e0 : ByteArray) (e1 e2 e3 e4 e5 e6 e7 : Nat) : k_iPe0.run [.one (.su 0 8 0 n false), .agg [.str e0, .fl .f32 e1, .fl .f32 e2, .fl .f32 e3, .fl .f32 e4, .fl .f32 e5, .fl .f32 e6, .fl .f32 e7]] [some (.cols m [.str f0, .fl .f32 f1, .fl .f32 f2, .fl .f32 f3, .fl .f32 f4, .fl .f32 f5, .fl .f32 f6, .fl .f32 f7])] = (.need (decide (n ≤ m)) (.need (decide (n ≤ 1048576)) (.need (szOK n f0) (.ite (!areE n f0 f1 f2 f3 f4 f5 f6 f7) (.leaf (.tup [.one (.val (.slice none 0 0)), .one (.tt false)], [])) (.need (decide (e0.size ≤ 1099511627776)) (.ite (!entOK e0 e1 e2 e3 e4 e5 e6 e7) (.leaf (.tup [.one (.val (.slice none 0 0)), .one (.tt false)], [])) (.need (pa_ok { n := n, m := m, f0 := f0, f1 := f1, f2 := f2, f3 := f3, f4 := f4, f5 := f5, f6 := f6, f7 := f7, e0 := e0, e1 := e1, e2 := e2, e3 := e3, e4 := e4, e5 := e5, e6 := e6, e7 := e7, l := (n : Int), n2 := n } { i := 0, n := peZ.1, a0 := peZ.2.1, a1 := peZ.2.2.1, a2 := peZ.2.2.2.1, a3 := peZ.2.2.2.2.1, a4 := peZ.2.2.2.2.2.1, a5 := peZ.2.2.2.2.2.2.1, a6 := peZ.2.2.2.2.2.2.2.1, a7 := peZ.2.2.2.2.2.2.2.2 }) (.need (decide ((iter (gA (peI f0 f1 f2 f3 f4 f5 f6 f7) (peL f0 e0)) n 0 peZ).1 ≤ (iter (gA (peI f0 f1 f2 f3 f4 f5 f6 f7) (peL f0 e0)) n 0 peZ).1)) (.need (true) (.need (decide ((iter (gA (peI f0 f1 f2 f3 f4 f5 f6 f7) (peL f0 e0)) n 0 peZ).1 + 1 ≤ 1073741824)) (.need (pb_ok { n := n, m := m, f0 := f0, f1 := f1, f2 := f2, f3 := f3, f4 := f4, f5 := f5, f6 := f6, f7 := f7, e0 := e0, e1 := e1, e2 := e2, e3 := e3, e4 := e4, e5 := e5, e6 := e6, e7 := e7, l := (n : Int) } { i := 0, n := ((peE e0 e1 e2 e3 e4 e5 e6 e7) (iter (gA (peI f0 f1 f2 f3 f4 f5 f6 f7) (peL f0 e0)) n 0 peZ)).1, r := ((peE e0 e1 e2 e3 e4 e5 e6 e7) (iter (gA (peI f0 f1 f2 f3 f4 f5 f6 f7) (peL f0 e0)) n 0 peZ)).1, a0 := ((peE e0 e1 e2 e3 e4 e5 e6 e7) (iter (gA (peI f0 f1 f2 f3 f4 f5 f6 f7) (peL f0 e0)) n 0 peZ)).2.1, a1 := ((peE e0 e1 e2 e3 e4 e5 e6 e7) (iter (gA (peI f0 f1 f2 f3 f4 f5 f6 f7) (peL f0 e0)) n 0 peZ)).2.2.1, a2 := ((peE e0 e1 e2 e3 e4 e5 e6 e7) (iter (gA (peI f0 f1 f2 f3 f4 f5 f6 f7) (peL f0 e0)) n 0 peZ)).2.2.2.1, a3 := ((peE e0 e1 e2 e3 e4 e5 e6 e7) (iter (gA (peI f0 f1 f2 f3 f4 f5 f6 f7) (peL f0 e0)) n 0 peZ)).2.2.2.2.1, a4 := ((peE e0 e1 e2 e3 e4 e5 e6 e7) (iter (gA (peI f0 f1 f2 f3 f4 f5 f6 f7) (peL f0 e0)) n 0 peZ)).2.2.2.2.2.1, a5 := ((peE e0 e1 e2 e3 e4 e5 e6 e7) (iter (gA (peI f0 f1 f2 f3 f4 f5 f6 f7) (peL f0 e0)) n 0 peZ)).2.2.2.2.2.2.1, a6 := ((peE e0 e1 e2 e3 e4 e5 e6 e7) (iter (gA (peI f0 f1 f2 f3 f4 f5 f6 f7) (peL f0 e0)) n 0 peZ)).2.2.2.2.2.2.2.1, a7 := ((peE e0 e1 e2 e3 e4 e5 e6 e7) (iter (gA (peI f0 f1 f2 f3 f4 f5 f6 f7) (peL f0 e0)) n 0 peZ)).2.2.2.2.2.2.2.2 }) (.ite (decide (16 < (((peP n f0 f1 f2 f3 f4 f5 f6 f7 e0 e1 e2 e3 e4 e5 e6 e7).1 : Nat) : Int))) (.leaf (.tup [.one (.val (.slice none 0 0)), .one (.tt false)], [])) (.leaf (.tup [.one (.so 2 8 (peP n f0 f1 f2 f3 f4 f5 f6 f7 e0 e1 e2 e3 e4 e5 e6 e7).1 3), .one (.tt true)], [some (.box [.str e0, .fl .f32 e1, .fl .f32 e2, .fl .f32 e3, .fl .f32 e4, .fl .f32 e5, .fl .f32 e6, .fl .f32 e7]), some (.grow (peP n f0 f1 f2 f3 f4 f5 f6 f7 e0 e1 e2 e3 e4 e5 e6 e7).1 [.str ((peP n f0 f1 f2 f3 f4 f5 f6 f7 e0 e1 e2 e3 e4 e5 e6 e7).2.1), .fl .f32 ((peP n f0 f1 f2 f3 f4 f5 f6 f7 e0 e1 e2 e3 e4 e5 e6 e7).2.2.1), .fl .f32 ((peP n f0 f1 f2 f3 f4 f5 f6 f7 e0 e1 e2 e3 e4 e5 e6 e7).2.2.2.1), .fl .f32 ((peP n f0 f1 f2 f3 f4 f5 f6 f7 e0 e1 e2 e3 e4 e5 e6 e7).2.2.2.2.1), .fl .f32 ((peP n f0 f1 f2 f3 f4 f5 f6 f7 e0 e1 e2 e3 e4 e5 e6 e7).2.2.2.2.2.1), .fl .f32 ((peP n f0 f1 f2 f3 f4 f5 f6 f7 e0 e1 e2 e3 e4 e5 e6 e7).2.2.2.2.2.2.1), .fl .f32 ((peP n f0 f1 f2 f3 f4 f5 f6 f7 e0 e1 e2 e3 e4 e5 e6 e7).2.2.2.2.2.2.2.1), .fl .f32 ((peP n f0 f1 f2 f3 f4 f5 f6 f7 e0 e1 e2 e3 e4 e5 e6 e7).2.2.2.2.2.2.2.2)] 3 49), none])))))))))))))) := by kernel_rfl
theorem sPe0_ev (n m : Nat) (f0 : Nat → ByteArray) (f1 f2 f3 f4 f5 f6 f7 : Nat → Nat) (e0 : ByteArray) (e1 e2 e3 e4 e5 e6 e7 : Nat) : k_sPe0.run [.one (.su 0 8 0 n false), .agg [.str e0, .fl .f32 e1, .fl .f32 e2, .fl .f32 e3, .fl .f32 e4, .fl .f32 e5, .fl .f32 e6, .fl .f32 e7]] [some (.cols m [.str f0, .fl .f32 f1, .fl .f32 f2, .fl .f32 f3, .fl .f32 f4, .fl .f32 f5, .fl .f32 f6, .fl .f32 f7])] = (.need (decide (n ≤ m)) (.need (decide (n ≤ 1048576)) (.need (szOK n f0) (.ite (!areE n f0 f1 f2 f3 f4 f5 f6 f7) (.leaf (.tup [.one (.val (.slice none 0 0)), .one (.tt false)], [])) (.need (decide (e0.size ≤ 1099511627776)) (.ite (!entOK e0 e1 e2 e3 e4 e5 e6 e7) (.leaf (.tup [.one (.val (.slice none 0 0)), .one (.tt false)], [])) (.need (ps_ok { n := n, m := m, f0 := f0, f1 := f1, f2 := f2, f3 := f3, f4 := f4, f5 := f5, f6 := f6, f7 := f7, e0 := e0, e1 := e1, e2 := e2, e3 := e3, e4 := e4, e5 := e5, e6 := e6, e7 := e7, l := (n : Int) } { i := 0, n := peZ.1, put := false, a0 := peZ.2.1, a1 := peZ.2.2.1, a2 := peZ.2.2.2.1, a3 := peZ.2.2.2.2.1, a4 := peZ.2.2.2.2.2.1, a5 := peZ.2.2.2.2.2.2.1, a6 := peZ.2.2.2.2.2.2.2.1, a7 := peZ.2.2.2.2.2.2.2.2 }) (.ite (!(iter (gS (peI f0 f1 f2 f3 f4 f5 f6 f7) (peE e0 e1 e2 e3 e4 e5 e6 e7) (peL f0 e0) (peQ f0 e0)) n 0 (peZ, false)).2) (.need (decide ((iter (gS (peI f0 f1 f2 f3 f4 f5 f6 f7) (peE e0 e1 e2 e3 e4 e5 e6 e7) (peL f0 e0) (peQ f0 e0)) n 0 (peZ, false)).1.1 ≤ (iter (gS (peI f0 f1 f2 f3 f4 f5 f6 f7) (peE e0 e1 e2 e3 e4 e5 e6 e7) (peL f0 e0) (peQ f0 e0)) n 0 (peZ, false)).1.1)) (.need (true) (.need (decide ((iter (gS (peI f0 f1 f2 f3 f4 f5 f6 f7) (peE e0 e1 e2 e3 e4 e5 e6 e7) (peL f0 e0) (peQ f0 e0)) n 0 (peZ, false)).1.1 + 1 ≤ 1073741824)) (.need (decide (((peE e0 e1 e2 e3 e4 e5 e6 e7) (iter (gS (peI f0 f1 f2 f3 f4 f5 f6 f7) (peE e0 e1 e2 e3 e4 e5 e6 e7) (peL f0 e0) (peQ f0 e0)) n 0 (peZ, false)).1).1 ≤ ((peE e0 e1 e2 e3 e4 e5 e6 e7) (iter (gS (peI f0 f1 f2 f3 f4 f5 f6 f7) (peE e0 e1 e2 e3 e4 e5 e6 e7) (peL f0 e0) (peQ f0 e0)) n 0 (peZ, false)).1).1)) (.need (decide (((peE e0 e1 e2 e3 e4 e5 e6 e7) (iter (gS (peI f0 f1 f2 f3 f4 f5 f6 f7) (peE e0 e1 e2 e3 e4 e5 e6 e7) (peL f0 e0) (peQ f0 e0)) n 0 (peZ, false)).1).1 ≤ 1048576)) (.need (szOK ((peE e0 e1 e2 e3 e4 e5 e6 e7) (iter (gS (peI f0 f1 f2 f3 f4 f5 f6 f7) (peE e0 e1 e2 e3 e4 e5 e6 e7) (peL f0 e0) (peQ f0 e0)) n 0 (peZ, false)).1).1 ((peE e0 e1 e2 e3 e4 e5 e6 e7) (iter (gS (peI f0 f1 f2 f3 f4 f5 f6 f7) (peE e0 e1 e2 e3 e4 e5 e6 e7) (peL f0 e0) (peQ f0 e0)) n 0 (peZ, false)).1).2.1) (.ite (!areE ((peE e0 e1 e2 e3 e4 e5 e6 e7) (iter (gS (peI f0 f1 f2 f3 f4 f5 f6 f7) (peE e0 e1 e2 e3 e4 e5 e6 e7) (peL f0 e0) (peQ f0 e0)) n 0 (peZ, false)).1).1 (((peE e0 e1 e2 e3 e4 e5 e6 e7) (iter (gS (peI f0 f1 f2 f3 f4 f5 f6 f7) (peE e0 e1 e2 e3 e4 e5 e6 e7) (peL f0 e0) (peQ f0 e0)) n 0 (peZ, false)).1).2.1) (((peE e0 e1 e2 e3 e4 e5 e6 e7) (iter (gS (peI f0 f1 f2 f3 f4 f5 f6 f7) (peE e0 e1 e2 e3 e4 e5 e6 e7) (peL f0 e0) (peQ f0 e0)) n 0 (peZ, false)).1).2.2.1) (((peE e0 e1 e2 e3 e4 e5 e6 e7) (iter (gS (peI f0 f1 f2 f3 f4 f5 f6 f7) (peE e0 e1 e2 e3 e4 e5 e6 e7) (peL f0 e0) (peQ f0 e0)) n 0 (peZ, false)).1).2.2.2.1) (((peE e0 e1 e2 e3 e4 e5 e6 e7) (iter (gS (peI f0 f1 f2 f3 f4 f5 f6 f7) (peE e0 e1 e2 e3 e4 e5 e6 e7) (peL f0 e0) (peQ f0 e0)) n 0 (peZ, false)).1).2.2.2.2.1) (((peE e0 e1 e2 e3 e4 e5 e6 e7) (iter (gS (peI f0 f1 f2 f3 f4 f5 f6 f7) (peE e0 e1 e2 e3 e4 e5 e6 e7) (peL f0 e0) (peQ f0 e0)) n 0 (peZ, false)).1).2.2.2.2.2.1) (((peE e0 e1 e2 e3 e4 e5 e6 e7) (iter (gS (peI f0 f1 f2 f3 f4 f5 f6 f7) (peE e0 e1 e2 e3 e4 e5 e6 e7) (peL f0 e0) (peQ f0 e0)) n 0 (peZ, false)).1).2.2.2.2.2.2.1) (((peE e0 e1 e2 e3 e4 e5 e6 e7) (iter (gS (peI f0 f1 f2 f3 f4 f5 f6 f7) (peE e0 e1 e2 e3 e4 e5 e6 e7) (peL f0 e0) (peQ f0 e0)) n 0 (peZ, false)).1).2.2.2.2.2.2.2.1) (((peE e0 e1 e2 e3 e4 e5 e6 e7) (iter (gS (peI f0 f1 f2 f3 f4 f5 f6 f7) (peE e0 e1 e2 e3 e4 e5 e6 e7) (peL f0 e0) (peQ f0 e0)) n 0 (peZ, false)).1).2.2.2.2.2.2.2.2)) (.leaf (.tup [.one (.val (.slice none 0 0)), .one (.tt false)], [])) (.leaf (.tup [.one (.so 2 8 ((peE e0 e1 e2 e3 e4 e5 e6 e7) (iter (gS (peI f0 f1 f2 f3 f4 f5 f6 f7) (peE e0 e1 e2 e3 e4 e5 e6 e7) (peL f0 e0) (peQ f0 e0)) n 0 (peZ, false)).1).1 3), .one (.tt true)], [some (.box [.str e0, .fl .f32 e1, .fl .f32 e2, .fl .f32 e3, .fl .f32 e4, .fl .f32 e5, .fl .f32 e6, .fl .f32 e7]), some (.grow ((peE e0 e1 e2 e3 e4 e5 e6 e7) (iter (gS (peI f0 f1 f2 f3 f4 f5 f6 f7) (peE e0 e1 e2 e3 e4 e5 e6 e7) (peL f0 e0) (peQ f0 e0)) n 0 (peZ, false)).1).1 [.str (((peE e0 e1 e2 e3 e4 e5 e6 e7) (iter (gS (peI f0 f1 f2 f3 f4 f5 f6 f7) (peE e0 e1 e2 e3 e4 e5 e6 e7) (peL f0 e0) (peQ f0 e0)) n 0 (peZ, false)).1).2.1), .fl .f32 (((peE e0 e1 e2 e3 e4 e5 e6 e7) (iter (gS (peI f0 f1 f2 f3 f4 f5 f6 f7) (peE e0 e1 e2 e3 e4 e5 e6 e7) (peL f0 e0) (peQ f0 e0)) n 0 (peZ, false)).1).2.2.1), .fl .f32 (((peE e0 e1 e2 e3 e4 e5 e6 e7) (iter (gS (peI f0 f1 f2 f3 f4 f5 f6 f7) (peE e0 e1 e2 e3 e4 e5 e6 e7) (peL f0 e0) (peQ f0 e0)) n 0 (peZ, false)).1).2.2.2.1), .fl .f32 (((peE e0 e1 e2 e3 e4 e5 e6 e7) (iter (gS (peI f0 f1 f2 f3 f4 f5 f6 f7) (peE e0 e1 e2 e3 e4 e5 e6 e7) (peL f0 e0) (peQ f0 e0)) n 0 (peZ, false)).1).2.2.2.2.1), .fl .f32 (((peE e0 e1 e2 e3 e4 e5 e6 e7) (iter (gS (peI f0 f1 f2 f3 f4 f5 f6 f7) (peE e0 e1 e2 e3 e4 e5 e6 e7) (peL f0 e0) (peQ f0 e0)) n 0 (peZ, false)).1).2.2.2.2.2.1), .fl .f32 (((peE e0 e1 e2 e3 e4 e5 e6 e7) (iter (gS (peI f0 f1 f2 f3 f4 f5 f6 f7) (peE e0 e1 e2 e3 e4 e5 e6 e7) (peL f0 e0) (peQ f0 e0)) n 0 (peZ, false)).1).2.2.2.2.2.2.1), .fl .f32 (((peE e0 e1 e2 e3 e4 e5 e6 e7) (iter (gS (peI f0 f1 f2 f3 f4 f5 f6 f7) (peE e0 e1 e2 e3 e4 e5 e6 e7) (peL f0 e0) (peQ f0 e0)) n 0 (peZ, false)).1).2.2.2.2.2.2.2.1), .fl .f32 (((peE e0 e1 e2 e3 e4 e5 e6 e7) (iter (gS (peI f0 f1 f2 f3 f4 f5 f6 f7) (peE e0 e1 e2 e3 e4 e5 e6 e7) (peL f0 e0) (peQ f0 e0)) n 0 (peZ, false)).1).2.2.2.2.2.2.2.2)] 3 49), none, none]))))))))) (.need (decide ((iter (gS (peI f0 f1 f2 f3 f4 f5 f6 f7) (peE e0 e1 e2 e3 e4 e5 e6 e7) (peL f0 e0) (peQ f0 e0)) n 0 (peZ, false)).1.1 ≤ (iter (gS (peI f0 f1 f2 f3 f4 f5 f6 f7) (peE e0 e1 e2 e3 e4 e5 e6 e7) (peL f0 e0) (peQ f0 e0)) n 0 (peZ, false)).1.1)) (.need (decide ((iter (gS (peI f0 f1 f2 f3 f4 f5 f6 f7) (peE e0 e1 e2 e3 e4 e5 e6 e7) (peL f0 e0) (peQ f0 e0)) n 0 (peZ, false)).1.1 ≤ 1048576)) (.need (szOK (iter (gS (peI f0 f1 f2 f3 f4 f5 f6 f7) (peE e0 e1 e2 e3 e4 e5 e6 e7) (peL f0 e0) (peQ f0 e0)) n 0 (peZ, false)).1.1 (iter (gS (peI f0 f1 f2 f3 f4 f5 f6 f7) (peE e0 e1 e2 e3 e4 e5 e6 e7) (peL f0 e0) (peQ f0 e0)) n 0 (peZ, false)).1.2.1) (.ite (!areE (iter (gS (peI f0 f1 f2 f3 f4 f5 f6 f7) (peE e0 e1 e2 e3 e4 e5 e6 e7) (peL f0 e0) (peQ f0 e0)) n 0 (peZ, false)).1.1 ((iter (gS (peI f0 f1 f2 f3 f4 f5 f6 f7) (peE e0 e1 e2 e3 e4 e5 e6 e7) (peL f0 e0) (peQ f0 e0)) n 0 (peZ, false)).1.2.1) ((iter (gS (peI f0 f1 f2 f3 f4 f5 f6 f7) (peE e0 e1 e2 e3 e4 e5 e6 e7) (peL f0 e0) (peQ f0 e0)) n 0 (peZ, false)).1.2.2.1) ((iter (gS (peI f0 f1 f2 f3 f4 f5 f6 f7) (peE e0 e1 e2 e3 e4 e5 e6 e7) (peL f0 e0) (peQ f0 e0)) n 0 (peZ, false)).1.2.2.2.1) ((iter (gS (peI f0 f1 f2 f3 f4 f5 f6 f7) (peE e0 e1 e2 e3 e4 e5 e6 e7) (peL f0 e0) (peQ f0 e0)) n 0 (peZ, false)).1.2.2.2.2.1) ((iter (gS (peI f0 f1 f2 f3 f4 f5 f6 f7) (peE e0 e1 e2 e3 e4 e5 e6 e7) (peL f0 e0) (peQ f0 e0)) n 0 (peZ, false)).1.2.2.2.2.2.1) ((iter (gS (peI f0 f1 f2 f3 f4 f5 f6 f7) (peE e0 e1 e2 e3 e4 e5 e6 e7) (peL f0 e0) (peQ f0 e0)) n 0 (peZ, false)).1.2.2.2.2.2.2.1) ((iter (gS (peI f0 f1 f2 f3 f4 f5 f6 f7) (peE e0 e1 e2 e3 e4 e5 e6 e7) (peL f0 e0) (peQ f0 e0)) n 0 (peZ, false)).1.2.2.2.2.2.2.2.1) ((iter (gS (peI f0 f1 f2 f3 f4 f5 f6 f7) (peE e0 e1 e2 e3 e4 e5 e6 e7) (peL f0 e0) (peQ f0 e0)) n 0 (peZ, false)).1.2.2.2.2.2.2.2.2)) (.leaf (.tup [.one (.val (.slice none 0 0)), .one (.tt false)], [])) (.leaf (.tup [.one (.so 2 8 (iter (gS (peI f0 f1 f2 f3 f4 f5 f6 f7) (peE e0 e1 e2 e3 e4 e5 e6 e7) (peL f0 e0) (peQ f0 e0)) n 0 (peZ, false)).1.1 3), .one (.tt true)], [some (.box [.str e0, .fl .f32 e1, .fl .f32 e2, .fl .f32 e3, .fl .f32 e4, .fl .f32 e5, .fl .f32 e6, .fl .f32 e7]), some (.grow (iter (gS (peI f0 f1 f2 f3 f4 f5 f6 f7) (peE e0 e1 e2 e3 e4 e5 e6 e7) (peL f0 e0) (peQ f0 e0)) n 0 (peZ, false)).1.1 [.str ((iter (gS (peI f0 f1 f2 f3 f4 f5 f6 f7) (peE e0 e1 e2 e3 e4 e5 e6 e7) (peL f0 e0) (peQ f0 e0)) n 0 (peZ, false)).1.2.1), .fl .f32 ((iter (gS (peI f0 f1 f2 f3 f4 f5 f6 f7) (peE e0 e1 e2 e3 e4 e5 e6 e7) (peL f0 e0) (peQ f0 e0)) n 0 (peZ, false)).1.2.2.1), .fl .f32 ((iter (gS (peI f0 f1 f2 f3 f4 f5 f6 f7) (peE e0 e1 e2 e3 e4 e5 e6 e7) (peL f0 e0) (peQ f0 e0)) n 0 (peZ, false)).1.2.2.2.1), .fl .f32 ((iter (gS (peI f0 f1 f2 f3 f4 f5 f6 f7) (peE e0 e1 e2 e3 e4 e5 e6 e7) (peL f0 e0) (peQ f0 e0)) n 0 (peZ, false)).1.2.2.2.2.1), .fl .f32 ((iter (gS (peI f0 f1 f2 f3 f4 f5 f6 f7) (peE e0 e1 e2 e3 e4 e5 e6 e7) (peL f0 e0) (peQ f0 e0)) n 0 (peZ, false)).1.2.2.2.2.2.1), .fl .f32 ((iter (gS (peI f0 f1 f2 f3 f4 f5 f6 f7) (peE e0 e1 e2 e3 e4 e5 e6 e7) (peL f0 e0) (peQ f0 e0)) n 0 (peZ, false)).1.2.2.2.2.2.2.1), .fl .f32 ((iter (gS (peI f0 f1 f2 f3 f4 f5 f6 f7) (peE e0 e1 e2 e3 e4 e5 e6 e7) (peL f0 e0) (peQ f0 e0)) n 0 (peZ, false)).1.2.2.2.2.2.2.2.1), .fl .f32 ((iter (gS (peI f0 f1 f2 f3 f4 f5 f6 f7) (peE e0 e1 e2 e3 e4 e5 e6 e7) (peL f0 e0) (peQ f0 e0)) n 0 (peZ, false)).1.2.2.2.2.2.2.2.2)] 3 49), none])))))))))))))) := by kernel_rfl
/-! ### What stands in the rows -/
theorem noneIn_out {b : Nat → Bool} : ∀ {c s : Nat}, noneIn b c s = true → ∀ j, s ≤ j → j < s + c → b j = false
  | 0, s, _, j, h1, h2 => by omega
  | c + 1, s, h, j, h1, h2 => by
    have h : (!b s && noneIn b c (s + 1)) = true := h
    rw [Bool.and_eq_true] at h
    rcases (by omega : j = s ∨ s + 1 ≤ j) with e | e
    · subst e; exact bnot_t h.1
    · exact noneIn_out h.2 j e (by omega)
theorem noneIn_mk {b : Nat → Bool} : ∀ {c s : Nat}, (∀ j, s ≤ j → j < s + c → b j = false) → noneIn b c s = true
  | 0, _, _ => rfl
  | c + 1, s, h => by
    show (!b s && noneIn b c (s + 1)) = true
    rw [h s (Nat.le_refl s) (by omega), noneIn_mk fun j h1 h2 => h j (by omega) (by omega)]; rfl
theorem iter_len {g : Nat → PeA → PeA} (h : ∀ j a, (g j a).1 ≤ a.1 + 1) : ∀ (c s : Nat) (a : PeA), (iter g c s a).1 ≤ a.1 + c
  | 0, _, _ => Nat.le_refl _
  | c + 1, s, a => by
    show (iter g c (s + 1) (g s a)).1 ≤ _
    have := iter_len h c (s + 1) (g s a)
    have := h s a
    omega
theorem gA_len (f0 : Nat → ByteArray) (f1 f2 f3 f4 f5 f6 f7 : Nat → Nat) (e0 : ByteArray) (j : Nat) (a : PeA) : (gA (peI f0 f1 f2 f3 f4 f5 f6 f7) (peL f0 e0) j a).1 ≤ a.1 + 1 := by
  unfold gA
  cases (peL f0 e0) j with
  | true => exact Nat.le_refl _
  | false => show a.1 ≤ _; omega
theorem gB_len (f0 : Nat → ByteArray) (f1 f2 f3 f4 f5 f6 f7 : Nat → Nat) (e0 : ByteArray) (j : Nat) (a : PeA) : (gB (peI f0 f1 f2 f3 f4 f5 f6 f7) (peL f0 e0) (peQ f0 e0) j a).1 ≤ a.1 + 1 := by
  unfold gB
  cases (!((peL f0 e0) j || (peQ f0 e0) j)) with
  | true => exact Nat.le_refl _
  | false => show a.1 ≤ _; omega
theorem peP_len (n : Nat) (f0 : Nat → ByteArray) (f1 f2 f3 f4 f5 f6 f7 : Nat → Nat) (e0 : ByteArray) (e1 e2 e3 e4 e5 e6 e7 : Nat) : (peP n f0 f1 f2 f3 f4 f5 f6 f7 e0 e1 e2 e3 e4 e5 e6 e7).1 ≤ 2 * n + 1 := by
  have h1 := iter_len (gA_len f0 f1 f2 f3 f4 f5 f6 f7 e0) n 0 peZ
  have h2 := iter_len (gB_len f0 f1 f2 f3 f4 f5 f6 f7 e0) n 0 ((peE e0 e1 e2 e3 e4 e5 e6 e7) (iter (gA (peI f0 f1 f2 f3 f4 f5 f6 f7) (peL f0 e0)) n 0 peZ))
  have u1 : ((peE e0 e1 e2 e3 e4 e5 e6 e7) (iter (gA (peI f0 f1 f2 f3 f4 f5 f6 f7) (peL f0 e0)) n 0 peZ)).1 = (iter (gA (peI f0 f1 f2 f3 f4 f5 f6 f7) (peL f0 e0)) n 0 peZ).1 + 1 := rfl
  have u2 : peZ.1 = 0 := rfl
  have u3 : (peP n f0 f1 f2 f3 f4 f5 f6 f7 e0 e1 e2 e3 e4 e5 e6 e7).1 = (iter (gB (peI f0 f1 f2 f3 f4 f5 f6 f7) (peL f0 e0) (peQ f0 e0)) n 0 ((peE e0 e1 e2 e3 e4 e5 e6 e7) (iter (gA (peI f0 f1 f2 f3 f4 f5 f6 f7) (peL f0 e0)) n 0 peZ))).1 := rfl
  omega
def peRow (a : PeA) (q : Nat) : ByteArray × Nat × Nat × Nat × Nat × Nat × Nat × Nat := (a.2.1 q, a.2.2.1 q, a.2.2.2.1 q, a.2.2.2.2.1 q, a.2.2.2.2.2.1 q, a.2.2.2.2.2.2.1 q, a.2.2.2.2.2.2.2.1 q, a.2.2.2.2.2.2.2.2 q)
def peLst (f0 : Nat → ByteArray) (f1 f2 f3 f4 f5 f6 f7 : Nat → Nat) (j : Nat) : ByteArray × Nat × Nat × Nat × Nat × Nat × Nat × Nat := (f0 (j + 0), f1 (j + 0), f2 (j + 0), f3 (j + 0), f4 (j + 0), f5 (j + 0), f6 (j + 0), f7 (j + 0))
def rowLt (x y : ByteArray × Nat × Nat × Nat × Nat × Nat × Nat × Nat) : Prop := Op.bytesLess x.1.toList y.1.toList = true
def rowOk (x : ByteArray × Nat × Nat × Nat × Nat × Nat × Nat × Nat) : Prop := entOK (x.1) (x.2.1) (x.2.2.1) (x.2.2.2.1) (x.2.2.2.2.1) (x.2.2.2.2.2.1) (x.2.2.2.2.2.2.1) (x.2.2.2.2.2.2.2) = true ∧ x.1.size ≤ 1099511627776
theorem rI_ok (f0 : Nat → ByteArray) (f1 f2 f3 f4 f5 f6 f7 : Nat → Nat) (j : Nat) (a : PeA) (q : Nat) : peRow (peI f0 f1 f2 f3 f4 f5 f6 f7 j a) q = if q = a.1 then peLst f0 f1 f2 f3 f4 f5 f6 f7 j else peRow a q := by
  unfold peRow peI peLst
  by_cases h : q = a.1 <;> simp [h]
theorem rE_ok (e0 : ByteArray) (e1 e2 e3 e4 e5 e6 e7 : Nat) (a : PeA) (q : Nat) : peRow (peE e0 e1 e2 e3 e4 e5 e6 e7 a) q = if q = a.1 then (e0, e1, e2, e3, e4, e5, e6, e7) else peRow a q := by
  unfold peRow peE
  by_cases h : q = a.1 <;> simp [h]
theorem ent_parts {n : Nat} {f0 : Nat → ByteArray} {f1 f2 f3 f4 f5 f6 f7 : Nat → Nat} (h : areE n f0 f1 f2 f3 f4 f5 f6 f7 = true) : n ≤ 16 ∧ (∀ j, j < n → entOK (f0 j) (f1 j) (f2 j) (f3 j) (f4 j) (f5 j) (f6 j) (f7 j) = true) ∧ ∀ i j, i < j → j < n → Op.bytesLess (f0 i).toList (f0 j).toList = true := by
  unfold areE at h
  cases hN : noneIn (entBad f0 f1 f2 f3 f4 f5 f6 f7) n 0 with
  | false => rw [hN] at h; cases h
  | true =>
    rw [hN, cond_true] at h
    have h16 : n ≤ 16 := by have := of_decide_eq_true h; omega
    have hb := noneIn_out hN
    have hok : ∀ j, j < n → entOK (f0 j) (f1 j) (f2 j) (f3 j) (f4 j) (f5 j) (f6 j) (f7 j) = true := fun j hj => by
      have := hb j (Nat.zero_le j) (by omega)
      unfold entBad at this
      cases hk : entOK (f0 j) (f1 j) (f2 j) (f3 j) (f4 j) (f5 j) (f6 j) (f7 j) with
      | true => rfl
      | false => rw [hk] at this; cases this
    refine ⟨h16, hok, fun i j => ?_⟩
    induction j with
    | zero => intro h _; omega
    | succ j ih =>
      intro hij hj
      have hs : Op.bytesLess (f0 j).toList (f0 (j + 1)).toList = true := by
        have := hb (j + 1) (Nat.zero_le _) (by omega)
        unfold entBad at this
        rw [hok (j + 1) hj, Bool.not_true, cond_false, decide_eq_true (show (0 : Int) < ((j + 1 : Nat) : Int) by omega), cond_true, show (IntKind.i64.wrap (((j + 1 : Nat) : Int) - 1)).toNat + 0 = j by rw [IntWalk.i64_in _ (by omega)]; omega] at this
        exact bnot_f this
      rcases (by omega : i = j ∨ i < j) with e | e
      · rw [e]; exact hs
      · exact bl_trans (ih e (by omega)) hs
theorem ent_make {n : Nat} {f0 : Nat → ByteArray} {f1 f2 f3 f4 f5 f6 f7 : Nat → Nat} (hn : n ≤ 1048576) (h1 : ∀ j, j < n → entOK (f0 j) (f1 j) (f2 j) (f3 j) (f4 j) (f5 j) (f6 j) (f7 j) = true) (h2 : ∀ j, j + 1 < n → Op.bytesLess (f0 j).toList (f0 (j + 1)).toList = true) : areE n f0 f1 f2 f3 f4 f5 f6 f7 = decide ((n : Int) ≤ 16) := by
  unfold areE
  rw [noneIn_mk, cond_true]
  intro j _ hj
  unfold entBad
  rw [h1 j (by omega), Bool.not_true, cond_false]
  cases j with
  | zero => rfl
  | succ j =>
    rw [decide_eq_true (show (0 : Int) < ((j + 1 : Nat) : Int) by omega), cond_true, show (IntKind.i64.wrap (((j + 1 : Nat) : Int) - 1)).toNat + 0 = j by rw [IntWalk.i64_in _ (by omega)]; omega, h2 j (by omega)]; rfl
theorem pe_facts {n : Nat} {f0 : Nat → ByteArray} {f1 f2 f3 f4 f5 f6 f7 : Nat → Nat} {e0 : ByteArray} {e1 e2 e3 e4 e5 e6 e7 : Nat} (h : areE n f0 f1 f2 f3 f4 f5 f6 f7 = true) (he : entOK e0 e1 e2 e3 e4 e5 e6 e7 = true) (hz : ∀ i, i < n → (f0 i).size ≤ 1099511627776) (hze : e0.size ≤ 1099511627776) :
    putS (peI f0 f1 f2 f3 f4 f5 f6 f7) (peE e0 e1 e2 e3 e4 e5 e6 e7) (peL f0 e0) (peQ f0 e0) n peZ = (peP n f0 f1 f2 f3 f4 f5 f6 f7 e0 e1 e2 e3 e4 e5 e6 e7) ∧ szOK (peP n f0 f1 f2 f3 f4 f5 f6 f7 e0 e1 e2 e3 e4 e5 e6 e7).1 (peP n f0 f1 f2 f3 f4 f5 f6 f7 e0 e1 e2 e3 e4 e5 e6 e7).2.1 = true ∧ areE (peP n f0 f1 f2 f3 f4 f5 f6 f7 e0 e1 e2 e3 e4 e5 e6 e7).1 ((peP n f0 f1 f2 f3 f4 f5 f6 f7 e0 e1 e2 e3 e4 e5 e6 e7).2.1) ((peP n f0 f1 f2 f3 f4 f5 f6 f7 e0 e1 e2 e3 e4 e5 e6 e7).2.2.1) ((peP n f0 f1 f2 f3 f4 f5 f6 f7 e0 e1 e2 e3 e4 e5 e6 e7).2.2.2.1) ((peP n f0 f1 f2 f3 f4 f5 f6 f7 e0 e1 e2 e3 e4 e5 e6 e7).2.2.2.2.1) ((peP n f0 f1 f2 f3 f4 f5 f6 f7 e0 e1 e2 e3 e4 e5 e6 e7).2.2.2.2.2.1) ((peP n f0 f1 f2 f3 f4 f5 f6 f7 e0 e1 e2 e3 e4 e5 e6 e7).2.2.2.2.2.2.1) ((peP n f0 f1 f2 f3 f4 f5 f6 f7 e0 e1 e2 e3 e4 e5 e6 e7).2.2.2.2.2.2.2.1) ((peP n f0 f1 f2 f3 f4 f5 f6 f7 e0 e1 e2 e3 e4 e5 e6 e7).2.2.2.2.2.2.2.2) = decide (((peP n f0 f1 f2 f3 f4 f5 f6 f7 e0 e1 e2 e3 e4 e5 e6 e7).1 : Int) ≤ 16) := by
  obtain ⟨h16, hok, hso⟩ := ent_parts h
  have tr : ∀ x y w : ByteArray × Nat × Nat × Nat × Nat × Nat × Nat × Nat, rowLt x y → rowLt y w → rowLt x w := fun x y w a b => bl_trans a b
  have hin : InRow (fun a : PeA => a.1) peRow rowOk rowLt (peP n f0 f1 f2 f3 f4 f5 f6 f7 e0 e1 e2 e3 e4 e5 e6 e7) :=
    putI_in (peI f0 f1 f2 f3 f4 f5 f6 f7) (peE e0 e1 e2 e3 e4 e5 e6 e7) (peL f0 e0) (peQ f0 e0) (fun a : PeA => a.1) peRow (peLst f0 f1 f2 f3 f4 f5 f6 f7) (e0, e1, e2, e3, e4, e5, e6, e7) rowOk rowLt n peZ rfl (fun j a => rfl) (rI_ok f0 f1 f2 f3 f4 f5 f6 f7) (fun a => rfl) (rE_ok e0 e1 e2 e3 e4 e5 e6 e7) tr
      (fun i hi => ⟨hok i hi, hz i hi⟩) ⟨he, hze⟩ (fun i j hij hj => hso i j hij hj) (fun i hi hl => hl)
      (fun i hi hg => by
        rw [Bool.or_eq_false_iff] at hg
        exact bl_tot hg.1 hg.2)
  have hlen : (peP n f0 f1 f2 f3 f4 f5 f6 f7 e0 e1 e2 e3 e4 e5 e6 e7).1 ≤ 1048576 := by have := peP_len n f0 f1 f2 f3 f4 f5 f6 f7 e0 e1 e2 e3 e4 e5 e6 e7; omega
  refine ⟨put_same _ _ _ _ n peZ (fun i j hij hj hl => bl_trans (hso i j hij hj) hl) (fun i hi hl => ?_), decide_eq_true fun i hi => (hin.ok i hi).2, ent_make hlen (fun j hj => (hin.ok j hj).1) (fun j hj => hin.lt j hj)⟩
  cases hq : peQ f0 e0 i with
  | false => rfl
  | true =>
    have e : (f0 (i + 0)).toList = e0.toList := by simpa [peQ] using hq
    have hl : Op.bytesLess (f0 (i + 0)).toList e0.toList = true := hl
    rw [e, bl_irr] at hl
    cases hl
/-! ### In words -/
def peT (n : Nat) (f0 : Nat → ByteArray) (f1 f2 f3 f4 f5 f6 f7 : Nat → Nat) (e0 : ByteArray) (e1 e2 e3 e4 e5 e6 e7 : Nat) : Bool := areE n f0 f1 f2 f3 f4 f5 f6 f7 && (entOK e0 e1 e2 e3 e4 e5 e6 e7 && decide (((peP n f0 f1 f2 f3 f4 f5 f6 f7 e0 e1 e2 e3 e4 e5 e6 e7).1 : Int) ≤ 16))
def run_Pe : List AV → Mem → T Res
  | [.one (.su 0 8 0 n false), .agg [.str e0, .fl .f32 e1, .fl .f32 e2, .fl .f32 e3, .fl .f32 e4, .fl .f32 e5, .fl .f32 e6, .fl .f32 e7]], [some (.cols m [.str f0, .fl .f32 f1, .fl .f32 f2, .fl .f32 f3, .fl .f32 f4, .fl .f32 f5, .fl .f32 f6, .fl .f32 f7])] => .need (decide (n ≤ m)) (.need (decide (n ≤ 1048576)) (.need (szOK n f0) (.need (decide (e0.size ≤ 1099511627776)) (.ite (peT n f0 f1 f2 f3 f4 f5 f6 f7 e0 e1 e2 e3 e4 e5 e6 e7) (.leaf (.tup [.one (.su 2 8 0 (peP n f0 f1 f2 f3 f4 f5 f6 f7 e0 e1 e2 e3 e4 e5 e6 e7).1 false), .one (.tt true)], [none, some (.cols (peP n f0 f1 f2 f3 f4 f5 f6 f7 e0 e1 e2 e3 e4 e5 e6 e7).1 [.str ((peP n f0 f1 f2 f3 f4 f5 f6 f7 e0 e1 e2 e3 e4 e5 e6 e7).2.1), .fl .f32 ((peP n f0 f1 f2 f3 f4 f5 f6 f7 e0 e1 e2 e3 e4 e5 e6 e7).2.2.1), .fl .f32 ((peP n f0 f1 f2 f3 f4 f5 f6 f7 e0 e1 e2 e3 e4 e5 e6 e7).2.2.2.1), .fl .f32 ((peP n f0 f1 f2 f3 f4 f5 f6 f7 e0 e1 e2 e3 e4 e5 e6 e7).2.2.2.2.1), .fl .f32 ((peP n f0 f1 f2 f3 f4 f5 f6 f7 e0 e1 e2 e3 e4 e5 e6 e7).2.2.2.2.2.1), .fl .f32 ((peP n f0 f1 f2 f3 f4 f5 f6 f7 e0 e1 e2 e3 e4 e5 e6 e7).2.2.2.2.2.2.1), .fl .f32 ((peP n f0 f1 f2 f3 f4 f5 f6 f7 e0 e1 e2 e3 e4 e5 e6 e7).2.2.2.2.2.2.2.1), .fl .f32 ((peP n f0 f1 f2 f3 f4 f5 f6 f7 e0 e1 e2 e3 e4 e5 e6 e7).2.2.2.2.2.2.2.2)]), none])) (.leaf (.tup [.one (.val (.slice none 0 0)), .one (.tt false)], []))))))
  | _, _ => .fail
theorem pe_le (a : PeA) (e0 : ByteArray) (e1 e2 e3 e4 e5 e6 e7 : Nat) : le2 ((.tup [.one (.so 2 8 a.1 3), .one (.tt true)], [some (.box [.str e0, .fl .f32 e1, .fl .f32 e2, .fl .f32 e3, .fl .f32 e4, .fl .f32 e5, .fl .f32 e6, .fl .f32 e7]), some (.grow a.1 [.str (a.2.1), .fl .f32 (a.2.2.1), .fl .f32 (a.2.2.2.1), .fl .f32 (a.2.2.2.2.1), .fl .f32 (a.2.2.2.2.2.1), .fl .f32 (a.2.2.2.2.2.2.1), .fl .f32 (a.2.2.2.2.2.2.2.1), .fl .f32 (a.2.2.2.2.2.2.2.2)] 3 49), none]) : Res) (.tup [.one (.su 2 8 0 a.1 false), .one (.tt true)], [none, some (.cols a.1 [.str (a.2.1), .fl .f32 (a.2.2.1), .fl .f32 (a.2.2.2.1), .fl .f32 (a.2.2.2.2.1), .fl .f32 (a.2.2.2.2.2.1), .fl .f32 (a.2.2.2.2.2.2.1), .fl .f32 (a.2.2.2.2.2.2.2.1), .fl .f32 (a.2.2.2.2.2.2.2.2)]), none]) := by
  refine ⟨⟨dbGrow (fun i hi => rfl) rfl, trivial⟩, fun ρ v hv => ?_⟩
  obtain ⟨vs, hvs, hl⟩ := hv
  refine ⟨vs, hvs, ?_⟩
  match vs.toList, hl with
  | [x, y], hl => exact ⟨AvLe.grown ρ x hl.1, hl.2.1, trivial⟩
theorem pe_le4 (a : PeA) (e0 : ByteArray) (e1 e2 e3 e4 e5 e6 e7 : Nat) : le2 ((.tup [.one (.so 2 8 a.1 3), .one (.tt true)], [some (.box [.str e0, .fl .f32 e1, .fl .f32 e2, .fl .f32 e3, .fl .f32 e4, .fl .f32 e5, .fl .f32 e6, .fl .f32 e7]), some (.grow a.1 [.str (a.2.1), .fl .f32 (a.2.2.1), .fl .f32 (a.2.2.2.1), .fl .f32 (a.2.2.2.2.1), .fl .f32 (a.2.2.2.2.2.1), .fl .f32 (a.2.2.2.2.2.2.1), .fl .f32 (a.2.2.2.2.2.2.2.1), .fl .f32 (a.2.2.2.2.2.2.2.2)] 3 49), none, none]) : Res) (.tup [.one (.su 2 8 0 a.1 false), .one (.tt true)], [none, some (.cols a.1 [.str (a.2.1), .fl .f32 (a.2.2.1), .fl .f32 (a.2.2.2.1), .fl .f32 (a.2.2.2.2.1), .fl .f32 (a.2.2.2.2.2.1), .fl .f32 (a.2.2.2.2.2.2.1), .fl .f32 (a.2.2.2.2.2.2.2.1), .fl .f32 (a.2.2.2.2.2.2.2.2)]), none, none]) := by
  refine ⟨⟨dbGrow (fun i hi => rfl) rfl, trivial⟩, fun ρ v hv => ?_⟩
  obtain ⟨vs, hvs, hl⟩ := hv
  refine ⟨vs, hvs, ?_⟩
  match vs.toList, hl with
  | [x, y], hl => exact ⟨AvLe.grown ρ x hl.1, hl.2.1, trivial⟩
def peW (n : Nat) (f0 : Nat → ByteArray) (f1 f2 f3 f4 f5 f6 f7 : Nat → Nat) (e0 : ByteArray) (e1 e2 e3 e4 e5 e6 e7 : Nat) : Bool := (iter (gS (peI f0 f1 f2 f3 f4 f5 f6 f7) (peE e0 e1 e2 e3 e4 e5 e6 e7) (peL f0 e0) (peQ f0 e0)) n 0 (peZ, false)).2
def run_sPe : List AV → Mem → T Res
  | [.one (.su 0 8 0 n false), .agg [.str e0, .fl .f32 e1, .fl .f32 e2, .fl .f32 e3, .fl .f32 e4, .fl .f32 e5, .fl .f32 e6, .fl .f32 e7]], [some (.cols m [.str f0, .fl .f32 f1, .fl .f32 f2, .fl .f32 f3, .fl .f32 f4, .fl .f32 f5, .fl .f32 f6, .fl .f32 f7])] => .need (decide (n ≤ m)) (.need (decide (n ≤ 1048576)) (.need (szOK n f0) (.need (decide (e0.size ≤ 1099511627776)) (.ite (peT n f0 f1 f2 f3 f4 f5 f6 f7 e0 e1 e2 e3 e4 e5 e6 e7) (.ite (peW n f0 f1 f2 f3 f4 f5 f6 f7 e0 e1 e2 e3 e4 e5 e6 e7) (.leaf (.tup [.one (.su 2 8 0 (peP n f0 f1 f2 f3 f4 f5 f6 f7 e0 e1 e2 e3 e4 e5 e6 e7).1 false), .one (.tt true)], [none, some (.cols (peP n f0 f1 f2 f3 f4 f5 f6 f7 e0 e1 e2 e3 e4 e5 e6 e7).1 [.str ((peP n f0 f1 f2 f3 f4 f5 f6 f7 e0 e1 e2 e3 e4 e5 e6 e7).2.1), .fl .f32 ((peP n f0 f1 f2 f3 f4 f5 f6 f7 e0 e1 e2 e3 e4 e5 e6 e7).2.2.1), .fl .f32 ((peP n f0 f1 f2 f3 f4 f5 f6 f7 e0 e1 e2 e3 e4 e5 e6 e7).2.2.2.1), .fl .f32 ((peP n f0 f1 f2 f3 f4 f5 f6 f7 e0 e1 e2 e3 e4 e5 e6 e7).2.2.2.2.1), .fl .f32 ((peP n f0 f1 f2 f3 f4 f5 f6 f7 e0 e1 e2 e3 e4 e5 e6 e7).2.2.2.2.2.1), .fl .f32 ((peP n f0 f1 f2 f3 f4 f5 f6 f7 e0 e1 e2 e3 e4 e5 e6 e7).2.2.2.2.2.2.1), .fl .f32 ((peP n f0 f1 f2 f3 f4 f5 f6 f7 e0 e1 e2 e3 e4 e5 e6 e7).2.2.2.2.2.2.2.1), .fl .f32 ((peP n f0 f1 f2 f3 f4 f5 f6 f7 e0 e1 e2 e3 e4 e5 e6 e7).2.2.2.2.2.2.2.2)]), none])) (.leaf (.tup [.one (.su 2 8 0 (peP n f0 f1 f2 f3 f4 f5 f6 f7 e0 e1 e2 e3 e4 e5 e6 e7).1 false), .one (.tt true)], [none, some (.cols (peP n f0 f1 f2 f3 f4 f5 f6 f7 e0 e1 e2 e3 e4 e5 e6 e7).1 [.str ((peP n f0 f1 f2 f3 f4 f5 f6 f7 e0 e1 e2 e3 e4 e5 e6 e7).2.1), .fl .f32 ((peP n f0 f1 f2 f3 f4 f5 f6 f7 e0 e1 e2 e3 e4 e5 e6 e7).2.2.1), .fl .f32 ((peP n f0 f1 f2 f3 f4 f5 f6 f7 e0 e1 e2 e3 e4 e5 e6 e7).2.2.2.1), .fl .f32 ((peP n f0 f1 f2 f3 f4 f5 f6 f7 e0 e1 e2 e3 e4 e5 e6 e7).2.2.2.2.1), .fl .f32 ((peP n f0 f1 f2 f3 f4 f5 f6 f7 e0 e1 e2 e3 e4 e5 e6 e7).2.2.2.2.2.1), .fl .f32 ((peP n f0 f1 f2 f3 f4 f5 f6 f7 e0 e1 e2 e3 e4 e5 e6 e7).2.2.2.2.2.2.1), .fl .f32 ((peP n f0 f1 f2 f3 f4 f5 f6 f7 e0 e1 e2 e3 e4 e5 e6 e7).2.2.2.2.2.2.2.1), .fl .f32 ((peP n f0 f1 f2 f3 f4 f5 f6 f7 e0 e1 e2 e3 e4 e5 e6 e7).2.2.2.2.2.2.2.2)]), none, none]))) (.leaf (.tup [.one (.val (.slice none 0 0)), .one (.tt false)], []))))))
  | _, _ => .fail
set_option maxHeartbeats 4000000 in
noncomputable def k_iPe : Ctr Try.prog := (k_iPe0.to run_Pe (by
  intro args mem _
  unfold run_Pe
  split
  · rename_i n e0 e1 e2 e3 e4 e5 e6 e7 m f0 f1 f2 f3 f4 f5 f6 f7 _
    rw [iPe0_ev]
    constructor
    intro Φ hΦ h
    have hm := of_decide_eq_true h.1
    have hn := of_decide_eq_true h.2.1
    have hl := h.2.2.2.2
    refine T.h_need h.1 (T.h_need h.2.1 (T.h_need h.2.2.1 (T.h_ite (fun hA => T.h_leaf (hl.2 (by unfold peT; rw [bnot_t hA]; rfl))) (fun hA => T.h_need h.2.2.2.1 (T.h_ite (fun hB => T.h_leaf (hl.2 (by unfold peT; rw [bnot_t hB, Bool.false_and, Bool.and_false]))) (fun hB => ?_))))))
    have hA := bnot_f hA
    have hB := bnot_f hB
    have h16 := (ent_parts hA).1
    have hIA := iter_len (gA_len f0 f1 f2 f3 f4 f5 f6 f7 e0) n 0 peZ
    have u2 : peZ.1 = 0 := rfl
    rw [u2] at hIA
    refine T.h_need (decide_eq_true ⟨hm, hn, rfl, by show 0 ≤ _; omega, Int.le_refl 0, Int.natCast_nonneg n⟩) ?_
    refine T.h_need (decide_eq_true (Nat.le_refl _)) ?_
    refine T.h_need rfl ?_
    refine T.h_need (decide_eq_true (by omega)) ?_
    refine T.h_need (decide_eq_true ⟨hm, hn, rfl, by show (iter (gA (peI f0 f1 f2 f3 f4 f5 f6 f7) (peL f0 e0)) n 0 peZ).1 + 1 ≤ 1048577 + 0; omega, rfl, Int.le_refl 0, Int.natCast_nonneg n⟩) ?_
    refine T.h_ite (fun hC => T.h_leaf (hl.2 ?_)) (fun hC => T.h_leaf ?_)
    · have := of_decide_eq_true hC
      unfold peT
      rw [decide_eq_false (show ¬ (((peP n f0 f1 f2 f3 f4 f5 f6 f7 e0 e1 e2 e3 e4 e5 e6 e7).1 : Int) ≤ 16) by omega), Bool.and_false, Bool.and_false]
    · have := of_decide_eq_false hC
      exact hΦ _ _ (pe_le (peP n f0 f1 f2 f3 f4 f5 f6 f7 e0 e1 e2 e3 e4 e5 e6 e7) e0 e1 e2 e3 e4 e5 e6 e7) (hl.1 (by unfold peT; rw [hA, hB, decide_eq_true (show ((peP n f0 f1 f2 f3 f4 f5 f6 f7 e0 e1 e2 e3 e4 e5 e6 e7).1 : Int) ≤ 16 by omega)]; rfl))
  · exact Weak.fail _)).su.own
theorem pe_tail {Φ : Res → Prop} {R : Res} (a : PeA) (e0 : ByteArray) (e1 e2 e3 e4 e5 e6 e7 : Nat) (hle : a.1 ≤ 1048576) (hsz : szOK a.1 a.2.1 = true) (h0 : areE a.1 (a.2.1) (a.2.2.1) (a.2.2.2.1) (a.2.2.2.2.1) (a.2.2.2.2.2.1) (a.2.2.2.2.2.2.1) (a.2.2.2.2.2.2.2.1) (a.2.2.2.2.2.2.2.2) = false → Φ (.tup [.one (.val (.slice none 0 0)), .one (.tt false)], [])) (h1 : areE a.1 (a.2.1) (a.2.2.1) (a.2.2.2.1) (a.2.2.2.2.1) (a.2.2.2.2.2.1) (a.2.2.2.2.2.2.1) (a.2.2.2.2.2.2.2.1) (a.2.2.2.2.2.2.2.2) = true → Φ R) : ((.need (decide (a.1 ≤ a.1)) (.need (decide (a.1 ≤ 1048576)) (.need (szOK a.1 a.2.1) (.ite (!areE a.1 (a.2.1) (a.2.2.1) (a.2.2.2.1) (a.2.2.2.2.1) (a.2.2.2.2.2.1) (a.2.2.2.2.2.2.1) (a.2.2.2.2.2.2.2.1) (a.2.2.2.2.2.2.2.2)) (.leaf (.tup [.one (.val (.slice none 0 0)), .one (.tt false)], [])) (.leaf R))))) : T Res).holds Φ :=
  T.h_need (decide_eq_true (Nat.le_refl _)) (T.h_need (decide_eq_true hle) (T.h_need hsz (T.h_ite (fun hA => T.h_leaf (h0 (bnot_t hA))) (fun hA => T.h_leaf (h1 (bnot_f hA))))))
set_option maxHeartbeats 4000000 in
noncomputable def k_sPe : Ctr Try.prog := (k_sPe0.to run_sPe (by
  intro args mem _
  unfold run_sPe
  split
  · rename_i n e0 e1 e2 e3 e4 e5 e6 e7 m f0 f1 f2 f3 f4 f5 f6 f7 _
    rw [sPe0_ev]
    constructor
    intro Φ hΦ h
    have hm := of_decide_eq_true h.1
    have hn := of_decide_eq_true h.2.1
    have hl := h.2.2.2.2
    refine T.h_need h.1 (T.h_need h.2.1 (T.h_need h.2.2.1 (T.h_ite (fun hA => T.h_leaf (hl.2 (by unfold peT; rw [bnot_t hA]; rfl))) (fun hA => T.h_need h.2.2.2.1 (T.h_ite (fun hB => T.h_leaf (hl.2 (by unfold peT; rw [bnot_t hB, Bool.false_and, Bool.and_false]))) (fun hB => ?_))))))
    have hA := bnot_f hA
    have hB := bnot_f hB
    have h16 := (ent_parts hA).1
    obtain ⟨q1, q2, q3⟩ := pe_facts hA hB (of_decide_eq_true h.2.2.1) (of_decide_eq_true h.2.2.2.1)
    have hlen := peP_len n f0 f1 f2 f3 f4 f5 f6 f7 e0 e1 e2 e3 e4 e5 e6 e7
    refine T.h_need (decide_eq_true ⟨hm, hn, rfl, Nat.zero_le _, Int.le_refl 0, Int.natCast_nonneg n⟩) ?_
    have hT : ∀ b, areE (peP n f0 f1 f2 f3 f4 f5 f6 f7 e0 e1 e2 e3 e4 e5 e6 e7).1 ((peP n f0 f1 f2 f3 f4 f5 f6 f7 e0 e1 e2 e3 e4 e5 e6 e7).2.1) ((peP n f0 f1 f2 f3 f4 f5 f6 f7 e0 e1 e2 e3 e4 e5 e6 e7).2.2.1) ((peP n f0 f1 f2 f3 f4 f5 f6 f7 e0 e1 e2 e3 e4 e5 e6 e7).2.2.2.1) ((peP n f0 f1 f2 f3 f4 f5 f6 f7 e0 e1 e2 e3 e4 e5 e6 e7).2.2.2.2.1) ((peP n f0 f1 f2 f3 f4 f5 f6 f7 e0 e1 e2 e3 e4 e5 e6 e7).2.2.2.2.2.1) ((peP n f0 f1 f2 f3 f4 f5 f6 f7 e0 e1 e2 e3 e4 e5 e6 e7).2.2.2.2.2.2.1) ((peP n f0 f1 f2 f3 f4 f5 f6 f7 e0 e1 e2 e3 e4 e5 e6 e7).2.2.2.2.2.2.2.1) ((peP n f0 f1 f2 f3 f4 f5 f6 f7 e0 e1 e2 e3 e4 e5 e6 e7).2.2.2.2.2.2.2.2) = b → peT n f0 f1 f2 f3 f4 f5 f6 f7 e0 e1 e2 e3 e4 e5 e6 e7 = b := fun b hz => by
      rw [q3] at hz; unfold peT; rw [hA, hB, hz]; rfl
    unfold putS at q1
    have hls : (iter (gS (peI f0 f1 f2 f3 f4 f5 f6 f7) (peE e0 e1 e2 e3 e4 e5 e6 e7) (peL f0 e0) (peQ f0 e0)) n 0 (peZ, false)).1.1 ≤ (peP n f0 f1 f2 f3 f4 f5 f6 f7 e0 e1 e2 e3 e4 e5 e6 e7).1 := by
      rw [← q1]
      cases (iter (gS (peI f0 f1 f2 f3 f4 f5 f6 f7) (peE e0 e1 e2 e3 e4 e5 e6 e7) (peL f0 e0) (peQ f0 e0)) n 0 (peZ, false)).2 with
      | true => exact Nat.le_refl _
      | false => show _ ≤ (iter (gS (peI f0 f1 f2 f3 f4 f5 f6 f7) (peE e0 e1 e2 e3 e4 e5 e6 e7) (peL f0 e0) (peQ f0 e0)) n 0 (peZ, false)).1.1 + 1; omega
    refine T.h_ite (fun hC => ?_) (fun hC => ?_)
    · rw [hC, cond_true] at q1
      refine T.h_need (decide_eq_true (Nat.le_refl _)) (T.h_need rfl (T.h_need (decide_eq_true (by omega)) ?_))
      have hw : peW n f0 f1 f2 f3 f4 f5 f6 f7 e0 e1 e2 e3 e4 e5 e6 e7 = false := by unfold peW; exact bnot_t hC
      revert q1
      generalize peE e0 e1 e2 e3 e4 e5 e6 e7 (iter (gS (peI f0 f1 f2 f3 f4 f5 f6 f7) (peE e0 e1 e2 e3 e4 e5 e6 e7) (peL f0 e0) (peQ f0 e0)) n 0 (peZ, false)).1 = a
      intro q1
      subst q1
      exact pe_tail _ e0 e1 e2 e3 e4 e5 e6 e7 (by omega) q2 (fun hz => hl.2 (hT false hz)) (fun hz => hΦ _ _ (pe_le4 _ e0 e1 e2 e3 e4 e5 e6 e7) ((hl.1 (hT true hz)).2 hw))
    · rw [hC, cond_false] at q1
      have hw : peW n f0 f1 f2 f3 f4 f5 f6 f7 e0 e1 e2 e3 e4 e5 e6 e7 = true := by unfold peW; exact bnot_f hC
      revert q1
      generalize (iter (gS (peI f0 f1 f2 f3 f4 f5 f6 f7) (peE e0 e1 e2 e3 e4 e5 e6 e7) (peL f0 e0) (peQ f0 e0)) n 0 (peZ, false)).1 = a
      intro q1
      subst q1
      exact pe_tail _ e0 e1 e2 e3 e4 e5 e6 e7 (by omega) q2 (fun hz => hl.2 (hT false hz)) (fun hz => hΦ _ _ (pe_le _ e0 e1 e2 e3 e4 e5 e6 e7) ((hl.1 (hT true hz)).1 hw))
  · exact Weak.fail _)).su.own

end Go.Proofs.Ytjaohecdhnhhbaa
