/-
  DropEntry: both functions in the same words. No conditions.
-/
import Derived.Test.YtjaohecdhnhhbaaEf
import Derived.Test.YtjaohecdhnhhbaaRw
import Derived.Test.YtjaohecdhnhhbaaCa
namespace Go.Proofs.Ytjaohecdhnhhbaa
set_option linter.unusedVariables false
set_option linter.unusedSimpArgs false
open Go.RowKit

noncomputable def k_growE : Ctr Try.prog := mkF0 Try.prog mix [] 69 Try.f69 (bodyOf Try.f69) Try.func69 (by kernel_rfl) (by kernel_rfl) [0, 1, 4, 6, 16, 199] 27 (by kernel_rfl) (by kernel_rfl) []
noncomputable def k_catE : Ctr Try.prog := mkF0 Try.prog mix [k_growE] 43 Try.f43 (bodyOf Try.f43) Try.func43 (by kernel_rfl) (by kernel_rfl) [0, 2, 3, 5, 6, 8, 9, 10, 11, 12, 20, 25, 26, 27, 28, 199] 36 (by kernel_rfl) (by kernel_rfl) []
noncomputable def k_sDe0 : Ctr Try.prog := mkF0 Try.prog mix [k_sFf, k_sAeL] 17 Try.f17 (bodyOf Try.f17) Try.func17 (by kernel_rfl) (by kernel_rfl) [0, 1, 4, 5, 6, 7, 17, 199] 29 (by kernel_rfl) (by kernel_rfl) []
noncomputable def k_iDe0 : Ctr Try.prog := mkF0 Try.prog mix [k_iFe, k_catE] 19 Try.f19 (bodyOf Try.f19) Try.func19 (by kernel_rfl) (by kernel_rfl) [0, 1, 4, 5, 6, 7, 15, 199] 25 (by kernel_rfl) (by kernel_rfl) []
theorem exitAt_lt {A : Type} (B : Nat → Bool) (g : Nat → A → A) : ∀ (c s : Nat) (a : A) (o : Nat × A), iterX (exitAt B g) c s a = .inr o → o.1 < s + c
  | 0, _, _, _, h => by cases h
  | c + 1, s, a, o, h => by
    cases hb : B s with
    | true =>
      have e : iterX (exitAt B g) (c + 1) s a = .inr (s, a) := by rw [iterX]; unfold exitAt; rw [hb]
      rw [e] at h
      cases h
      show s < s + (c + 1)
      omega
    | false =>
      have e : iterX (exitAt B g) (c + 1) s a = iterX (exitAt B g) c (s + 1) (g s a) := by rw [iterX]; unfold exitAt; rw [hb]
      rw [e] at h
      have := exitAt_lt B g c (s + 1) (g s a) o h
      omega
theorem ffV_lt {n : Nat} {f : Nat → ByteArray} {name : ByteArray} (h : 0 ≤ ffV n f name) : ffV n f name < (n : Int) := by
  unfold ffV at *
  generalize hi : itF n f name = r at *
  cases r with
  | inl a => exact absurd (show (0 : Int) ≤ -1 from h) (by decide)
  | inr o =>
    have := exitAt_lt _ _ n 0 () o hi
    show ((o.1 : Nat) : Int) < n
    omega
theorem feK_out {n : Nat} {f0 : Nat → ByteArray} {f1 f2 f3 f4 f5 f6 f7 : Nat → Nat} {name : ByteArray} (h : feK n f0 f1 f2 f3 f4 f5 f6 f7 name = true) : feV n f0 f1 f2 f3 f4 f5 f6 f7 name = ffV n f0 name ∧ 0 ≤ ffV n f0 name ∧ ffV n f0 name < (n : Int) ∧ n ≤ 16 := by
  have hb : feBad n f0 f1 f2 f3 f4 f5 f6 f7 name = false := bnot_t (by unfold feK at h; exact h)
  have e : feV n f0 f1 f2 f3 f4 f5 f6 f7 name = ffV n f0 name := by unfold feV; rw [hb, cond_false]
  unfold feBad at hb
  cases hA : areE n f0 f1 f2 f3 f4 f5 f6 f7 with
  | false => rw [hA] at hb; cases hb
  | true =>
    rw [hA, Bool.not_true, cond_false] at hb
    have h0 : 0 ≤ ffV n f0 name := by have := of_decide_eq_false hb; omega
    refine ⟨e, h0, ffV_lt h0, ?_⟩
    unfold areE at hA
    cases hN : noneIn (entBad f0 f1 f2 f3 f4 f5 f6 f7) n 0 with
    | false => rw [hN] at hA; cases hA
    | true => rw [hN, cond_true] at hA; have := of_decide_eq_true hA; omega
def dropA {α : Type} (ix : Int) (f : Nat → α) : Nat → α := fun q => if q < ix.toNat then f q else f (q + 1)
theorem dropA_key {α : Type} (ix : Int) (f : Nat → α) (z : α) (h0 : 0 ≤ ix) (i : Nat) : (if i < 0 + ix.toNat then (if i < 0 then z else f (0 + 0 + (i - 0))) else f (0 + (ix + 1).toNat + (i - (0 + ix.toNat)))) = dropA ix f i := by
  unfold dropA
  by_cases hq : i < ix.toNat
  · rw [if_pos (by omega), if_neg (by omega), if_pos hq]; congr 1; omega
  · rw [if_neg (by omega), if_neg hq]; congr 1; omega
theorem iDe0_ev (n m : Nat) (name : ByteArray) (f0 : Nat → ByteArray) (f1 f2 f3 f4 f5 f6 f7 : Nat → Nat) : k_iDe0.run [.one (.su 0 8 0 n false), .one (.str name)] [some (.cols m [.str f0, .fl .f32 f1, .fl .f32 f2, .fl .f32 f3, .fl .f32 f4, .fl .f32 f5, .fl .f32 f6, .fl .f32 f7])] =
    .need (decide (n ≤ m)) (.need (decide (n ≤ 1048576)) (.need (decide (n ≤ m)) (.need (decide (n ≤ 1048576)) (.need (szOK n f0) (.ite (!feK n f0 f1 f2 f3 f4 f5 f6 f7 name) (.leaf (.tup [.one (.val (.slice none 0 0)), .one (.tt false)], [])) (.need (decide (0 ≤ (n : Int) ∧ (n : Int) ≤ (n : Int))) (.need (decide (0 ≤ (feV n f0 f1 f2 f3 f4 f5 f6 f7 name) ∧ (feV n f0 f1 f2 f3 f4 f5 f6 f7 name) ≤ (n : Int))) (.need (decide (0 ≤ (0 : Int) ∧ (0 : Int) ≤ (feV n f0 f1 f2 f3 f4 f5 f6 f7 name))) (.need (decide (0 ≤ (n : Int) ∧ (n : Int) ≤ (n : Int))) (.need (decide (0 ≤ (n : Int) ∧ (n : Int) ≤ (n : Int))) (.need (decide (0 ≤ IntKind.i64.wrap ((feV n f0 f1 f2 f3 f4 f5 f6 f7 name) + 1) ∧ IntKind.i64.wrap ((feV n f0 f1 f2 f3 f4 f5 f6 f7 name) + 1) ≤ (n : Int))) ((T.need (true) (T.need (true) (T.ite (decide ((IntKind.i64.wrap (0 + (((feV n f0 f1 f2 f3 f4 f5 f6 f7 name).toNat : Nat) : Int))) < 0)) T.fail (T.need (true) (T.need (true) (T.ite (decide ((IntKind.i64.wrap ((IntKind.i64.wrap (0 + (((feV n f0 f1 f2 f3 f4 f5 f6 f7 name).toNat : Nat) : Int))) + (((n - (IntKind.i64.wrap (feV n f0 f1 f2 f3 f4 f5 f6 f7 name + 1)).toNat) : Nat) : Int))) < 0)) T.fail (T.ite (decide ((IntKind.i64.wrap ((IntKind.i64.wrap (0 + (((feV n f0 f1 f2 f3 f4 f5 f6 f7 name).toNat : Nat) : Int))) + (((n - (IntKind.i64.wrap (feV n f0 f1 f2 f3 f4 f5 f6 f7 name + 1)).toNat) : Nat) : Int))) < 0)) T.fail (T.ite (decide (0 < (IntKind.i64.wrap ((IntKind.i64.wrap ((IntKind.i64.wrap (0 + (((feV n f0 f1 f2 f3 f4 f5 f6 f7 name).toNat : Nat) : Int))) + (((n - (IntKind.i64.wrap (feV n f0 f1 f2 f3 f4 f5 f6 f7 name + 1)).toNat) : Nat) : Int))) - IntKind.i64.wrap (0 - 0))))) (T.need (true) (T.need (true) (T.need (true) (T.need (decide (0 < (IntKind.i64.wrap ((IntKind.i64.wrap ((IntKind.i64.wrap (0 + (((feV n f0 f1 f2 f3 f4 f5 f6 f7 name).toNat : Nat) : Int))) + (((n - (IntKind.i64.wrap (feV n f0 f1 f2 f3 f4 f5 f6 f7 name + 1)).toNat) : Nat) : Int))) - IntKind.i64.wrap (0 - 0))) ∧ (IntKind.i64.wrap ((IntKind.i64.wrap ((IntKind.i64.wrap (0 + (((feV n f0 f1 f2 f3 f4 f5 f6 f7 name).toNat : Nat) : Int))) + (((n - (IntKind.i64.wrap (feV n f0 f1 f2 f3 f4 f5 f6 f7 name + 1)).toNat) : Nat) : Int))) - IntKind.i64.wrap (0 - 0))) ≤ 2 ^ 30)) (T.need (decide (0 ≤ (((IntKind.i64.wrap ((IntKind.i64.wrap ((IntKind.i64.wrap (0 + (((feV n f0 f1 f2 f3 f4 f5 f6 f7 name).toNat : Nat) : Int))) + (((n - (IntKind.i64.wrap (feV n f0 f1 f2 f3 f4 f5 f6 f7 name + 1)).toNat) : Nat) : Int))) - IntKind.i64.wrap (0 - 0)))).toNat : Int) ∧ (((IntKind.i64.wrap ((IntKind.i64.wrap ((IntKind.i64.wrap (0 + (((feV n f0 f1 f2 f3 f4 f5 f6 f7 name).toNat : Nat) : Int))) + (((n - (IntKind.i64.wrap (feV n f0 f1 f2 f3 f4 f5 f6 f7 name + 1)).toNat) : Nat) : Int))) - IntKind.i64.wrap (0 - 0)))).toNat : Int) ≤ (((IntKind.i64.wrap ((IntKind.i64.wrap ((IntKind.i64.wrap (0 + (((feV n f0 f1 f2 f3 f4 f5 f6 f7 name).toNat : Nat) : Int))) + (((n - (IntKind.i64.wrap (feV n f0 f1 f2 f3 f4 f5 f6 f7 name + 1)).toNat) : Nat) : Int))) - IntKind.i64.wrap (0 - 0)))).toNat : Int))) (T.need (true) (T.need (true) (T.need (true) (T.need (true) (T.need (true) (T.need (decide (0 + 0 + (feV n f0 f1 f2 f3 f4 f5 f6 f7 name).toNat ≤ m)) (T.need (decide (0 + (feV n f0 f1 f2 f3 f4 f5 f6 f7 name).toNat ≤ 1073741824)) (T.need (true) (T.need (true) (T.need (decide (0 + (feV n f0 f1 f2 f3 f4 f5 f6 f7 name).toNat ≤ 0 + (feV n f0 f1 f2 f3 f4 f5 f6 f7 name).toNat)) (T.need (decide (0 + (IntKind.i64.wrap (feV n f0 f1 f2 f3 f4 f5 f6 f7 name + 1)).toNat + (n - (IntKind.i64.wrap (feV n f0 f1 f2 f3 f4 f5 f6 f7 name + 1)).toNat) ≤ m)) (T.need (decide (0 + (feV n f0 f1 f2 f3 f4 f5 f6 f7 name).toNat + (n - (IntKind.i64.wrap (feV n f0 f1 f2 f3 f4 f5 f6 f7 name + 1)).toNat) ≤ 1073741824)) (T.leaf (.tup [.one (.so 2 8 (0 + (feV n f0 f1 f2 f3 f4 f5 f6 f7 name).toNat + (n - (IntKind.i64.wrap (feV n f0 f1 f2 f3 f4 f5 f6 f7 name + 1)).toNat)) 3), .one (.tt true)], [some (rowBlk 2 1 [.su 0 8 (0 + 0) (feV n f0 f1 f2 f3 f4 f5 f6 f7 name).toNat false, .su 0 8 (0 + (IntKind.i64.wrap (feV n f0 f1 f2 f3 f4 f5 f6 f7 name + 1)).toNat) (n - (IntKind.i64.wrap (feV n f0 f1 f2 f3 f4 f5 f6 f7 name + 1)).toNat) false]), some (.grow (0 + (feV n f0 f1 f2 f3 f4 f5 f6 f7 name).toNat + (n - (IntKind.i64.wrap (feV n f0 f1 f2 f3 f4 f5 f6 f7 name + 1)).toNat)) [.str fun j => if j < 0 + (feV n f0 f1 f2 f3 f4 f5 f6 f7 name).toNat then (if j < 0 then ⟨#[]⟩ else f0 (0 + 0 + (j - 0))) else f0 (0 + (IntKind.i64.wrap (feV n f0 f1 f2 f3 f4 f5 f6 f7 name + 1)).toNat + (j - (0 + (feV n f0 f1 f2 f3 f4 f5 f6 f7 name).toNat))), .fl .f32 fun j => if j < 0 + (feV n f0 f1 f2 f3 f4 f5 f6 f7 name).toNat then (if j < 0 then canon .f32 0 else f1 (0 + 0 + (j - 0))) else f1 (0 + (IntKind.i64.wrap (feV n f0 f1 f2 f3 f4 f5 f6 f7 name + 1)).toNat + (j - (0 + (feV n f0 f1 f2 f3 f4 f5 f6 f7 name).toNat))), .fl .f32 fun j => if j < 0 + (feV n f0 f1 f2 f3 f4 f5 f6 f7 name).toNat then (if j < 0 then canon .f32 0 else f2 (0 + 0 + (j - 0))) else f2 (0 + (IntKind.i64.wrap (feV n f0 f1 f2 f3 f4 f5 f6 f7 name + 1)).toNat + (j - (0 + (feV n f0 f1 f2 f3 f4 f5 f6 f7 name).toNat))), .fl .f32 fun j => if j < 0 + (feV n f0 f1 f2 f3 f4 f5 f6 f7 name).toNat then (if j < 0 then canon .f32 0 else f3 (0 + 0 + (j - 0))) else f3 (0 + (IntKind.i64.wrap (feV n f0 f1 f2 f3 f4 f5 f6 f7 name + 1)).toNat + (j - (0 + (feV n f0 f1 f2 f3 f4 f5 f6 f7 name).toNat))), .fl .f32 fun j => if j < 0 + (feV n f0 f1 f2 f3 f4 f5 f6 f7 name).toNat then (if j < 0 then canon .f32 0 else f4 (0 + 0 + (j - 0))) else f4 (0 + (IntKind.i64.wrap (feV n f0 f1 f2 f3 f4 f5 f6 f7 name + 1)).toNat + (j - (0 + (feV n f0 f1 f2 f3 f4 f5 f6 f7 name).toNat))), .fl .f32 fun j => if j < 0 + (feV n f0 f1 f2 f3 f4 f5 f6 f7 name).toNat then (if j < 0 then canon .f32 0 else f5 (0 + 0 + (j - 0))) else f5 (0 + (IntKind.i64.wrap (feV n f0 f1 f2 f3 f4 f5 f6 f7 name + 1)).toNat + (j - (0 + (feV n f0 f1 f2 f3 f4 f5 f6 f7 name).toNat))), .fl .f32 fun j => if j < 0 + (feV n f0 f1 f2 f3 f4 f5 f6 f7 name).toNat then (if j < 0 then canon .f32 0 else f6 (0 + 0 + (j - 0))) else f6 (0 + (IntKind.i64.wrap (feV n f0 f1 f2 f3 f4 f5 f6 f7 name + 1)).toNat + (j - (0 + (feV n f0 f1 f2 f3 f4 f5 f6 f7 name).toNat))), .fl .f32 fun j => if j < 0 + (feV n f0 f1 f2 f3 f4 f5 f6 f7 name).toNat then (if j < 0 then canon .f32 0 else f7 (0 + 0 + (j - 0))) else f7 (0 + (IntKind.i64.wrap (feV n f0 f1 f2 f3 f4 f5 f6 f7 name + 1)).toNat + (j - (0 + (feV n f0 f1 f2 f3 f4 f5 f6 f7 name).toNat)))] 3 49), none]))))))))))))))))))) (T.need (true) (T.need (true) (T.need (decide ((feV n f0 f1 f2 f3 f4 f5 f6 f7 name).toNat = 0)) (T.need (true) (T.need (true) (T.need (decide ((n - (IntKind.i64.wrap (feV n f0 f1 f2 f3 f4 f5 f6 f7 name + 1)).toNat) = 0)) (T.leaf (.tup [.one (.val (.slice none 0 0)), .one (.tt true)], [])))))))))))))))))))))))))))) := by kernel_rfl
theorem sDe0_ev (n m : Nat) (name : ByteArray) (f0 : Nat → ByteArray) (f1 f2 f3 f4 f5 f6 f7 : Nat → Nat) : k_sDe0.run [.one (.su 0 8 0 n false), .one (.str name)] [some (.cols m [.str f0, .fl .f32 f1, .fl .f32 f2, .fl .f32 f3, .fl .f32 f4, .fl .f32 f5, .fl .f32 f6, .fl .f32 f7])] =
    .need (decide (n ≤ m)) (.need (decide (n ≤ 1048576)) (.need (decide (n ≤ m)) (.need (decide (n ≤ 1048576)) (.need (szOK n f0) (.ite (!areE n f0 f1 f2 f3 f4 f5 f6 f7) (.leaf (.tup [.one (.val (.slice none 0 0)), .one (.tt false)], [])) (.ite (decide (ffV n f0 name < 0)) (.leaf (.tup [.one (.val (.slice none 0 0)), .one (.tt false)], [])) (.need (decide (0 ≤ (n : Int) ∧ (n : Int) ≤ (n : Int))) (.need (decide (0 ≤ (ffV n f0 name) ∧ (ffV n f0 name) ≤ (n : Int))) (.need (decide (0 ≤ (0 : Int) ∧ (0 : Int) ≤ (ffV n f0 name))) (.need true (.need (decide (0 + 0 + ((ffV n f0 name)).toNat ≤ m)) (.need (decide (0 + ((ffV n f0 name)).toNat ≤ 1073741824)) (.need (decide (0 ≤ (n : Int) ∧ (n : Int) ≤ (n : Int))) (.need (decide (0 ≤ (n : Int) ∧ (n : Int) ≤ (n : Int))) (.need (decide (0 ≤ IntKind.i64.wrap ((ffV n f0 name) + 1) ∧ IntKind.i64.wrap ((ffV n f0 name) + 1) ≤ (n : Int))) (.need (decide (0 + ((ffV n f0 name)).toNat ≤ 0 + ((ffV n f0 name)).toNat)) (.need (decide (0 + (IntKind.i64.wrap ((ffV n f0 name) + 1)).toNat + (n - (IntKind.i64.wrap ((ffV n f0 name) + 1)).toNat) ≤ m)) (.need (decide (0 + ((ffV n f0 name)).toNat + (n - (IntKind.i64.wrap ((ffV n f0 name) + 1)).toNat) ≤ 1073741824)) (.leaf (.tup [.one (.so 1 8 (0 + ((ffV n f0 name)).toNat + (n - (IntKind.i64.wrap ((ffV n f0 name) + 1)).toNat)) 2), .one (.tt true)], [some (.grow (0 + ((ffV n f0 name)).toNat + (n - (IntKind.i64.wrap ((ffV n f0 name) + 1)).toNat)) [.str fun j => if j < 0 + ((ffV n f0 name)).toNat then (if j < 0 then ⟨#[]⟩ else f0 (0 + 0 + (j - 0))) else f0 (0 + (IntKind.i64.wrap ((ffV n f0 name) + 1)).toNat + (j - (0 + ((ffV n f0 name)).toNat))), .fl .f32 fun j => if j < 0 + ((ffV n f0 name)).toNat then (if j < 0 then canon .f32 0 else f1 (0 + 0 + (j - 0))) else f1 (0 + (IntKind.i64.wrap ((ffV n f0 name) + 1)).toNat + (j - (0 + ((ffV n f0 name)).toNat))), .fl .f32 fun j => if j < 0 + ((ffV n f0 name)).toNat then (if j < 0 then canon .f32 0 else f2 (0 + 0 + (j - 0))) else f2 (0 + (IntKind.i64.wrap ((ffV n f0 name) + 1)).toNat + (j - (0 + ((ffV n f0 name)).toNat))), .fl .f32 fun j => if j < 0 + ((ffV n f0 name)).toNat then (if j < 0 then canon .f32 0 else f3 (0 + 0 + (j - 0))) else f3 (0 + (IntKind.i64.wrap ((ffV n f0 name) + 1)).toNat + (j - (0 + ((ffV n f0 name)).toNat))), .fl .f32 fun j => if j < 0 + ((ffV n f0 name)).toNat then (if j < 0 then canon .f32 0 else f4 (0 + 0 + (j - 0))) else f4 (0 + (IntKind.i64.wrap ((ffV n f0 name) + 1)).toNat + (j - (0 + ((ffV n f0 name)).toNat))), .fl .f32 fun j => if j < 0 + ((ffV n f0 name)).toNat then (if j < 0 then canon .f32 0 else f5 (0 + 0 + (j - 0))) else f5 (0 + (IntKind.i64.wrap ((ffV n f0 name) + 1)).toNat + (j - (0 + ((ffV n f0 name)).toNat))), .fl .f32 fun j => if j < 0 + ((ffV n f0 name)).toNat then (if j < 0 then canon .f32 0 else f6 (0 + 0 + (j - 0))) else f6 (0 + (IntKind.i64.wrap ((ffV n f0 name) + 1)).toNat + (j - (0 + ((ffV n f0 name)).toNat))), .fl .f32 fun j => if j < 0 + ((ffV n f0 name)).toNat then (if j < 0 then canon .f32 0 else f7 (0 + 0 + (j - 0))) else f7 (0 + (IntKind.i64.wrap ((ffV n f0 name) + 1)).toNat + (j - (0 + ((ffV n f0 name)).toNat)))] 2 49), none])))))))))))))))))))) := by kernel_rfl
def run_iDe : List AV → Mem → T Res
  | [.one (.su 0 8 0 n false), .one (.str name)], [some (.cols m [.str f0, .fl .f32 f1, .fl .f32 f2, .fl .f32 f3, .fl .f32 f4, .fl .f32 f5, .fl .f32 f6, .fl .f32 f7])] => .need (decide (n ≤ m)) (.need (decide (n ≤ 1048576)) (.need (szOK n f0) (.ite (feK n f0 f1 f2 f3 f4 f5 f6 f7 name) (.ite (decide (1 < n)) (.leaf (.tup [.one (.su 2 8 0 (n - 1) false), .one (.tt true)], [none, some (.cols (n - 1) [.str (dropA (ffV n f0 name) f0), .fl .f32 (dropA (ffV n f0 name) f1), .fl .f32 (dropA (ffV n f0 name) f2), .fl .f32 (dropA (ffV n f0 name) f3), .fl .f32 (dropA (ffV n f0 name) f4), .fl .f32 (dropA (ffV n f0 name) f5), .fl .f32 (dropA (ffV n f0 name) f6), .fl .f32 (dropA (ffV n f0 name) f7)]), none])) (.leaf (.tup [.one (.su 0 8 0 0 false), .one (.tt true)], []))) (.leaf (.tup [.one (.val (.slice none 0 0)), .one (.tt false)], [])))))
  | _, _ => .fail
def run_sDe : List AV → Mem → T Res
  | [.one (.su 0 8 0 n false), .one (.str name)], [some (.cols m [.str f0, .fl .f32 f1, .fl .f32 f2, .fl .f32 f3, .fl .f32 f4, .fl .f32 f5, .fl .f32 f6, .fl .f32 f7])] => .need (decide (n ≤ m)) (.need (decide (n ≤ 1048576)) (.need (szOK n f0) (.ite (feK n f0 f1 f2 f3 f4 f5 f6 f7 name) (.leaf (.tup [.one (.su 1 8 0 (n - 1) false), .one (.tt true)], [some (.cols (n - 1) [.str (dropA (ffV n f0 name) f0), .fl .f32 (dropA (ffV n f0 name) f1), .fl .f32 (dropA (ffV n f0 name) f2), .fl .f32 (dropA (ffV n f0 name) f3), .fl .f32 (dropA (ffV n f0 name) f4), .fl .f32 (dropA (ffV n f0 name) f5), .fl .f32 (dropA (ffV n f0 name) f6), .fl .f32 (dropA (ffV n f0 name) f7)]), none])) (.leaf (.tup [.one (.val (.slice none 0 0)), .one (.tt false)], [])))))
  | _, _ => .fail
set_option maxHeartbeats 4000000 in
noncomputable def k_iDe : Ctr Try.prog := (k_iDe0.to run_iDe (by
  intro args mem _
  unfold run_iDe
  split
  · rename_i n name m f0 f1 f2 f3 f4 f5 f6 f7 _
    rw [iDe0_ev]
    constructor
    intro Φ hΦ h
    have hm := of_decide_eq_true h.1
    have hl := h.2.2.2
    refine T.h_need h.1 (T.h_need h.2.1 (T.h_need h.1 (T.h_need h.2.1 (T.h_need h.2.2.1 (T.h_ite (fun hA => T.h_leaf (hl.2 (bnot_t hA))) (fun hA => ?_))))))
    have hK := bnot_f hA
    obtain ⟨eV, h0, h1, h16⟩ := feK_out hK
    rw [eV]
    have hw : IntKind.i64.wrap (ffV n f0 name + 1) = ffV n f0 name + 1 := IntWalk.i64_in _ (by omega)
    rw [hw]
    generalize hix : ffV n f0 name = ix at *
    refine T.h_need (decide_eq_true (by omega)) (T.h_need (decide_eq_true (by omega)) (T.h_need (decide_eq_true (by omega)) (T.h_need (decide_eq_true (by omega)) (T.h_need (decide_eq_true (by omega)) (T.h_need (decide_eq_true (by omega)) ?_)))))
    have e1 : IntKind.i64.wrap (0 + ((ix.toNat : Nat) : Int)) = ((ix.toNat : Nat) : Int) := by rw [IntWalk.i64_in _ (by omega)]; omega
    have e2 : IntKind.i64.wrap (IntKind.i64.wrap (0 + ((ix.toNat : Nat) : Int)) + ((n - (ix + 1).toNat : Nat) : Int)) = ((ix.toNat + (n - (ix + 1).toNat) : Nat) : Int) := by rw [e1, IntWalk.i64_in _ (by omega)]; omega
    have e3 : IntKind.i64.wrap (IntKind.i64.wrap (IntKind.i64.wrap (0 + ((ix.toNat : Nat) : Int)) + ((n - (ix + 1).toNat : Nat) : Int)) - IntKind.i64.wrap (0 - 0)) = ((ix.toNat + (n - (ix + 1).toNat) : Nat) : Int) := by
      rw [e2, show IntKind.i64.wrap (0 - 0) = 0 by decide, IntWalk.i64_in _ (by omega)]; omega
    have hln : 0 + ix.toNat + (n - (ix + 1).toNat) = n - 1 := by omega
    refine cat_sh e1 e2 e3 (by omega) (by omega) (by omega) (fun hp => ?_) (fun hp => ?_)
    · have h2 : 1 < n := by omega
      refine hΦ _ (.tup [.one (.su 2 8 0 (n - 1) false), .one (.tt true)], [none, some (.cols (n - 1) [.str (dropA ix f0), .fl .f32 (dropA ix f1), .fl .f32 (dropA ix f2), .fl .f32 (dropA ix f3), .fl .f32 (dropA ix f4), .fl .f32 (dropA ix f5), .fl .f32 (dropA ix f6), .fl .f32 (dropA ix f7)]), none]) ⟨⟨?_, trivial⟩, fun ρ v hv => ?_⟩ ((hl.1 hK).1 (decide_eq_true h2))
      · rw [hln]
        refine dbGrow (fun i hi => ?_) rfl
        simp only [colsAt, Col.at, dropA_key ix _ _ h0]
      · obtain ⟨vs, hvs, hl⟩ := hv
        refine ⟨vs, hvs, ?_⟩
        match vs.toList, hl with
        | [a, b], hl => exact ⟨by have := hl.1; rw [hln] at this; exact AvLe.grown ρ a this, hl.2.1, trivial⟩
    · have h2 : ¬ 1 < n := by omega
      refine hΦ _ (.tup [.one (.su 0 8 0 0 false), .one (.tt true)], []) ⟨trivial, fun ρ v hv => ?_⟩ ((hl.1 hK).2 (decide_eq_false h2))
      obtain ⟨vs, hvs, hl⟩ := hv
      refine ⟨vs, hvs, ?_⟩
      match vs.toList, hl with
      | [a, b], hl =>
        obtain ⟨rfl, _⟩ := hl.1
        exact ⟨⟨none, 0, rfl, Nat.le_refl 0, fun h => absurd h (Nat.lt_irrefl 0)⟩, hl.2.1, trivial⟩
  · exact Weak.fail _)).su.own
set_option maxHeartbeats 4000000 in
noncomputable def k_sDe : Ctr Try.prog := (k_sDe0.to run_sDe (by
  intro args mem _
  unfold run_sDe
  split
  · rename_i n name m f0 f1 f2 f3 f4 f5 f6 f7 _
    rw [sDe0_ev]
    constructor
    intro Φ hΦ h
    have hm := of_decide_eq_true h.1
    have hl := h.2.2.2
    have hbad : ∀ b : Bool, feBad n f0 f1 f2 f3 f4 f5 f6 f7 name = true → feK n f0 f1 f2 f3 f4 f5 f6 f7 name = false := fun _ hh => by unfold feK; rw [hh]; rfl
    refine T.h_need h.1 (T.h_need h.2.1 (T.h_need h.1 (T.h_need h.2.1 (T.h_need h.2.2.1 (T.h_ite (fun hA => T.h_leaf (hl.2 (hbad true (by unfold feBad; rw [hA, cond_true])))) (fun hA => T.h_ite (fun hB => T.h_leaf (hl.2 (hbad true (by unfold feBad; rw [hA, cond_false]; exact hB)))) (fun hB => ?_)))))))
    have hK : feK n f0 f1 f2 f3 f4 f5 f6 f7 name = true := by unfold feK feBad; rw [hA, cond_false, hB]; rfl
    obtain ⟨eV, h0, h1, h16⟩ := feK_out hK
    have hw : IntKind.i64.wrap (ffV n f0 name + 1) = ffV n f0 name + 1 := IntWalk.i64_in _ (by omega)
    rw [hw]
    have hl2 := hl.1 hK
    clear hl hB hbad
    generalize hix : ffV n f0 name = ix at *
    have hln : 0 + ix.toNat + (n - (ix + 1).toNat) = n - 1 := by omega
    refine T.h_need (decide_eq_true (by omega)) ?_
    refine T.h_need (decide_eq_true (by omega)) ?_
    refine T.h_need (decide_eq_true (by omega)) ?_
    refine T.h_need rfl ?_
    refine T.h_need (decide_eq_true (by omega)) ?_
    refine T.h_need (decide_eq_true (by omega)) ?_
    refine T.h_need (decide_eq_true (by omega)) ?_
    refine T.h_need (decide_eq_true (by omega)) ?_
    refine T.h_need (decide_eq_true (by omega)) ?_
    refine T.h_need (decide_eq_true (by omega)) ?_
    refine T.h_need (decide_eq_true (by omega)) ?_
    refine T.h_need (decide_eq_true (by omega)) ?_
    refine T.h_leaf (hΦ _ (.tup [.one (.su 1 8 0 (n - 1) false), .one (.tt true)], [some (.cols (n - 1) [.str (dropA ix f0), .fl .f32 (dropA ix f1), .fl .f32 (dropA ix f2), .fl .f32 (dropA ix f3), .fl .f32 (dropA ix f4), .fl .f32 (dropA ix f5), .fl .f32 (dropA ix f6), .fl .f32 (dropA ix f7)]), none]) ⟨⟨?_, trivial⟩, fun ρ v hv => ?_⟩ hl2)
    · rw [hln]
      refine dbGrow (fun i hi => ?_) rfl
      simp only [colsAt, Col.at, dropA_key ix _ _ h0]
    · obtain ⟨vs, hvs, hl⟩ := hv
      refine ⟨vs, hvs, ?_⟩
      match vs.toList, hl with
      | [a, b], hl => exact ⟨by have := hl.1; rw [hln] at this; exact AvLe.grown ρ a this, hl.2.1, trivial⟩
  · exact Weak.fail _)).su.own

end Go.Proofs.Ytjaohecdhnhhbaa
