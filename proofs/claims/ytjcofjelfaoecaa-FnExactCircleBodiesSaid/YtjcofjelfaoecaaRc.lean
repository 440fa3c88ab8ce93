/-
  A row of known cells, taken as columns. No conditions.
-/
import Derived.Test.YtjcofjelfaoecaaLp
namespace Go.Proofs.Ytjcofjelfaoecaa
set_option linter.unusedVariables false
set_option linter.unusedSimpArgs false
open Go.RowKit

def cellF (g : Nat → List SV) (j i : Nat) : Nat := match (g i)[j]? with
  | some (.fl .f32 x) => x
  | _ => 0
def isF32 : Option SV → Bool
  | some (.fl .f32 _) => true
  | _ => false
theorem isF32_cell {g : Nat → List SV} {i j : Nat} (h : isF32 (g i)[j]? = true) : (g i)[j]? = some (.fl .f32 (cellF g j i)) := by
  unfold isF32 at h
  split at h
  · rename_i x hx
    unfold cellF
    rw [hx]
  · cases h
def f32Cols (g : Nat → List SV) : Nat → Nat → List Col
  | 0, _ => []
  | k + 1, j => .fl .f32 (cellF g j) :: f32Cols g k (j + 1)
theorem f32Cols_length (g : Nat → List SV) : ∀ (k j : Nat), (f32Cols g k j).length = k
  | 0, _ => rfl
  | k + 1, j => congrArg (· + 1) (f32Cols_length g k (j + 1))
theorem f32Cols_get (g : Nat → List SV) (i : Nat) : ∀ (k j q : Nat), q < k → (colsAt (f32Cols g k j) i)[q]? = some (.fl .f32 (cellF g (j + q) i))
  | 0, _, q, h => by omega
  | k + 1, j, 0, _ => rfl
  | k + 1, j, q + 1, h => by
    show (colsAt (f32Cols g k (j + 1)) i)[q]? = _
    rw [f32Cols_get g i k (j + 1) q (by omega), show j + 1 + q = j + (q + 1) by omega]
def allF (g : Nat → List SV) (sz : Nat) : Nat → Bool
  | 0 => true
  | i + 1 => ((List.range sz).all fun j => isF32 (g i)[j]?) && allF g sz i
theorem allF_ok {g : Nat → List SV} {sz : Nat} : ∀ {n : Nat}, allF g sz n = true → ∀ i, i < n → ∀ j, j < sz → isF32 (g i)[j]? = true
  | 0, _, i, hi, _, _ => by omega
  | n + 1, h, i, hi, j, hj => by
    unfold allF at h
    simp only [Bool.and_eq_true] at h
    by_cases hin : i = n
    · subst hin
      exact List.all_eq_true.1 h.1 j (List.mem_range.2 hj)
    · exact allF_ok h.2 i (by omega) j hj
def rcM : Mem → Mem
  | [] => []
  | none :: m => none :: rcM m
  | some (.row n sz g) :: m => (match allF g sz n with
    | true => some (.cols n (f32Cols g sz 0))
    | false => some (.row n sz g)) :: rcM m
  | some B :: m => some B :: rcM m
theorem rc_le {n sz : Nat} {g : Nat → List SV} (h : allF g sz n = true) : BlLe (.row n sz g) (.cols n (f32Cols g sz 0)) := by
  refine BlLe.mk (Nat.le_refl n) (f32Cols_length g sz 0) fun i hi j hj => ?_
  have hj : j < sz := by
    have : j < (f32Cols g sz 0).length := hj
    rwa [f32Cols_length] at this
  refine ⟨.fl .f32 (cellF g j i), .fl .f32 (cellF g j i), isF32_cell (allF_ok h i hi j hj), ?_, fun _ _ hv => hv⟩
  show (colsAt (f32Cols g sz 0) i)[j]? = _
  rw [f32Cols_get g i sz 0 j hj, Nat.zero_add]
theorem rcM_le : ∀ (m : Mem), MemLe m (rcM m)
  | [] => trivial
  | none :: m => rcM_le m
  | some (.row n sz g) :: m => by
    unfold rcM
    cases h : allF g sz n with
    | true => exact ⟨rc_le h, rcM_le m⟩
    | false => exact ⟨BlLe.refl _, rcM_le m⟩
  | some (.box l) :: m => ⟨BlLe.refl _, rcM_le m⟩
  | some (.grow n cs k e) :: m => ⟨BlLe.refl _, rcM_le m⟩
  | some (.cols n cs) :: m => ⟨BlLe.refl _, rcM_le m⟩
/-- The contract, to which rows of known cells are given as columns. -/
def Ctr.rc {P : Program} (C : Ctr P) : Ctr P where
  f := C.f
  run := fun args mem => C.run args (rcM mem)
  ok := fun args mem ρ w vals hm ha o a K Q hh => by
    have hle := rcM_le mem
    refine C.ok args (rcM mem) ρ w vals (hm.le hle) ha o a K Q ?_
    rw [← hle.length]
    exact hh

end Go.Proofs.Ytjcofjelfaoecaa
