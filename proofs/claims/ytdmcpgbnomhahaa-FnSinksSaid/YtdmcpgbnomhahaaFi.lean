/-
  What is finite came of what is finite. No conditions.
-/
import Derived.Test.YtdmcpgbnomhahaaFb
import Derived.Test.YtdmcpgbnomhahaaSq
namespace Go.Proofs.Ytdmcpgbnomhahaa
set_option linter.unusedVariables false
set_option linter.unusedSimpArgs false
open Go.RowKit

theorem rd_cases (k : FloatKind) (x : Nat) : (fin k x = true ∧ ∃ s m e, k.format.read x = .number s m e) ∨ (fin k x = false ∧ isNan k x = false ∧ ∃ s, k.format.read x = .infinity s) ∨ (fin k x = false ∧ isNan k x = true ∧ ∃ s f, k.format.read x = .nan s f) := by
  rcases Nat.lt_trichotomy (rung k.format x) k.format.infRung with h | h | h
  · obtain ⟨m, e, h1, _⟩ := read_fin k.format h
    exact .inl ⟨(fin_iff k x).2 h, _, _, _, h1⟩
  · refine .inr (.inl ⟨?_, ?_, _, read_inf k h⟩)
    · cases hf : fin k x with
      | false => rfl
      | true => have := (fin_iff k x).1 hf; omega
    · rw [isNan_iff]; exact decide_eq_false (by omega)
  · refine .inr (.inr ⟨?_, ?_, _, _, read_nan k h⟩)
    · cases hf : fin k x with
      | false => rfl
      | true => have := (fin_iff k x).1 hf; omega
    · rw [isNan_iff]; exact decide_eq_true h

theorem fin_qnan (k : FloatKind) : fin k (qnan k) = false := by cases k <;> decide
theorem fin_winf (k : FloatKind) (s : Bool) : fin k (k.format.write (.infinity s)) = false := fin_inf k s

theorem fin_fadd {k : FloatKind} {x y : Nat} (h : fin k (fadd k x y) = true) : fin k x = true ∧ fin k y = true := by
  have h : fin k (((k.format.read x).sum (k.format.read y)).map k.format.write |>.getD (qnan k)) = true := h
  rcases rd_cases k x with ⟨hx, s, m, i, e1⟩ | ⟨hx, _, s, e1⟩ | ⟨hx, _, s, f, e1⟩ <;> rcases rd_cases k y with ⟨hy, t, n, j, e2⟩ | ⟨hy, _, t, e2⟩ | ⟨hy, _, t, g, e2⟩
  · exact ⟨hx, hy⟩
  all_goals
    rw [e1, e2] at h
    exfalso
    simp only [Ieee.Datum.sum] at h
    first
      | (rw [show (Option.map k.format.write (some (Ieee.Datum.infinity _))).getD (qnan k) = k.format.write (.infinity _) from rfl, fin_winf] at h; cases h; done)
      | (rw [show (Option.map k.format.write none).getD (qnan k) = qnan k from rfl, fin_qnan] at h; cases h; done)
      | (split at h
         · rw [show (Option.map k.format.write (some (Ieee.Datum.infinity _))).getD (qnan k) = k.format.write (.infinity _) from rfl, fin_winf] at h; cases h
         · rw [show (Option.map k.format.write none).getD (qnan k) = qnan k from rfl, fin_qnan] at h; cases h)

theorem fin_fsub {k : FloatKind} {x y : Nat} (h : fin k (fsub k x y) = true) : fin k x = true ∧ fin k y = true := by
  have h : fin k (((k.format.read x).sum (k.format.read y).opposite).map k.format.write |>.getD (qnan k)) = true := h
  rcases rd_cases k x with ⟨hx, s, m, i, e1⟩ | ⟨hx, _, s, e1⟩ | ⟨hx, _, s, f, e1⟩ <;> rcases rd_cases k y with ⟨hy, t, n, j, e2⟩ | ⟨hy, _, t, e2⟩ | ⟨hy, _, t, g, e2⟩
  · exact ⟨hx, hy⟩
  all_goals
    rw [e1, e2] at h
    exfalso
    simp only [Ieee.Datum.sum, Ieee.Datum.opposite] at h
    first
      | (rw [show (Option.map k.format.write (some (Ieee.Datum.infinity _))).getD (qnan k) = k.format.write (.infinity _) from rfl, fin_winf] at h; cases h; done)
      | (rw [show (Option.map k.format.write none).getD (qnan k) = qnan k from rfl, fin_qnan] at h; cases h; done)
      | (split at h
         · rw [show (Option.map k.format.write (some (Ieee.Datum.infinity _))).getD (qnan k) = k.format.write (.infinity _) from rfl, fin_winf] at h; cases h
         · rw [show (Option.map k.format.write none).getD (qnan k) = qnan k from rfl, fin_qnan] at h; cases h)

theorem fin_fmul {k : FloatKind} {x y : Nat} (h : fin k (fmul k x y) = true) : fin k x = true ∧ fin k y = true := by
  have h : fin k (((k.format.read x).product (k.format.read y)).map k.format.write |>.getD (qnan k)) = true := h
  rcases rd_cases k x with ⟨hx, s, m, i, e1⟩ | ⟨hx, _, s, e1⟩ | ⟨hx, _, s, f, e1⟩ <;> rcases rd_cases k y with ⟨hy, t, n, j, e2⟩ | ⟨hy, _, t, e2⟩ | ⟨hy, _, t, g, e2⟩
  · exact ⟨hx, hy⟩
  all_goals
    rw [e1, e2] at h
    exfalso
    simp only [Ieee.Datum.product] at h
    first
      | (rw [show (Option.map k.format.write (some (Ieee.Datum.infinity _))).getD (qnan k) = k.format.write (.infinity _) from rfl, fin_winf] at h; cases h; done)
      | (rw [show (Option.map k.format.write none).getD (qnan k) = qnan k from rfl, fin_qnan] at h; cases h; done)
      | (split at h
         · rw [show (Option.map k.format.write none).getD (qnan k) = qnan k from rfl, fin_qnan] at h; cases h
         · rw [show (Option.map k.format.write (some (Ieee.Datum.infinity _))).getD (qnan k) = k.format.write (.infinity _) from rfl, fin_winf] at h; cases h)

theorem fin_fdiv {k : FloatKind} {x y : Nat} (h : fin k (fdiv k x y) = true) : fin k x = true ∧ isNan k y = false := by
  have h : fin k (((k.format.read x).quotient (k.format.fractionBits + 2) (k.format.read y)).map k.format.write |>.getD (qnan k)) = true := h
  rcases rd_cases k x with ⟨hx, s, m, i, e1⟩ | ⟨hx, _, s, e1⟩ | ⟨hx, _, s, f, e1⟩ <;> rcases rd_cases k y with ⟨hy, t, n, j, e2⟩ | ⟨hy, ny, t, e2⟩ | ⟨hy, ny, t, g, e2⟩
  · exact ⟨hx, fin_not_nan hy⟩
  · exact ⟨hx, ny⟩
  all_goals
    rw [e1, e2] at h
    exfalso
    simp only [Ieee.Datum.quotient] at h
    first
      | (rw [show (Option.map k.format.write (some (Ieee.Datum.infinity _))).getD (qnan k) = k.format.write (.infinity _) from rfl, fin_winf] at h; cases h; done)
      | (rw [show (Option.map k.format.write none).getD (qnan k) = qnan k from rfl, fin_qnan] at h; cases h; done)

theorem fin_fsqrt {x : Nat} (h : fin .f64 (fsqrt x) = true) : fin .f64 x = true := by
  rcases rd_cases .f64 x with ⟨hx, _⟩ | ⟨_, hn, s, e1⟩ | ⟨_, hn, _⟩
  · exact hx
  · rw [fsqrt_inf] at h
    · cases h
    · rcases Nat.lt_trichotomy (rung FloatKind.f64.format x) FloatKind.f64.format.infRung with g | g | g
      · obtain ⟨m, e, h1, _⟩ := read_fin FloatKind.f64.format g
        rw [h1] at e1; cases e1
      · exact g
      · rw [isNan_iff] at hn; simp at hn; omega
  · rw [fsqrt_nan' hn] at h; cases h

theorem fin_cvt {s k : FloatKind} {x : Nat} (h : fin k (fcvt s k x) = true) : fin s x = true := by
  unfold fcvt at h
  split at h
  · rw [fin_qnan] at h; cases h
  · split at h
    · rename_i e; subst e; exact h
    · rcases rd_cases s x with ⟨hx, _⟩ | ⟨_, hn, t, e1⟩ | ⟨_, hn, _⟩
      · exact hx
      · have e : s.decode x = .infinity t := e1
        rw [e, fin_inf] at h; cases h
      · exact absurd hn (by assumption)

theorem fin_root {x : Nat} (h : fin .f32 (rootV x) = true) : fin .f32 x = true := by
  have := fin_fsqrt (fin_cvt h)
  rw [fin_wide] at this; exact this

theorem fin_fneg {k : FloatKind} {x : Nat} : fin k (fneg k x) = fin k x := by
  unfold fneg
  split
  · rename_i h
    rw [fin_qnan]
    cases hf : fin k x with
    | false => rfl
    | true => rw [fin_not_nan hf] at h; cases h
  · rename_i h
    unfold fin
    congr 1
    have e : k.format.signWeight = 2 ^ (k.format.exponentBits + k.format.fractionBits) := by cases k <;> decide
    have : (Op.negFloat k x) % k.format.signWeight = x % k.format.signWeight := by
      unfold Op.negFloat
      rw [e, Nat.xor_mod_two_pow, Nat.mod_self, Nat.xor_zero]
    rw [this]

end Go.Proofs.Ytdmcpgbnomhahaa
