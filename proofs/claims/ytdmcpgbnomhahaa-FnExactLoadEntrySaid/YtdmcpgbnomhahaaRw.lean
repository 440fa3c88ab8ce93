/-
  Rows that a law marks, looks at and compares: what is common. No conditions.
-/
import Derived.Test.YtdmcpgbnomhahaaLs
import Derived.Test.YtdmcpgbnomhahaaWr
import Derived.Test.YtdmcpgbnomhahaaFt
namespace Go.Proofs.Ytdmcpgbnomhahaa
set_option linter.unusedVariables false
set_option linter.unusedSimpArgs false
open Go.RowKit

def getTie : AV → Option Unit
  | .tie i j => if i = 0 ∧ j = 1 then some () else none
  | _ => none
theorem getTie_rel {a : AV} (h : getTie a = some ()) (ρ : Rho) (v : Value) (hv : a.rel ρ v) : (AV.tie 0 1).rel ρ v := by
  unfold getTie at h
  split at h
  · split at h
    · rename_i hk; obtain ⟨h1, h2⟩ := hk; subst h1; subst h2; exact hv
    · cases h
  · cases h
theorem T.holds_leaf {α : Type} {a : α} {Φ : α → Prop} (h : (T.leaf a).holds Φ) : Φ a := h
theorem slsu {id sz i n cap : Nat} {kn : Bool} {ρ : Rho} {v : Value} (h : n ≤ cap) (hv : (AV.one (.sl id sz i n cap kn)).rel ρ v) : (AV.one (.su id sz i n false)).rel ρ v := by
  obtain ⟨b, o, k1, k2⟩ := hv
  exact ⟨_, _, k2, h, fun _ => ⟨b, o, k1, rfl⟩⟩
theorem slargs {id sz i n cap : Nat} {kn : Bool} {ρ : Rho} {k : Int} {vals : List Value} (h : n ≤ cap) (hv : RelA ρ [.one (.sl id sz i n cap kn), .one (.int .i64 k)] vals) : RelA ρ [.one (.su id sz i n false), .one (.num .i64 k)] vals := by
  match vals, hv with
  | [u, v], hv => exact ⟨slsu h hv.1, hv.2.1, trivial⟩
theorem suargs {id sz i n : Nat} {kn : Bool} {ρ : Rho} {k : Int} {vals : List Value} (hv : RelA ρ [.one (.su id sz i n kn), .one (.int .i64 k)] vals) : RelA ρ [.one (.su id sz i n false), .one (.num .i64 k)] vals := by
  match vals, hv with
  | [u, v], hv => exact ⟨hv.1, hv.2.1, trivial⟩
theorem nan_fint (k : FloatKind) (n : Int) : isNan k (fint k n) = false := by
  unfold fint FloatKind.nearest
  exact encode_not k rfl
theorem held_fl {x : Nat} {a b : Int} (h : x = fint .f32 a) (hab : b = a) : ¬ ((!feq .f32 x (fint .f32 b)) = true) := by
  rw [h, hab, feq_self, nan_fint]
  simp
theorem fillG_keep {A B : Type} (g : Nat → A → A) (p : A → Nat → B) (hg : ∀ j a q, q ≠ j → p (g j a) q = p a q) : ∀ (c s : Nat) (a : A) (q : Nat), q < s ∨ s + c ≤ q → p (iter g c s a) q = p a q
  | 0, _, _, _, _ => rfl
  | c + 1, s, a, q, h => by
    show p (iter g c (s + 1) (g s a)) q = _
    rw [fillG_keep g p hg c (s + 1) (g s a) q (by omega), hg s a q (by omega)]
theorem fillG {A B : Type} (g : Nat → A → A) (p : A → Nat → B) (h : Nat → B) (hk : ∀ j a q, q ≠ j → p (g j a) q = p a q) (hg : ∀ j a, p (g j a) j = h j) : ∀ (c s : Nat) (a : A) (q : Nat), s ≤ q → q < s + c → p (iter g c s a) q = h q
  | 0, s, _, q, h1, h2 => by omega
  | c + 1, s, a, q, h1, h2 => by
    show p (iter g c (s + 1) (g s a)) q = _
    by_cases hq : q = s
    · subst hq
      rw [fillG_keep g p hk c (q + 1) (g q a) q (by omega), hg]
    · exact fillG g p h hk hg c (s + 1) (g s a) q (by omega) (by omega)

end Go.Proofs.Ytdmcpgbnomhahaa
