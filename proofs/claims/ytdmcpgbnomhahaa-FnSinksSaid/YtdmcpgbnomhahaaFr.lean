/-
  Floats made whole: floor and trunc, as contracts and as numbers. No conditions.
-/
import Derived.Test.YtdmcpgbnomhahaaFi
namespace Go.Proofs.Ytdmcpgbnomhahaa
set_option linter.unusedVariables false
set_option linter.unusedSimpArgs false
open Go.RowKit

def fintg (w : Ieee.Toward) (x : Nat) : Nat := if isNan .f64 x then qnan .f64 else FloatKind.f64.encode ((FloatKind.f64.decode x).integral w)

def intgRun (w : Ieee.Toward) : List AV → T AV
  | [.one (.fl .f64 x)] => .leaf (.one (.fl .f64 (fintg w x)))
  | _ => .fail

theorem quiet_nan (s : Bool) (t : Nat) : isNan .f64 (FloatKind.f64.encode (.nan s (FloatKind.f64.format.quiet t))) = true := by
  have hlt : FloatKind.f64.format.quiet t % FloatKind.f64.format.binade < 2 ^ 52 := Nat.mod_lt _ (by decide)
  have hpos : 0 < FloatKind.f64.format.quiet t % FloatKind.f64.format.binade := by
    rcases Nat.eq_zero_or_pos (FloatKind.f64.format.quiet t % FloatKind.f64.format.binade) with h | h
    · exfalso
      have e : (t ||| 2 ^ 51) % 2 ^ 52 = 0 := h
      have h2 : ((t ||| 2 ^ 51) % 2 ^ 52).testBit 51 = false := by rw [e]; exact Nat.zero_testBit 51
      rw [Nat.testBit_mod_two_pow, Nat.testBit_or, Nat.testBit_two_pow_self] at h2
      simp at h2
    · exact h
  rw [isNan_iff]
  refine decide_eq_true ?_
  show FloatKind.f64.format.infRung < rung FloatKind.f64.format (FloatKind.f64.format.word s (FloatKind.f64.format.infRung + FloatKind.f64.format.quiet t % FloatKind.f64.format.binade))
  generalize FloatKind.f64.format.quiet t % FloatKind.f64.format.binade = r at *
  have e1 : FloatKind.f64.format.signWeight = 2 ^ 63 := by decide
  have e3 : FloatKind.f64.format.infRung = 0x7ff0000000000000 := by decide
  unfold rung Ieee.Format.word
  rw [e1, e3]
  split <;> omega

theorem toIntegral_eq (name : String) (way : Ieee.Toward) (x : Nat) : Extern.MathFloor.toIntegral name way #[.float .f64 x] = (match FloatKind.f64.decode x with
    | .nan s t =>
      if FloatKind.f64.format.quiet t = t then pure (.float .f64 x) else do
      let kept ← choose (.extern "math.Floor,Ceil,Trunc,RoundToEven.signallingNaN kept" 2)
      pure (.float .f64 (if kept == 1 then x else FloatKind.f64.encode (.nan s (FloatKind.f64.format.quiet t))))
    | d => pure (.float .f64 (FloatKind.f64.encode (d.integral way)))) := rfl

theorem intg_ok {P : Program} (name : String) (way : Ieee.Toward) (ρ : Rho) (w : World) (args : List AV) (vals : Array Value) (h : RelA ρ args vals.toList) : PureOK P ρ w (Extern.MathFloor.toIntegral name way vals) (intgRun way args) := by
  unfold intgRun
  split <;> try exact .fail
  rename_i x
  obtain ⟨v, rfl, b, rfl, hb⟩ := one_val h
  by_cases hn : isNan .f64 b = true
  · obtain ⟨s, t, hd⟩ := decode_nan hn
    have hd' : FloatKind.f64.decode b = .nan s t := hd
    have hx : fintg way x = qnan .f64 := by unfold fintg; rw [if_pos (by rw [← hb.isNan_eq]; exact hn)]
    by_cases hq : FloatKind.f64.format.quiet t = t
    · refine .leaf (v := .float .f64 b) ?_ ⟨b, rfl, hb.1, by rw [hx]; exact canon_nan hn⟩
      rw [toIntegral_eq, hd']
      show Sem.run P (if FloatKind.f64.format.quiet t = t then _ else _) w = _
      rw [if_pos hq]; rfl
    · refine .leaf' ⟨.float .f64 (if (Question.extern "math.Floor,Ceil,Trunc,RoundToEven.signallingNaN kept" 2).cut (w.tape w.drawn (.extern "math.Floor,Ceil,Trunc,RoundToEven.signallingNaN kept" 2)) == 1 then b else FloatKind.f64.encode (.nan s (FloatKind.f64.format.quiet t))), w.drew, ?_, ?_, .inr rfl⟩
      · rw [toIntegral_eq, hd']
        show Sem.run P (if FloatKind.f64.format.quiet t = t then _ else _) w = _
        rw [if_neg hq]; rfl
      · split
        · exact ⟨b, rfl, hb.1, by rw [hx]; exact canon_nan hn⟩
        · exact ⟨_, rfl, FloatKind.f64.format.write_lt _, by rw [hx]; exact canon_nan (quiet_nan s t)⟩
  · have hn' : isNan .f64 b = false := by simpa using hn
    have e : b = x := hb.not (by rw [← hb.isNan_eq]; exact hn')
    subst e
    have hx : fintg way b = FloatKind.f64.encode ((FloatKind.f64.decode b).integral way) := by unfold fintg; rw [if_neg hn]
    have hi : ((FloatKind.f64.decode b).integral way).isNaN = false := by
      have : (FloatKind.f64.decode b).isNaN = false := hn'
      cases hd : FloatKind.f64.decode b with
      | nan s t => rw [hd] at this; cases this
      | infinity s => rfl
      | number s m e => rfl
    refine .leaf (v := .float .f64 (FloatKind.f64.encode ((FloatKind.f64.decode b).integral way))) ?_ ⟨_, rfl, by rw [hx]; exact encode_flIs .f64 hi⟩
    rw [toIntegral_eq]
    cases hd : FloatKind.f64.decode b with
    | nan s t => have : (FloatKind.f64.decode b).isNaN = false := hn'; rw [hd] at this; cases this
    | infinity s => rfl
    | number s m e => rfl

theorem floor_ok {P : Program} (ρ : Rho) (w : World) (args : List AV) (vals : Array Value) (h : RelA ρ args vals.toList) : PureOK P ρ w (Extern.MathFloor.toIntegral "math.archFloor" .down vals) (intgRun .down args) := intg_ok _ _ ρ w args vals h
theorem trunc_ok {P : Program} (ρ : Rho) (w : World) (args : List AV) (vals : Array Value) (h : RelA ρ args vals.toList) : PureOK P ρ w (Extern.MathFloor.toIntegral "math.archTrunc" .zero vals) (intgRun .zero args) := intg_ok _ _ ρ w args vals h

noncomputable def k_Inf : Ctr Try.prog := mkC Try.prog mix [k_f64from] 111 Try.f111 (bodyOf Try.f111) Try.func111 (by kernel_rfl) (by kernel_rfl) []

end Go.Proofs.Ytdmcpgbnomhahaa
