/-
  FnExactLongestPass: for all arguments, the program answers as the reference does. No conditions.
-/
import Derived.Test.YtkjggmfblkkopaaLo
import Derived.Test.YtkjggmfblkkopaaRows
import Derived.Test.YtkjggmfblkkopaaRo
import Derived.Test.YtkjggmfblkkopaaRs
namespace Go.Proofs.Ytkjggmfblkkopaa.fnExactLongestPass
set_option linter.unusedVariables false
set_option linter.unusedSimpArgs false
open Go.RowKit Go.ChangeShapes Go.WideShapes

theorem own : ownKnob Try.prog.godebug = none := by kernel_rfl
theorem laidOut : laidOutB Try.prog = true := by kernel_rfl

noncomputable def k_law : Ctr Try.prog := mkC Try.prog mix [k_toBoolS, k_sLp, k_iLp, k_eqBoolS] 14 Try.f14 (bodyOf Try.f14) Try.func14 (by kernel_rfl) (by kernel_rfl) []

theorem tree_r (n0 cap0 : Nat)  (c0_0 : Nat → Bool) : k_law.run [.one (.sl 0 1 0 n0 cap0 false)] [some (.cols n0 [.bo c0_0])] =
    (T.ite (decide (1048576 < (↑n0 : Int))) (T.leaf (AV.one (SV.tt true), [])) (T.need (decide (n0 ≤ 1048576)) (T.need (decide (n0 ≤ n0)) (T.need (decide (n0 ≤ n0)) (T.need (decide (n0 ≤ n0)) (T.need (decide (n0 ≤ 1048576)) (T.need (decide (n0 ≤ n0)) (T.need (decide (n0 ≤ n0)) (T.need (decide (n0 ≤ n0)) (T.ite (!decide
                        ((bif decide (64 < (↑n0 : Int)) then 0
                          else bif decide ((lpAll n0 c0_0).2.1 = 0) then 0 else (lpAll n0 c0_0).1) =
                          bif decide (64 < (↑n0 : Int)) then 0
                          else bif decide ((lpAll n0 c0_0).2.1 = 0) then 0 else (lpAll n0 c0_0).1)) (T.leaf (AV.one (SV.tt false), [])) (T.ite (!decide
                          ((bif decide (64 < (↑n0 : Int)) then 0
                            else bif decide ((lpAll n0 c0_0).2.1 = 0) then 0 else (lpAll n0 c0_0).2.1) =
                            bif decide (64 < (↑n0 : Int)) then 0
                            else bif decide ((lpAll n0 c0_0).2.1 = 0) then 0 else (lpAll n0 c0_0).2.1)) (T.leaf (AV.one (SV.tt false), [])) (T.ite ((bif decide (64 < (↑n0 : Int)) then false else !decide ((lpAll n0 c0_0).2.1 = 0)) !=
                          bif decide (64 < (↑n0 : Int)) then false else !decide ((lpAll n0 c0_0).2.1 = 0)) (T.leaf (AV.one (SV.tt false), [])) (T.need (decide (n0 ≤ 1048576)) (T.need (decide (n0 ≤ n0)) (T.need (cdecEqBb
                                { n := n0, cap := n0, m := n0, f0 := c0_0, n' := n0, cap' := n0, m' := n0, g0 := c0_0,
                                  i := 0 }) (T.leaf (AV.one (SV.tt true), []))))))))))))))))) := by kernel_rfl

theorem any_r (n0 cap0 : Nat) (hn0 : n0 ≤ 9223372036854775807) (c0_0 : Nat → Bool) : Yes k_law [.one (.sl 0 1 0 n0 cap0 false)] [some (.cols n0 [.bo c0_0])] := by
  constructor
  rw [tree_r]
  exact T.h_ite (fun hc0 => T.h_leaf (.inl rfl)) (fun hc0 => have h20 : n0 ≤ 1048576 := by { have := of_decide_eq_false hc0; omega }; T.h_need (decide_eq_true (by omega)) (T.h_need (decide_eq_true (Nat.le_refl _)) (T.h_need (decide_eq_true (Nat.le_refl _)) (T.h_need (decide_eq_true (Nat.le_refl _)) (T.h_need (decide_eq_true (by omega)) (T.h_need (decide_eq_true (Nat.le_refl _)) (T.h_need (decide_eq_true (Nat.le_refl _)) (T.h_need (decide_eq_true (Nat.le_refl _)) (T.h_ite (fun hc1 => absurd hc1 (by simp)) (fun hc1 => T.h_ite (fun hc2 => absurd hc2 (by simp)) (fun hc2 => T.h_ite (fun hc3 => absurd hc3 (by simp)) (fun hc3 => T.h_need (decide_eq_true (by omega)) (T.h_need (decide_eq_true (Nat.le_refl _)) (T.h_need (cdecEqBb_mk ⟨by simp, rfl, by simp, by show n0 ≤ 1099511627776; omega, Nat.zero_le _, fun _ _ => rfl⟩) (T.h_leaf (.inl rfl))))))))))))))))

theorem tree_n  : k_law.run [.one (.val (.slice none 0 0))] [] =
    (T.need (true) (T.need (true) (T.need (true) (T.need (true) (T.ite (!decide
              ((bif decide (64 < (↑0 : Int)) then 0
                else bif decide ((lpAll 0 fun x => false).2.1 = 0) then 0 else (lpAll 0 fun x => false).1) =
                bif decide (64 < (↑0 : Int)) then 0
                else bif decide ((lpAll 0 fun x => false).2.1 = 0) then 0 else (lpAll 0 fun x => false).1)) (T.leaf (AV.one (SV.tt false), [])) (T.ite (!decide
                ((bif decide (64 < (↑0 : Int)) then 0
                  else bif decide ((lpAll 0 fun x => false).2.1 = 0) then 0 else (lpAll 0 fun x => false).2.1) =
                  bif decide (64 < (↑0 : Int)) then 0
                  else bif decide ((lpAll 0 fun x => false).2.1 = 0) then 0 else (lpAll 0 fun x => false).2.1)) (T.leaf (AV.one (SV.tt false), [])) (T.ite ((bif decide (64 < (↑0 : Int)) then false else !decide ((lpAll 0 fun x => false).2.1 = 0)) !=
                bif decide (64 < (↑0 : Int)) then false else !decide ((lpAll 0 fun x => false).2.1 = 0)) (T.leaf (AV.one (SV.tt false), [])) (T.need (cdecEqBb
                  { n := 0, cap := 0, m := 0, f0 := fun x => false, n' := 0, cap' := 0, m' := 0, g0 := fun x => false,
                    i := 0 }) (T.leaf (AV.one (SV.tt true), [])))))))))) := by kernel_rfl

theorem any_n  : Yes k_law [.one (.val (.slice none 0 0))] [] := by
  constructor
  rw [tree_n]
  exact T.h_need rfl (T.h_need rfl (T.h_need rfl (T.h_need rfl (T.h_ite (fun hc0 => absurd hc0 (by simp)) (fun hc0 => T.h_ite (fun hc1 => absurd hc1 (by simp)) (fun hc1 => T.h_ite (fun hc2 => absurd hc2 (by simp)) (fun hc2 => T.h_need (cdecEqBb_mk ⟨by simp, rfl, by simp, by show 0 ≤ 1099511627776; omega, Nat.zero_le _, fun _ _ => rfl⟩) (T.h_leaf (.inl rfl)))))))))

set_option maxRecDepth 100000 in
theorem lifted (os : Os) (started : os.Started) (H : Type) (enc : TypeId × Value → H) :
    ReturnsInHanded {} Try.checked os 14 .any (Rows.fnExactLongestPassSpec.pre6 enc Try.prog Try.f14 Rows.fnExactLongestPassRow.domain false) (Rows.fnExactLongestPassSpec.post enc Try.prog Try.f14 false true false false) := by
  refine returnsInHanded_of_change (C := Try.checked) own started (by kernel_rfl) Try.func14
    (ChangeSpec.witness6 (enc := enc) (C := Try.checked) false ⟨#[], #[.slice none 0 0], []⟩ 8 (by kernel_rfl) (by kernel_rfl) (by kernel_rfl) (by kernel_rfl)) ?_
  intro W base args ds gs before hval0 hW _ _
  have hval : ∀ (j : Nat) t v, Try.f14.params[j]? = some t → args[j]? = some v → Value.okWide Try.prog W .any base t v := hval0
  refine post_true (P := Try.prog) (s := Rows.fnExactLongestPassSpec) (fn := Try.f14) (tb := 4) rfl laidOut (by kernel_rfl) (by kernel_rfl) Try.underlying4 (fun ds hlen => ?_) hW ?_
  · have hlen : ds.length = 1 := hlen.trans (by kernel_rfl)
    match ds, hlen with
    | [d0], _ => rfl
  · obtain ⟨p, q, hA0, hV, rfl, hfz, hnd⟩ := hW
    have hA : DataW.TrodAll enc Try.prog W 0 (fun _ => true) true Try.f14.params.toList args.toList ds p := hA0
    rw [Try.params14] at hA hval
    obtain ⟨v0, vs0, d0, ds0, p0, q0, hargs0, rfl, rfl, k0, r0⟩ := trodAll_cons hA
    obtain ⟨rfl, rfl, rfl⟩ := trodAll_nil r0
    obtain rfl : args = #[v0] := by cases args; simp_all
    have op0 := open_row (P := Try.prog) (n := 4) (ks := [.bo]) Try.underlying63 (by kernel_rfl) rfl (by kernel_rfl) (hval 0 63 v0 rfl rfl) k0
    rcases op0 with rfl | ⟨b0, o0, len0, cap0, rfl, hl0, bk0⟩
    · skip
      have hra : RelA (fun _ => none) [.one (.val (.slice none 0 0))] (#[.slice none 0 0] : Array Value).toList := ⟨⟨rfl, rfl⟩, trivial⟩
      exact calls_of_ctr (P := Try.prog) k_law (f := 14) (by kernel_rfl) Try.func14 (by kernel_rfl) (root := bodyOf Try.f14) (by kernel_rfl) (ρ := (fun _ => none)) (memOK_nil W) hra (any_n )
    · have hlen0 : len0 ≤ 9223372036854775807 := by have e : maxLen = 9223372036854775807 := rfl; omega
      have hra : RelA (rho1 b0 o0) [.one (.sl 0 1 0 len0 cap0 false)] (#[.slice (some ⟨b0, o0, none⟩) len0 cap0] : Array Value).toList := ⟨⟨b0, o0, rfl, by simp⟩, trivial⟩
      exact calls_of_ctr (P := Try.prog) k_law (f := 14) (by kernel_rfl) Try.func14 (by kernel_rfl) (root := bodyOf Try.f14) (by kernel_rfl) (ρ := (rho1 b0 o0)) (memOK_one bk0) hra (any_r len0 cap0 hlen0 _)

theorem holds : Rows.FnExactLongestPassSaid :=
  OpenClaim.holds_of_wide 14 Try.f14 rfl rfl rfl rfl rfl rfl rfl ⟨rfl, rfl, rfl, rfl, rfl⟩ rfl rfl rfl rfl rfl (by kernel_rfl) Try.func14 (by kernel_rfl)
    (of_decide_eq_true (by kernel_rfl)) (by unfold Func.isWrapper; first | (rw [if_pos (by decide +kernel)]; kernel_rfl) | (rw [if_neg (by decide +kernel)]; exact ⟨rfl, rfl⟩))
    (fun os started H enc _ => lifted os started H enc)

end Go.Proofs.Ytkjggmfblkkopaa.fnExactLongestPass
