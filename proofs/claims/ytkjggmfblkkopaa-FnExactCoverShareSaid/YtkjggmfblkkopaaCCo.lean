/-
  FnExactCoverShare: for all arguments, the program answers as the reference does. No conditions.
-/
import Derived.Test.YtkjggmfblkkopaaCo
import Derived.Test.YtkjggmfblkkopaaEq
import Derived.Test.YtkjggmfblkkopaaRows
import Derived.Test.YtkjggmfblkkopaaRo
import Derived.Test.YtkjggmfblkkopaaRs
namespace Go.Proofs.Ytkjggmfblkkopaa.fnExactCoverShare
set_option linter.unusedVariables false
set_option linter.unusedSimpArgs false
open Go.RowKit Go.ChangeShapes Go.WideShapes

theorem own : ownKnob Try.prog.godebug = none := by kernel_rfl
theorem laidOut : laidOutB Try.prog = true := by kernel_rfl

noncomputable def k_law : Ctr Try.prog := mkC Try.prog mix [k_toBoolS, k_sCo, k_iCo, k_sameFloat, k_eqBoolS] 12 Try.f12 (bodyOf Try.f12) Try.func12 (by kernel_rfl) (by kernel_rfl) []

theorem tree_r (n0 cap0 : Nat)  (c0_0 : Nat → Bool) (v1_0 : Int)  (v2_0 : Int)  : k_law.run [.one (.sl 0 1 0 n0 cap0 false), .one (.num .i64 v1_0), .one (.num .i64 v2_0)] [some (.cols n0 [.bo c0_0])] =
    (T.ite (decide (1048576 < (↑n0 : Int))) (T.leaf (AV.one (SV.tt true), [])) (T.need (decide (n0 ≤ 1048576)) (T.need (decide (n0 ≤ n0)) (T.need (decide (n0 ≤ n0)) (T.need (decide (n0 ≤ n0)) (T.need (decide (n0 ≤ 1048576)) (T.need (decide (n0 ≤ n0)) (T.need (decide (n0 ≤ n0)) (T.need (decide (n0 ≤ n0)) (T.need (decide
                      (fcvt FloatKind.f32 FloatKind.f64
                          (bif
                              bif
                                  !bif bif decide (1 ≤ v1_0) then decide (v1_0 ≤ 16) else false then
                                      bif decide (1 ≤ v2_0) then decide (v2_0 ≤ 16) else false
                                    else false then
                                true
                              else !decide (↑n0 = IntKind.i64.wrap (v1_0 * v2_0)) then
                            canon FloatKind.f32 0
                          else
                            bif
                                !fin FloatKind.f32
                                    (fdiv FloatKind.f32 (coAll n0 c0_0 v1_0 v2_0).1 (coAll n0 c0_0 v1_0 v2_0).2) then
                              canon FloatKind.f32 0
                            else fdiv FloatKind.f32 (coAll n0 c0_0 v1_0 v2_0).1 (coAll n0 c0_0 v1_0 v2_0).2) =
                        fcvt FloatKind.f32 FloatKind.f64
                          (bif
                              bif
                                  !bif bif decide (1 ≤ v1_0) then decide (v1_0 ≤ 16) else false then
                                      bif decide (1 ≤ v2_0) then decide (v2_0 ≤ 16) else false
                                    else false then
                                true
                              else !decide (↑n0 = IntKind.i64.wrap (v1_0 * v2_0)) then
                            canon FloatKind.f32 0
                          else
                            bif
                                !fin FloatKind.f32
                                    (fdiv FloatKind.f32 (coAll n0 c0_0 v1_0 v2_0).1 (coAll n0 c0_0 v1_0 v2_0).2) then
                              canon FloatKind.f32 0
                            else fdiv FloatKind.f32 (coAll n0 c0_0 v1_0 v2_0).1 (coAll n0 c0_0 v1_0 v2_0).2))) (T.ite ((bif
                            bif
                                !bif bif decide (1 ≤ v1_0) then decide (v1_0 ≤ 16) else false then
                                    bif decide (1 ≤ v2_0) then decide (v2_0 ≤ 16) else false
                                  else false then
                              true
                            else !decide (↑n0 = IntKind.i64.wrap (v1_0 * v2_0)) then
                          false
                        else
                          !!fin FloatKind.f32
                                (fdiv FloatKind.f32 (coAll n0 c0_0 v1_0 v2_0).1 (coAll n0 c0_0 v1_0 v2_0).2)) !=
                        bif
                            bif
                                !bif bif decide (1 ≤ v1_0) then decide (v1_0 ≤ 16) else false then
                                    bif decide (1 ≤ v2_0) then decide (v2_0 ≤ 16) else false
                                  else false then
                              true
                            else !decide (↑n0 = IntKind.i64.wrap (v1_0 * v2_0)) then
                          false
                        else
                          !!fin FloatKind.f32
                                (fdiv FloatKind.f32 (coAll n0 c0_0 v1_0 v2_0).1 (coAll n0 c0_0 v1_0 v2_0).2)) (T.leaf (AV.one (SV.tt false), [])) (T.need (decide (n0 ≤ 1048576)) (T.need (decide (n0 ≤ n0)) (T.need (cdecEqBb
                              { n := n0, cap := n0, m := n0, f0 := c0_0, n' := n0, cap' := n0, m' := n0, g0 := c0_0,
                                i := 0 }) (T.leaf (AV.one (SV.tt true), [])))))))))))))))) := by kernel_rfl

theorem any_r (n0 cap0 : Nat) (hn0 : n0 ≤ 9223372036854775807) (c0_0 : Nat → Bool) (v1_0 : Int) (hv1_0 : (Lit.int .i64 v1_0).wf = true) (v2_0 : Int) (hv2_0 : (Lit.int .i64 v2_0).wf = true) : Yes k_law [.one (.sl 0 1 0 n0 cap0 false), .one (.num .i64 v1_0), .one (.num .i64 v2_0)] [some (.cols n0 [.bo c0_0])] := by
  constructor
  rw [tree_r]
  exact T.h_ite (fun hc0 => T.h_leaf (.inl rfl)) (fun hc0 => have h20 : n0 ≤ 1048576 := by { have := of_decide_eq_false hc0; omega }; T.h_need (decide_eq_true (by omega)) (T.h_need (decide_eq_true (Nat.le_refl _)) (T.h_need (decide_eq_true (Nat.le_refl _)) (T.h_need (decide_eq_true (Nat.le_refl _)) (T.h_need (decide_eq_true (by omega)) (T.h_need (decide_eq_true (Nat.le_refl _)) (T.h_need (decide_eq_true (Nat.le_refl _)) (T.h_need (decide_eq_true (Nat.le_refl _)) (T.h_need (decide_eq_true rfl) (T.h_ite (fun hc1 => absurd hc1 (by simp)) (fun hc1 => T.h_need (decide_eq_true (by omega)) (T.h_need (decide_eq_true (Nat.le_refl _)) (T.h_need (cdecEqBb_mk ⟨by simp, rfl, by simp, by show n0 ≤ 1099511627776; omega, Nat.zero_le _, fun _ _ => rfl⟩) (T.h_leaf (.inl rfl)))))))))))))))

theorem tree_n (v1_0 : Int)  (v2_0 : Int)  : k_law.run [.one (.val (.slice none 0 0)), .one (.num .i64 v1_0), .one (.num .i64 v2_0)] [] =
    (T.need (true) (T.need (true) (T.need (true) (T.need (true) (T.need (decide
            (fcvt FloatKind.f32 FloatKind.f64
                (bif
                    bif
                        !bif bif decide (1 ≤ v1_0) then decide (v1_0 ≤ 16) else false then
                            bif decide (1 ≤ v2_0) then decide (v2_0 ≤ 16) else false
                          else false then
                      true
                    else !decide (↑0 = IntKind.i64.wrap (v1_0 * v2_0)) then
                  canon FloatKind.f32 0
                else
                  bif
                      !fin FloatKind.f32
                          (fdiv FloatKind.f32 (coAll 0 (fun x => false) v1_0 v2_0).1
                            (coAll 0 (fun x => false) v1_0 v2_0).2) then
                    canon FloatKind.f32 0
                  else
                    fdiv FloatKind.f32 (coAll 0 (fun x => false) v1_0 v2_0).1 (coAll 0 (fun x => false) v1_0 v2_0).2) =
              fcvt FloatKind.f32 FloatKind.f64
                (bif
                    bif
                        !bif bif decide (1 ≤ v1_0) then decide (v1_0 ≤ 16) else false then
                            bif decide (1 ≤ v2_0) then decide (v2_0 ≤ 16) else false
                          else false then
                      true
                    else !decide (↑0 = IntKind.i64.wrap (v1_0 * v2_0)) then
                  canon FloatKind.f32 0
                else
                  bif
                      !fin FloatKind.f32
                          (fdiv FloatKind.f32 (coAll 0 (fun x => false) v1_0 v2_0).1
                            (coAll 0 (fun x => false) v1_0 v2_0).2) then
                    canon FloatKind.f32 0
                  else
                    fdiv FloatKind.f32 (coAll 0 (fun x => false) v1_0 v2_0).1 (coAll 0 (fun x => false) v1_0 v2_0).2))) (T.ite ((bif
                  bif
                      !bif bif decide (1 ≤ v1_0) then decide (v1_0 ≤ 16) else false then
                          bif decide (1 ≤ v2_0) then decide (v2_0 ≤ 16) else false
                        else false then
                    true
                  else !decide (↑0 = IntKind.i64.wrap (v1_0 * v2_0)) then
                false
              else
                !!fin FloatKind.f32
                      (fdiv FloatKind.f32 (coAll 0 (fun x => false) v1_0 v2_0).1
                        (coAll 0 (fun x => false) v1_0 v2_0).2)) !=
              bif
                  bif
                      !bif bif decide (1 ≤ v1_0) then decide (v1_0 ≤ 16) else false then
                          bif decide (1 ≤ v2_0) then decide (v2_0 ≤ 16) else false
                        else false then
                    true
                  else !decide (↑0 = IntKind.i64.wrap (v1_0 * v2_0)) then
                false
              else
                !!fin FloatKind.f32
                      (fdiv FloatKind.f32 (coAll 0 (fun x => false) v1_0 v2_0).1
                        (coAll 0 (fun x => false) v1_0 v2_0).2)) (T.leaf (AV.one (SV.tt false), [])) (T.need (cdecEqBb
                { n := 0, cap := 0, m := 0, f0 := fun x => false, n' := 0, cap' := 0, m' := 0, g0 := fun x => false,
                  i := 0 }) (T.leaf (AV.one (SV.tt true), []))))))))) := by kernel_rfl

theorem any_n (v1_0 : Int) (hv1_0 : (Lit.int .i64 v1_0).wf = true) (v2_0 : Int) (hv2_0 : (Lit.int .i64 v2_0).wf = true) : Yes k_law [.one (.val (.slice none 0 0)), .one (.num .i64 v1_0), .one (.num .i64 v2_0)] [] := by
  constructor
  rw [tree_n]
  exact T.h_need rfl (T.h_need rfl (T.h_need rfl (T.h_need rfl (T.h_need (decide_eq_true rfl) (T.h_ite (fun hc0 => absurd hc0 (by simp)) (fun hc0 => T.h_need (cdecEqBb_mk ⟨by simp, rfl, by simp, by show 0 ≤ 1099511627776; omega, Nat.zero_le _, fun _ _ => rfl⟩) (T.h_leaf (.inl rfl))))))))

set_option maxRecDepth 100000 in
theorem lifted (os : Os) (started : os.Started) (H : Type) (enc : TypeId × Value → H) :
    ReturnsInHanded {} Try.checked os 12 .any (Rows.fnExactCoverShareSpec.pre6 enc Try.prog Try.f12 Rows.fnExactCoverShareRow.domain false) (Rows.fnExactCoverShareSpec.post enc Try.prog Try.f12 false true false false) := by
  refine returnsInHanded_of_change (C := Try.checked) own started (by kernel_rfl) Try.func12
    (ChangeSpec.witness6 (enc := enc) (C := Try.checked) false ⟨#[], #[.slice none 0 0, .int .i64 0, .int .i64 0], []⟩ 8 (by kernel_rfl) (by kernel_rfl) (by kernel_rfl) (by kernel_rfl)) ?_
  intro W base args ds gs before hval0 hW _ _
  have hval : ∀ (j : Nat) t v, Try.f12.params[j]? = some t → args[j]? = some v → Value.okWide Try.prog W .any base t v := hval0
  refine post_true (P := Try.prog) (s := Rows.fnExactCoverShareSpec) (fn := Try.f12) (tb := 4) rfl laidOut (by kernel_rfl) (by kernel_rfl) Try.underlying4 (fun ds hlen => ?_) hW ?_
  · have hlen : ds.length = 3 := hlen.trans (by kernel_rfl)
    match ds, hlen with
    | [d0, d1, d2], _ => rfl
  · obtain ⟨p, q, hA0, hV, rfl, hfz, hnd⟩ := hW
    have hA : DataW.TrodAll enc Try.prog W 0 (fun _ => true) true Try.f12.params.toList args.toList ds p := hA0
    rw [Try.params12] at hA hval
    obtain ⟨v0, vs0, d0, ds0, p0, q0, hargs0, rfl, rfl, k0, r0⟩ := trodAll_cons hA
    obtain ⟨v1, vs1, d1, ds1, p1, q1, hargs1, rfl, rfl, k1, r1⟩ := trodAll_cons r0
    obtain ⟨v2, vs2, d2, ds2, p2, q2, hargs2, rfl, rfl, k2, r2⟩ := trodAll_cons r1
    obtain ⟨rfl, rfl, rfl⟩ := trodAll_nil r2
    subst hargs2
    subst hargs1
    obtain rfl : args = #[v0, v1, v2] := by cases args; simp_all
    have op0 := open_row (P := Try.prog) (n := 4) (ks := [.bo]) Try.underlying63 (by kernel_rfl) rfl (by kernel_rfl) (hval 0 63 v0 rfl rfl) k0
    obtain ⟨s1, a1, b1⟩ := open_cell (P := Try.prog) (n := 4) (k := .num .i64) (fun _ => none) (by rw [Try.underlying2]) (by kernel_rfl) rfl (hval 1 2 v1 rfl rfl) k1
    obtain ⟨v1_0, _, e1, hv1_0, rfl⟩ := b1
    obtain rfl : s1 = .num .i64 v1_0 := (List.cons.inj e1).1
    obtain ⟨s2, a2, b2⟩ := open_cell (P := Try.prog) (n := 4) (k := .num .i64) (fun _ => none) (by rw [Try.underlying2]) (by kernel_rfl) rfl (hval 2 2 v2 rfl rfl) k2
    obtain ⟨v2_0, _, e2, hv2_0, rfl⟩ := b2
    obtain rfl : s2 = .num .i64 v2_0 := (List.cons.inj e2).1
    rcases op0 with rfl | ⟨b0, o0, len0, cap0, rfl, hl0, bk0⟩
    · skip
      have hra : RelA (fun _ => none) [.one (.val (.slice none 0 0)), .one (.num .i64 v1_0), .one (.num .i64 v2_0)] (#[.slice none 0 0, v1, v2] : Array Value).toList := ⟨⟨rfl, rfl⟩, (av_any (ρ := fun _ => none) rfl a1), (av_any (ρ := fun _ => none) rfl a2), trivial⟩
      exact calls_of_ctr (P := Try.prog) k_law (f := 12) (by kernel_rfl) Try.func12 (by kernel_rfl) (root := bodyOf Try.f12) (by kernel_rfl) (ρ := (fun _ => none)) (memOK_nil W) hra (any_n v1_0 hv1_0 v2_0 hv2_0)
    · have hlen0 : len0 ≤ 9223372036854775807 := by have e : maxLen = 9223372036854775807 := rfl; omega
      have hra : RelA (rho1 b0 o0) [.one (.sl 0 1 0 len0 cap0 false), .one (.num .i64 v1_0), .one (.num .i64 v2_0)] (#[.slice (some ⟨b0, o0, none⟩) len0 cap0, v1, v2] : Array Value).toList := ⟨⟨b0, o0, rfl, by simp⟩, (av_any (ρ := fun _ => none) rfl a1), (av_any (ρ := fun _ => none) rfl a2), trivial⟩
      exact calls_of_ctr (P := Try.prog) k_law (f := 12) (by kernel_rfl) Try.func12 (by kernel_rfl) (root := bodyOf Try.f12) (by kernel_rfl) (ρ := (rho1 b0 o0)) (memOK_one bk0) hra (any_r len0 cap0 hlen0 _ v1_0 hv1_0 v2_0 hv2_0)

theorem holds : Rows.FnExactCoverShareSaid :=
  OpenClaim.holds_of_wide 12 Try.f12 rfl rfl rfl rfl rfl rfl rfl ⟨rfl, rfl, rfl, rfl, rfl⟩ rfl rfl rfl rfl rfl (by kernel_rfl) Try.func12 (by kernel_rfl)
    (of_decide_eq_true (by kernel_rfl)) (by unfold Func.isWrapper; first | (rw [if_pos (by decide +kernel)]; kernel_rfl) | (rw [if_neg (by decide +kernel)]; exact ⟨rfl, rfl⟩))
    (fun os started H enc _ => lifted os started H enc)

end Go.Proofs.Ytkjggmfblkkopaa.fnExactCoverShare
