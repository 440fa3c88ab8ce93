/-
  FnExactAreEntries: for all arguments, the program answers as the reference does. No conditions.
-/
import Derived.Test.YtdlamanfolijlaaEr
import Derived.Test.YtdlamanfolijlaaRz
import Derived.Test.YtdlamanfolijlaaRows
import Derived.Test.YtdlamanfolijlaaRo
import Derived.Test.YtdlamanfolijlaaRs
namespace Go.Proofs.Ytdlamanfolijlaa.fnExactAreEntries
set_option linter.unusedVariables false
set_option linter.unusedSimpArgs false
open Go.RowKit Go.ChangeShapes Go.WideShapes

theorem own : ownKnob Try.prog.godebug = none := by kernel_rfl
theorem laidOut : laidOutB Try.prog = true := by kernel_rfl

theorem needC {a b c : Bool} (h : a = true → b = true) (k : a = false → c = true) : (bif a then b else c) = true := by
  cases a with
  | true => exact h rfl
  | false => exact k rfl
noncomputable def k_law : Ctr Try.prog := mkF Try.prog mix [k_szE, k_teE, k_sAe, k_iAe, k_eqE] 7 Try.f7 (bodyOf Try.f7) Try.func7 (by kernel_rfl) (by kernel_rfl) [0, 2, 3, 4, 5, 6, 11, 21, 26, 199] 27 (by kernel_rfl) (by kernel_rfl)

set_option maxHeartbeats 8000000 in
theorem tree_r (n0 cap0 : Nat)  (c0_0 : Nat → ByteArray) (c0_1 : Nat → Nat) (c0_2 : Nat → Nat) (c0_3 : Nat → Nat) (c0_4 : Nat → Nat) (c0_5 : Nat → Nat) (c0_6 : Nat → Nat) (c0_7 : Nat → Nat)  : k_law.run [.one (.sl 0 8 0 n0 cap0 false)] [some (.cols n0 [.str c0_0, .fl .f32 c0_1, .fl .f32 c0_2, .fl .f32 c0_3, .fl .f32 c0_4, .fl .f32 c0_5, .fl .f32 c0_6, .fl .f32 c0_7])] =
    (T.need (decide (n0 ≤ cap0)) (T.need (true) (T.need (decide (n0 ≤ 9223372036854775807)) (T.need (decide (n0 ≤ n0)) (T.need (bif decide (szV n0 c0_0 < 0) then true else decide (n0 ≤ cap0)) (T.need (bif decide (szV n0 c0_0 < 0) then true else decide (n0 ≤ 1048576)) (T.need (bif decide (szV n0 c0_0 < 0) then true else decide (n0 ≤ n0)) (T.need (bif decide (szV n0 c0_0 < 0) then true else decide (n0 ≤ n0)) (T.need (bif decide (szV n0 c0_0 < 0) then true else decide (n0 ≤ n0)) (T.need (bif decide (szV n0 c0_0 < 0) then true else decide (n0 ≤ 1048576)) (T.need (bif decide (szV n0 c0_0 < 0) then true else szOK n0 c0_0) (T.need (bif decide (szV n0 c0_0 < 0) then true else decide (n0 ≤ cap0)) (T.need (bif decide (szV n0 c0_0 < 0) then true else decide (n0 ≤ 1048576)) (T.need (bif decide (szV n0 c0_0 < 0) then true else decide (n0 ≤ n0)) (T.need (bif decide (szV n0 c0_0 < 0) then true else decide (n0 ≤ n0)) (T.need (bif decide (szV n0 c0_0 < 0) then true else decide (n0 ≤ n0)) (T.need (bif decide (szV n0 c0_0 < 0) then true else decide (n0 ≤ 1048576)) (T.need (bif decide (szV n0 c0_0 < 0) then true else szOK n0 c0_0) (T.need (bif decide (szV n0 c0_0 < 0) then true else bif areE n0 c0_0 c0_1 c0_2 c0_3 c0_4 c0_5 c0_6 c0_7 != areE n0 c0_0 c0_1 c0_2 c0_3 c0_4 c0_5 c0_6 c0_7 then true else decide (n0 ≤ cap0)) (T.need (bif decide (szV n0 c0_0 < 0) then true else bif areE n0 c0_0 c0_1 c0_2 c0_3 c0_4 c0_5 c0_6 c0_7 != areE n0 c0_0 c0_1 c0_2 c0_3 c0_4 c0_5 c0_6 c0_7 then true else decide (n0 ≤ 1048576)) (T.need (bif decide (szV n0 c0_0 < 0) then true else bif areE n0 c0_0 c0_1 c0_2 c0_3 c0_4 c0_5 c0_6 c0_7 != areE n0 c0_0 c0_1 c0_2 c0_3 c0_4 c0_5 c0_6 c0_7 then true else decide (n0 ≤ n0)) (T.need (bif decide (szV n0 c0_0 < 0) then true else bif areE n0 c0_0 c0_1 c0_2 c0_3 c0_4 c0_5 c0_6 c0_7 != areE n0 c0_0 c0_1 c0_2 c0_3 c0_4 c0_5 c0_6 c0_7 then true else decide (n0 ≤ n0)) (T.need (bif decide (szV n0 c0_0 < 0) then true else bif areE n0 c0_0 c0_1 c0_2 c0_3 c0_4 c0_5 c0_6 c0_7 != areE n0 c0_0 c0_1 c0_2 c0_3 c0_4 c0_5 c0_6 c0_7 then true else decide (n0 ≤ n0)) (T.need (bif decide (szV n0 c0_0 < 0) then true else bif areE n0 c0_0 c0_1 c0_2 c0_3 c0_4 c0_5 c0_6 c0_7 != areE n0 c0_0 c0_1 c0_2 c0_3 c0_4 c0_5 c0_6 c0_7 then true else decide (n0 = n0)) (T.need (bif decide (szV n0 c0_0 < 0) then true else bif areE n0 c0_0 c0_1 c0_2 c0_3 c0_4 c0_5 c0_6 c0_7 != areE n0 c0_0 c0_1 c0_2 c0_3 c0_4 c0_5 c0_6 c0_7 then true else decide (n0 ≤ n0)) (T.need (bif decide (szV n0 c0_0 < 0) then true else bif areE n0 c0_0 c0_1 c0_2 c0_3 c0_4 c0_5 c0_6 c0_7 != areE n0 c0_0 c0_1 c0_2 c0_3 c0_4 c0_5 c0_6 c0_7 then true else decide (n0 ≤ n0)) (T.need (bif decide (szV n0 c0_0 < 0) then true else bif areE n0 c0_0 c0_1 c0_2 c0_3 c0_4 c0_5 c0_6 c0_7 != areE n0 c0_0 c0_1 c0_2 c0_3 c0_4 c0_5 c0_6 c0_7 then true else decide (n0 ≤ 1048576)) (T.need (bif decide (szV n0 c0_0 < 0) then true else bif areE n0 c0_0 c0_1 c0_2 c0_3 c0_4 c0_5 c0_6 c0_7 != areE n0 c0_0 c0_1 c0_2 c0_3 c0_4 c0_5 c0_6 c0_7 then true else sameCEs n0 c0_0 c0_0 && sameCEf n0 c0_1 c0_1 && sameCEf n0 c0_2 c0_2 && sameCEf n0 c0_3 c0_3 && sameCEf n0 c0_4 c0_4 && sameCEf n0 c0_5 c0_5 && sameCEf n0 c0_6 c0_6 && sameCEf n0 c0_7 c0_7) (T.leaf (AV.one (SV.bo (bif decide (szV n0 c0_0 < 0) then true else !areE n0 c0_0 c0_1 c0_2 c0_3 c0_4 c0_5 c0_6 c0_7 != areE n0 c0_0 c0_1 c0_2 c0_3 c0_4 c0_5 c0_6 c0_7)), [])))))))))))))))))))))))))))))) := by kernel_rfl

set_option maxHeartbeats 8000000 in
theorem any_r (n0 cap0 : Nat) (hn0 : n0 ≤ 9223372036854775807) (c0_0 : Nat → ByteArray) (c0_1 : Nat → Nat) (c0_2 : Nat → Nat) (c0_3 : Nat → Nat) (c0_4 : Nat → Nat) (c0_5 : Nat → Nat) (c0_6 : Nat → Nat) (c0_7 : Nat → Nat) (hs0 : n0 ≤ cap0 ∧ ∀ i, i < n0 → (c0_0 i).size ≤ 9223372036854775807) : Yes k_law [.one (.sl 0 8 0 n0 cap0 false)] [some (.cols n0 [.str c0_0, .fl .f32 c0_1, .fl .f32 c0_2, .fl .f32 c0_3, .fl .f32 c0_4, .fl .f32 c0_5, .fl .f32 c0_6, .fl .f32 c0_7])] := by
  constructor
  rw [tree_r]
  exact T.h_need (decide_eq_true hs0.1) (T.h_need rfl (T.h_need (decide_eq_true hn0) (T.h_need (decide_eq_true (Nat.le_refl _)) (T.h_need (needC (fun hq1 => rfl) (fun hq1 => (decide_eq_true hs0.1))) (T.h_need (needC (fun hq2 => rfl) (fun hq2 => (decide_eq_true (szV_in hn0 hs0.2 hq2).1))) (T.h_need (needC (fun hq3 => rfl) (fun hq3 => (decide_eq_true (Nat.le_refl _)))) (T.h_need (needC (fun hq4 => rfl) (fun hq4 => (decide_eq_true (Nat.le_refl _)))) (T.h_need (needC (fun hq5 => rfl) (fun hq5 => (decide_eq_true (Nat.le_refl _)))) (T.h_need (needC (fun hq6 => rfl) (fun hq6 => (decide_eq_true (szV_in hn0 hs0.2 hq6).1))) (T.h_need (needC (fun hq7 => rfl) (fun hq7 => (decide_eq_true (fun i hi => by have := (szV_in hn0 hs0.2 hq7).2 i hi; omega)))) (T.h_need (needC (fun hq8 => rfl) (fun hq8 => (decide_eq_true hs0.1))) (T.h_need (needC (fun hq9 => rfl) (fun hq9 => (decide_eq_true (szV_in hn0 hs0.2 hq9).1))) (T.h_need (needC (fun hq10 => rfl) (fun hq10 => (decide_eq_true (Nat.le_refl _)))) (T.h_need (needC (fun hq11 => rfl) (fun hq11 => (decide_eq_true (Nat.le_refl _)))) (T.h_need (needC (fun hq12 => rfl) (fun hq12 => (decide_eq_true (Nat.le_refl _)))) (T.h_need (needC (fun hq13 => rfl) (fun hq13 => (decide_eq_true (szV_in hn0 hs0.2 hq13).1))) (T.h_need (needC (fun hq14 => rfl) (fun hq14 => (decide_eq_true (fun i hi => by have := (szV_in hn0 hs0.2 hq14).2 i hi; omega)))) (T.h_need (needC (fun hq15 => rfl) (fun hq15 => (needC (fun hq16 => rfl) (fun hq16 => (decide_eq_true hs0.1))))) (T.h_need (needC (fun hq17 => rfl) (fun hq17 => (needC (fun hq18 => rfl) (fun hq18 => (decide_eq_true (szV_in hn0 hs0.2 hq17).1))))) (T.h_need (needC (fun hq19 => rfl) (fun hq19 => (needC (fun hq20 => rfl) (fun hq20 => (decide_eq_true (Nat.le_refl _)))))) (T.h_need (needC (fun hq21 => rfl) (fun hq21 => (needC (fun hq22 => rfl) (fun hq22 => (decide_eq_true (Nat.le_refl _)))))) (T.h_need (needC (fun hq23 => rfl) (fun hq23 => (needC (fun hq24 => rfl) (fun hq24 => (decide_eq_true (Nat.le_refl _)))))) (T.h_need (needC (fun hq25 => rfl) (fun hq25 => (needC (fun hq26 => rfl) (fun hq26 => (decide_eq_true rfl))))) (T.h_need (needC (fun hq27 => rfl) (fun hq27 => (needC (fun hq28 => rfl) (fun hq28 => (decide_eq_true (Nat.le_refl _)))))) (T.h_need (needC (fun hq29 => rfl) (fun hq29 => (needC (fun hq30 => rfl) (fun hq30 => (decide_eq_true (Nat.le_refl _)))))) (T.h_need (needC (fun hq31 => rfl) (fun hq31 => (needC (fun hq32 => rfl) (fun hq32 => (decide_eq_true (szV_in hn0 hs0.2 hq31).1))))) (T.h_need (needC (fun hq33 => rfl) (fun hq33 => (needC (fun hq34 => rfl) (fun hq34 => (by simp only [sameCEf_mk, sameCEs_mk, Bool.and_self]))))) (T.h_leaf (.inr (congrArg (fun b => AV.one (SV.bo b)) (by simp [*] <;> omega)))))))))))))))))))))))))))))))

set_option maxHeartbeats 8000000 in
theorem tree_n  : k_law.run [.one (.val (.slice none 0 0))] [] =
    (T.need (true) (T.need (true) (T.need (true) (T.need (true) (T.need (true) (T.need (true) (T.need (true) (T.need (true) (T.need (true) (T.need (true) (T.need (true) (T.need (true) (T.need (true) (T.need (true) (T.need (true) (T.leaf (AV.one (SV.bo !(areE 0 (fun x => { data := #[] }) (fun x => canon FloatKind.f32 0) (fun x => canon FloatKind.f32 0) (fun x => canon FloatKind.f32 0) (fun x => canon FloatKind.f32 0) (fun x => canon FloatKind.f32 0) (fun x => canon FloatKind.f32 0) fun x => canon FloatKind.f32 0) != areE 0 (fun x => { data := #[] }) (fun x => canon FloatKind.f32 0) (fun x => canon FloatKind.f32 0) (fun x => canon FloatKind.f32 0) (fun x => canon FloatKind.f32 0) (fun x => canon FloatKind.f32 0) (fun x => canon FloatKind.f32 0) fun x => canon FloatKind.f32 0), []))))))))))))))))) := by kernel_rfl

set_option maxHeartbeats 8000000 in
theorem any_n  : Yes k_law [.one (.val (.slice none 0 0))] [] := by
  constructor
  rw [tree_n]
  exact T.h_need rfl (T.h_need rfl (T.h_need rfl (T.h_need rfl (T.h_need rfl (T.h_need rfl (T.h_need rfl (T.h_need rfl (T.h_need rfl (T.h_need rfl (T.h_need rfl (T.h_need rfl (T.h_need rfl (T.h_need rfl (T.h_need rfl (T.h_leaf (.inr (congrArg (fun b => AV.one (SV.bo b)) (by simp [*] <;> omega))))))))))))))))))

set_option maxRecDepth 100000 in
theorem lifted (os : Os) (started : os.Started) (H : Type) (enc : TypeId × Value → H) :
    ReturnsInHanded {} Try.checked os 7 .any (Rows.fnExactAreEntriesSpec.pre6 enc Try.prog Try.f7 Rows.fnExactAreEntriesRow.domain false) (Rows.fnExactAreEntriesSpec.post enc Try.prog Try.f7 false true false false) := by
  refine returnsInHanded_of_change (C := Try.checked) own started (by kernel_rfl) Try.func7
    (ChangeSpec.witness6 (enc := enc) (C := Try.checked) false ⟨#[], #[.slice none 0 0], []⟩ 8 (by kernel_rfl) (by kernel_rfl) (by kernel_rfl) (by kernel_rfl)) ?_
  intro W base args ds gs before hval0 hW _ _
  have hval : ∀ (j : Nat) t v, Try.f7.params[j]? = some t → args[j]? = some v → Value.okWide Try.prog W .any base t v := hval0
  refine post_true (P := Try.prog) (s := Rows.fnExactAreEntriesSpec) (fn := Try.f7) (tb := 4) rfl laidOut (by kernel_rfl) (by kernel_rfl) Try.underlying4 (fun ds hlen => ?_) hW ?_
  · have hlen : ds.length = 1 := hlen.trans (by kernel_rfl)
    match ds, hlen with
    | [d0], _ => rfl
  · obtain ⟨p, q, hA0, hV, rfl, hfz, hnd⟩ := hW
    have hA : DataW.TrodAll enc Try.prog W 0 (fun _ => true) true Try.f7.params.toList args.toList ds p := hA0
    rw [Try.params7] at hA hval
    obtain ⟨v0, vs0, d0, ds0, p0, q0, hargs0, rfl, rfl, k0, r0⟩ := trodAll_cons hA
    obtain ⟨rfl, rfl, rfl⟩ := trodAll_nil r0
    obtain rfl : args = #[v0] := by cases args; simp_all
    have op0 := open_rowS (P := Try.prog) (n := 4) (ks := [.str, .fl .f32, .fl .f32, .fl .f32, .fl .f32, .fl .f32, .fl .f32, .fl .f32]) Try.underlying44 (by kernel_rfl) rfl (by kernel_rfl) rfl (hval 0 44 v0 rfl rfl) k0
    rcases op0 with rfl | ⟨b0, o0, len0, cap0, rfl, hl0, bk0, hsz0⟩
    · skip
      have hra : RelA (fun _ => none) [.one (.val (.slice none 0 0))] (#[.slice none 0 0] : Array Value).toList := ⟨⟨rfl, rfl⟩, trivial⟩
      exact calls_of_ctr (P := Try.prog) k_law (f := 7) (by kernel_rfl) Try.func7 (by kernel_rfl) (root := bodyOf Try.f7) (by kernel_rfl) (ρ := (fun _ => none)) (memOK_nil W) hra (any_n )
    · have hlen0 : len0 ≤ 9223372036854775807 := by have e : maxLen = 9223372036854775807 := rfl; omega
      have hra : RelA (rho1 b0 o0) [.one (.sl 0 8 0 len0 cap0 false)] (#[.slice (some ⟨b0, o0, none⟩) len0 cap0] : Array Value).toList := ⟨⟨b0, o0, rfl, by simp⟩, trivial⟩
      exact calls_of_ctr (P := Try.prog) k_law (f := 7) (by kernel_rfl) Try.func7 (by kernel_rfl) (root := bodyOf Try.f7) (by kernel_rfl) (ρ := (rho1 b0 o0)) (memOK_one bk0) hra (any_r len0 cap0 hlen0 _ _ _ _ _ _ _ _ hsz0)

theorem holds : Rows.FnExactAreEntriesSaid :=
  OpenClaim.holds_of_wide 7 Try.f7 rfl rfl rfl rfl rfl rfl rfl ⟨rfl, rfl, rfl, rfl, rfl⟩ rfl rfl rfl rfl rfl (by kernel_rfl) Try.func7 (by kernel_rfl)
    (of_decide_eq_true (by kernel_rfl)) (by unfold Func.isWrapper; first | (rw [if_pos (by decide +kernel)]; kernel_rfl) | (rw [if_neg (by decide +kernel)]; exact ⟨rfl, rfl⟩))
    (fun os started H enc _ => lifted os started H enc)

end Go.Proofs.Ytdlamanfolijlaa.fnExactAreEntries
