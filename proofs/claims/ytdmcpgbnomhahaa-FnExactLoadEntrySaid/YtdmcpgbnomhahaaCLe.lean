/-
  FnExactLoadEntry: for all arguments, the program answers as the reference does. No conditions.
-/
import Derived.Test.YtdmcpgbnomhahaaSv
import Derived.Test.YtdmcpgbnomhahaaEe
import Derived.Test.YtdmcpgbnomhahaaRows
import Derived.Test.YtdmcpgbnomhahaaRo
import Derived.Test.YtdmcpgbnomhahaaRs
namespace Go.Proofs.Ytdmcpgbnomhahaa.fnExactLoadEntry
set_option linter.unusedVariables false
set_option linter.unusedSimpArgs false
open Go.RowKit Go.ChangeShapes Go.WideShapes

theorem own : ownKnob Try.prog.godebug = none := by kernel_rfl
theorem laidOut : laidOutB Try.prog = true := by kernel_rfl

theorem needC {a b c : Bool} (h : a = true → b = true) (k : a = false → c = true) : (bif a then b else c) = true := by
  cases a with
  | true => exact h rfl
  | false => exact k rfl
noncomputable def k_law : Ctr Try.prog := mkF Try.prog mix [k_sLe, k_iLe, k_eqEntry] 4 Try.f4 (bodyOf Try.f4) Try.func4 (by kernel_rfl) (by kernel_rfl) [0, 2, 3, 4, 5, 6, 9, 28, 199] 29 (by kernel_rfl) (by kernel_rfl)
theorem leafL (a b : Bool) : (bif a then true else bif b then b else !b) = true := by cases a <;> cases b <;> rfl

theorem tree_ (v0_0 : ByteArray)  : k_law.run [.one (.str v0_0)] [] =
    (T.need (bif decide (1048576 < (v0_0.size : Int)) then true else bif ldOK v0_0 then bif ldOK v0_0 then decide (ldNm v0_0 = ldNm v0_0) else true else true) (T.need (bif decide (1048576 < (v0_0.size : Int)) then true else bif ldOK v0_0 then bif ldOK v0_0 then decide (ldX v0_0 0 = ldX v0_0 0 ∧ ldX v0_0 1 = ldX v0_0 1 ∧ ldX v0_0 2 = ldX v0_0 2 ∧ ldX v0_0 3 = ldX v0_0 3 ∧ ldX v0_0 4 = ldX v0_0 4 ∧ ldX v0_0 5 = ldX v0_0 5 ∧ ldX v0_0 6 = ldX v0_0 6) else true else true) (T.need (bif decide (1048576 < (v0_0.size : Int)) then true else bif ldOK v0_0 then bif ldOK v0_0 then true else decide ((⟨#[]⟩ : ByteArray) = ldNm v0_0) else true) (T.need (bif decide (1048576 < (v0_0.size : Int)) then true else bif ldOK v0_0 then bif ldOK v0_0 then true else decide (canon FloatKind.f32 0 = ldX v0_0 0 ∧ canon FloatKind.f32 0 = ldX v0_0 1 ∧ canon FloatKind.f32 0 = ldX v0_0 2 ∧ canon FloatKind.f32 0 = ldX v0_0 3 ∧ canon FloatKind.f32 0 = ldX v0_0 4 ∧ canon FloatKind.f32 0 = ldX v0_0 5 ∧ canon FloatKind.f32 0 = ldX v0_0 6) else true) (T.need (bif decide (1048576 < (v0_0.size : Int)) then true else bif ldOK v0_0 then true else bif ldOK v0_0 then decide (ldNm v0_0 = (⟨#[]⟩ : ByteArray)) else true) (T.need (bif decide (1048576 < (v0_0.size : Int)) then true else bif ldOK v0_0 then true else bif ldOK v0_0 then decide (ldX v0_0 0 = canon FloatKind.f32 0 ∧ ldX v0_0 1 = canon FloatKind.f32 0 ∧ ldX v0_0 2 = canon FloatKind.f32 0 ∧ ldX v0_0 3 = canon FloatKind.f32 0 ∧ ldX v0_0 4 = canon FloatKind.f32 0 ∧ ldX v0_0 5 = canon FloatKind.f32 0 ∧ ldX v0_0 6 = canon FloatKind.f32 0) else true) (T.need (bif decide (1048576 < (v0_0.size : Int)) then true else bif ldOK v0_0 then true else bif ldOK v0_0 then true else decide ((⟨#[]⟩ : ByteArray) = (⟨#[]⟩ : ByteArray))) (T.need (bif decide (1048576 < (v0_0.size : Int)) then true else bif ldOK v0_0 then true else bif ldOK v0_0 then true else decide (canon FloatKind.f32 0 = canon FloatKind.f32 0 ∧ canon FloatKind.f32 0 = canon FloatKind.f32 0 ∧ canon FloatKind.f32 0 = canon FloatKind.f32 0 ∧ canon FloatKind.f32 0 = canon FloatKind.f32 0 ∧ canon FloatKind.f32 0 = canon FloatKind.f32 0 ∧ canon FloatKind.f32 0 = canon FloatKind.f32 0 ∧ canon FloatKind.f32 0 = canon FloatKind.f32 0)) (T.leaf (AV.one (SV.bo (bif decide (1048576 < (v0_0.size : Int)) then true else bif ldOK v0_0 then ldOK v0_0 else !ldOK v0_0)), [])))))))))) := by kernel_rfl

theorem any_ (v0_0 : ByteArray) (hv0_0 : v0_0.size ≤ maxLen) : Yes k_law [.one (.str v0_0)] [] := by
  constructor
  rw [tree_]
  exact T.h_need (needC (fun hq1 => rfl) (fun hq1 => (needC (fun hq2 => (needC (fun hq3 => (decide_eq_true rfl)) (fun hq3 => (absurd (hq2.symm.trans hq3) (by decide))))) (fun hq2 => rfl)))) (T.h_need (needC (fun hq4 => rfl) (fun hq4 => (needC (fun hq5 => (needC (fun hq6 => (decide_eq_true ⟨rfl, rfl, rfl, rfl, rfl, rfl, rfl⟩)) (fun hq6 => (absurd (hq5.symm.trans hq6) (by decide))))) (fun hq5 => rfl)))) (T.h_need (needC (fun hq7 => rfl) (fun hq7 => (needC (fun hq8 => (needC (fun hq9 => rfl) (fun hq9 => (absurd (hq8.symm.trans hq9) (by decide))))) (fun hq8 => rfl)))) (T.h_need (needC (fun hq10 => rfl) (fun hq10 => (needC (fun hq11 => (needC (fun hq12 => rfl) (fun hq12 => (absurd (hq11.symm.trans hq12) (by decide))))) (fun hq11 => rfl)))) (T.h_need (needC (fun hq13 => rfl) (fun hq13 => (needC (fun hq14 => rfl) (fun hq14 => (needC (fun hq15 => (absurd (hq15.symm.trans hq14) (by decide))) (fun hq15 => rfl)))))) (T.h_need (needC (fun hq16 => rfl) (fun hq16 => (needC (fun hq17 => rfl) (fun hq17 => (needC (fun hq18 => (absurd (hq18.symm.trans hq17) (by decide))) (fun hq18 => rfl)))))) (T.h_need (needC (fun hq19 => rfl) (fun hq19 => (needC (fun hq20 => rfl) (fun hq20 => (needC (fun hq21 => (absurd (hq21.symm.trans hq20) (by decide))) (fun hq21 => (decide_eq_true rfl))))))) (T.h_need (needC (fun hq22 => rfl) (fun hq22 => (needC (fun hq23 => rfl) (fun hq23 => (needC (fun hq24 => (absurd (hq24.symm.trans hq23) (by decide))) (fun hq24 => (decide_eq_true ⟨rfl, rfl, rfl, rfl, rfl, rfl, rfl⟩))))))) (T.h_leaf (.inr (congrArg (fun b => AV.one (SV.bo b)) (leafL _ _)))))))))))

set_option maxRecDepth 100000 in
theorem lifted (os : Os) (started : os.Started) (H : Type) (enc : TypeId × Value → H) :
    ReturnsInHanded {} Try.checked os 4 .any (Rows.fnExactLoadEntrySpec.pre6 enc Try.prog Try.f4 Rows.fnExactLoadEntryRow.domain false) (Rows.fnExactLoadEntrySpec.post enc Try.prog Try.f4 false true false false) := by
  refine returnsInHanded_of_change (C := Try.checked) own started (by kernel_rfl) Try.func4
    (ChangeSpec.witness6 (enc := enc) (C := Try.checked) false ⟨#[], #[.string ⟨#[]⟩], []⟩ 8 (by kernel_rfl) (by kernel_rfl) (by kernel_rfl) (by kernel_rfl)) ?_
  intro W base args ds gs before hval0 hW _ _
  have hval : ∀ (j : Nat) t v, Try.f4.params[j]? = some t → args[j]? = some v → Value.okWide Try.prog W .any base t v := hval0
  refine post_true (P := Try.prog) (s := Rows.fnExactLoadEntrySpec) (fn := Try.f4) (tb := 4) rfl laidOut (by kernel_rfl) (by kernel_rfl) Try.underlying4 (fun ds hlen => ?_) hW ?_
  · have hlen : ds.length = 1 := hlen.trans (by kernel_rfl)
    match ds, hlen with
    | [d0], _ => rfl
  · obtain ⟨p, q, hA0, hV, rfl, hfz, hnd⟩ := hW
    have hA : DataW.TrodAll enc Try.prog W 0 (fun _ => true) true Try.f4.params.toList args.toList ds p := hA0
    rw [Try.params4] at hA hval
    obtain ⟨v0, vs0, d0, ds0, p0, q0, hargs0, rfl, rfl, k0, r0⟩ := trodAll_cons hA
    obtain ⟨rfl, rfl, rfl⟩ := trodAll_nil r0
    obtain rfl : args = #[v0] := by cases args; simp_all
    obtain ⟨s0, a0, b0⟩ := open_cell (P := Try.prog) (n := 4) (k := .str) (fun _ => none) (by rw [Try.underlying9]) (by kernel_rfl) rfl (hval 0 9 v0 rfl rfl) k0
    obtain ⟨v0_0, _, e0, hv0_0, rfl⟩ := b0
    obtain rfl : s0 = .str v0_0 := (List.cons.inj e0).1
    have hra : RelA (fun _ => none) [.one (.str v0_0)] (#[v0] : Array Value).toList := ⟨(av_any (ρ := fun _ => none) rfl a0), trivial⟩
    exact calls_of_ctr (P := Try.prog) k_law (f := 4) (by kernel_rfl) Try.func4 (by kernel_rfl) (root := bodyOf Try.f4) (by kernel_rfl) (ρ := (fun _ => none)) (memOK_nil W) hra (any_ v0_0 hv0_0)

theorem holds : Rows.FnExactLoadEntrySaid :=
  OpenClaim.holds_of_wide 4 Try.f4 rfl rfl rfl rfl rfl rfl rfl ⟨rfl, rfl, rfl, rfl, rfl⟩ rfl rfl rfl rfl rfl (by kernel_rfl) Try.func4 (by kernel_rfl)
    (of_decide_eq_true (by kernel_rfl)) (by unfold Func.isWrapper; first | (rw [if_pos (by decide +kernel)]; kernel_rfl) | (rw [if_neg (by decide +kernel)]; exact ⟨rfl, rfl⟩))
    (fun os started H enc _ => lifted os started H enc)

end Go.Proofs.Ytdmcpgbnomhahaa.fnExactLoadEntry
