/-
  FnExactStoreEntry: for all arguments, the program answers as the reference does. No conditions.
-/
import Derived.Test.YtdmcpgbnomhahaaSz
import Derived.Test.YtdmcpgbnomhahaaRows
import Derived.Test.YtdmcpgbnomhahaaRo
import Derived.Test.YtdmcpgbnomhahaaRs
namespace Go.Proofs.Ytdmcpgbnomhahaa.fnExactStoreEntry
set_option linter.unusedVariables false
set_option linter.unusedSimpArgs false
open Go.RowKit Go.ChangeShapes Go.WideShapes

theorem own : ownKnob Try.prog.godebug = none := by kernel_rfl
theorem laidOut : laidOutB Try.prog = true := by kernel_rfl

theorem needC {a b c : Bool} (h : a = true → b = true) (k : a = false → c = true) : (bif a then b else c) = true := by
  cases a with
  | true => exact h rfl
  | false => exact k rfl
noncomputable def k_w_w_szEntry : Ctr Try.prog := mkC Try.prog mix [] 9 Try.f9 (bodyOf Try.f9) Try.func9 (by kernel_rfl) (by kernel_rfl) []
noncomputable def k_w_w_toOrbit : Ctr Try.prog := mkC Try.prog mix [] 39 Try.f39 (bodyOf Try.f39) Try.func39 (by kernel_rfl) (by kernel_rfl) []
noncomputable def k_w_w_toEntry : Ctr Try.prog := mkC Try.prog mix [k_w_w_toOrbit] 11 Try.f11 (bodyOf Try.f11) Try.func11 (by kernel_rfl) (by kernel_rfl) []
noncomputable def k_law : Ctr Try.prog := mkF Try.prog mix [k_w_w_szEntry, k_w_w_toEntry, k_sSe, k_iSe] 3 Try.f3 (bodyOf Try.f3) Try.func3 (by kernel_rfl) (by kernel_rfl) [0, 1, 2, 3, 4, 5, 6, 7, 12, 32, 199] 33 (by kernel_rfl) (by kernel_rfl)

theorem tree_ (v0_0 : ByteArray)  (v0_1 : Nat)  (v0_2 : Nat)  (v0_3 : Nat)  (v0_4 : Nat)  (v0_5 : Nat)  (v0_6 : Nat)  (v0_7 : Nat)  : k_law.run [.agg [.str v0_0, .fl .f32 v0_1, .fl .f32 v0_2, .fl .f32 v0_3, .fl .f32 v0_4, .fl .f32 v0_5, .fl .f32 v0_6, .fl .f32 v0_7]] [] =
    (T.need (bif decide (IntKind.i64.wrap (1048576 - (v0_0.size : Int)) < 0) then true else bif decide (IntKind.i64.wrap (1048576 - (v0_0.size : Int)) < 0) then true else decide (v0_0.size ≤ 1048576)) (T.need (bif decide (IntKind.i64.wrap (1048576 - (v0_0.size : Int)) < 0) then true else bif decide (IntKind.i64.wrap (1048576 - (v0_0.size : Int)) < 0) then true else bif entOK v0_0 v0_1 v0_2 v0_3 v0_4 v0_5 v0_6 v0_7 then decide (v0_0.size ≤ 1048576) else true) (T.need (bif decide (IntKind.i64.wrap (1048576 - (v0_0.size : Int)) < 0) then true else bif decide (IntKind.i64.wrap (1048576 - (v0_0.size : Int)) < 0) then true else bif entOK v0_0 v0_1 v0_2 v0_3 v0_4 v0_5 v0_6 v0_7 then true else decide (v0_0.size ≤ 1048576)) (T.leaf (AV.one (SV.bo (bif decide (IntKind.i64.wrap (1048576 - (v0_0.size : Int)) < 0) then true else bif decide (IntKind.i64.wrap (1048576 - (v0_0.size : Int)) < 0) then true else bif entOK v0_0 v0_1 v0_2 v0_3 v0_4 v0_5 v0_6 v0_7 then bif entOK v0_0 v0_1 v0_2 v0_3 v0_4 v0_5 v0_6 v0_7 then !!(storeV v0_0 v0_1 v0_2 v0_3 v0_4 v0_5 v0_6 v0_7).toList == (storeV v0_0 v0_1 v0_2 v0_3 v0_4 v0_5 v0_6 v0_7).toList else false else bif entOK v0_0 v0_1 v0_2 v0_3 v0_4 v0_5 v0_6 v0_7 then false else !!(⟨#[]⟩ : ByteArray).toList == (⟨#[]⟩ : ByteArray).toList)), []))))) := by kernel_rfl

theorem any_ (v0_0 : ByteArray) (hv0_0 : v0_0.size ≤ maxLen) (v0_1 : Nat) (hv0_1 : Can .f32 v0_1) (v0_2 : Nat) (hv0_2 : Can .f32 v0_2) (v0_3 : Nat) (hv0_3 : Can .f32 v0_3) (v0_4 : Nat) (hv0_4 : Can .f32 v0_4) (v0_5 : Nat) (hv0_5 : Can .f32 v0_5) (v0_6 : Nat) (hv0_6 : Can .f32 v0_6) (v0_7 : Nat) (hv0_7 : Can .f32 v0_7) : Yes k_law [.agg [.str v0_0, .fl .f32 v0_1, .fl .f32 v0_2, .fl .f32 v0_3, .fl .f32 v0_4, .fl .f32 v0_5, .fl .f32 v0_6, .fl .f32 v0_7]] [] := by
  constructor
  rw [tree_]
  have small : decide (IntKind.i64.wrap (1048576 - (v0_0.size : Int)) < 0) = false → v0_0.size ≤ 1048576 := fun hc => by
    have e : maxLen = 9223372036854775807 := rfl
    rw [IntWalk.i64_in _ (by omega)] at hc
    have := of_decide_eq_false hc
    omega
  exact T.h_need (needC (fun hq1 => rfl) (fun hq1 => (needC (fun hq2 => rfl) (fun hq2 => (decide_eq_true (by have := small hq1; omega)))))) (T.h_need (needC (fun hq3 => rfl) (fun hq3 => (needC (fun hq4 => rfl) (fun hq4 => (needC (fun hq5 => (decide_eq_true (by have := small hq3; omega))) (fun hq5 => rfl)))))) (T.h_need (needC (fun hq6 => rfl) (fun hq6 => (needC (fun hq7 => rfl) (fun hq7 => (needC (fun hq8 => rfl) (fun hq8 => (decide_eq_true (by have := small hq6; omega)))))))) (T.h_leaf (.inr (congrArg (fun b => AV.one (SV.bo b)) (by simp [*] <;> omega))))))

set_option maxRecDepth 100000 in
theorem lifted (os : Os) (started : os.Started) (H : Type) (enc : TypeId × Value → H) :
    ReturnsInHanded {} Try.checked os 3 .any (Rows.fnExactStoreEntrySpec.pre6 enc Try.prog Try.f3 Rows.fnExactStoreEntryRow.domain false) (Rows.fnExactStoreEntrySpec.post enc Try.prog Try.f3 false true false false) := by
  refine returnsInHanded_of_change (C := Try.checked) own started (by kernel_rfl) Try.func3
    (ChangeSpec.witness6 (enc := enc) (C := Try.checked) false ⟨#[], #[.agg #[.string ⟨#[]⟩, .float .f32 0, .float .f32 0, .float .f32 0, .float .f32 0, .float .f32 0, .float .f32 0, .float .f32 0]], []⟩ 8 (by kernel_rfl) (by kernel_rfl) (by kernel_rfl) (by kernel_rfl)) ?_
  intro W base args ds gs before hval0 hW _ _
  have hval : ∀ (j : Nat) t v, Try.f3.params[j]? = some t → args[j]? = some v → Value.okWide Try.prog W .any base t v := hval0
  refine post_true (P := Try.prog) (s := Rows.fnExactStoreEntrySpec) (fn := Try.f3) (tb := 4) rfl laidOut (by kernel_rfl) (by kernel_rfl) Try.underlying4 (fun ds hlen => ?_) hW ?_
  · have hlen : ds.length = 1 := hlen.trans (by kernel_rfl)
    match ds, hlen with
    | [d0], _ => rfl
  · obtain ⟨p, q, hA0, hV, rfl, hfz, hnd⟩ := hW
    have hA : DataW.TrodAll enc Try.prog W 0 (fun _ => true) true Try.f3.params.toList args.toList ds p := hA0
    rw [Try.params3] at hA hval
    obtain ⟨v0, vs0, d0, ds0, p0, q0, hargs0, rfl, rfl, k0, r0⟩ := trodAll_cons hA
    obtain ⟨rfl, rfl, rfl⟩ := trodAll_nil r0
    obtain rfl : args = #[v0] := by cases args; simp_all
    obtain ⟨ss0, a0, b0⟩ := open_struct (P := Try.prog) (n := 4) (ks := [.str, .fl .f32, .fl .f32, .fl .f32, .fl .f32, .fl .f32, .fl .f32, .fl .f32]) (fun _ => none) Try.underlying26 (by kernel_rfl) rfl (hval 0 26 v0 rfl rfl) k0
    obtain ⟨v0_0, _, rfl, hv0_0, v0_1, _, rfl, hv0_1, v0_2, _, rfl, hv0_2, v0_3, _, rfl, hv0_3, v0_4, _, rfl, hv0_4, v0_5, _, rfl, hv0_5, v0_6, _, rfl, hv0_6, v0_7, _, rfl, hv0_7, rfl⟩ := b0
    have hra : RelA (fun _ => none) [.agg [.str v0_0, .fl .f32 v0_1, .fl .f32 v0_2, .fl .f32 v0_3, .fl .f32 v0_4, .fl .f32 v0_5, .fl .f32 v0_6, .fl .f32 v0_7]] (#[v0] : Array Value).toList := ⟨(av_any (ρ := fun _ => none) rfl a0), trivial⟩
    exact calls_of_ctr (P := Try.prog) k_law (f := 3) (by kernel_rfl) Try.func3 (by kernel_rfl) (root := bodyOf Try.f3) (by kernel_rfl) (ρ := (fun _ => none)) (memOK_nil W) hra (any_ v0_0 hv0_0 v0_1 hv0_1 v0_2 hv0_2 v0_3 hv0_3 v0_4 hv0_4 v0_5 hv0_5 v0_6 hv0_6 v0_7 hv0_7)

theorem holds : Rows.FnExactStoreEntrySaid :=
  OpenClaim.holds_of_wide 3 Try.f3 rfl rfl rfl rfl rfl rfl rfl ⟨rfl, rfl, rfl, rfl, rfl⟩ rfl rfl rfl rfl rfl (by kernel_rfl) Try.func3 (by kernel_rfl)
    (of_decide_eq_true (by kernel_rfl)) (by unfold Func.isWrapper; first | (rw [if_pos (by decide +kernel)]; kernel_rfl) | (rw [if_neg (by decide +kernel)]; exact ⟨rfl, rfl⟩))
    (fun os started H enc _ => lifted os started H enc)

end Go.Proofs.Ytdmcpgbnomhahaa.fnExactStoreEntry
