/-
  FnSinks: whatever the bytes are, true. No conditions.
-/
import Derived.Test.YtdmcpgbnomhahaaFu
import Derived.Test.YtdmcpgbnomhahaaRy
import Derived.Test.YtdmcpgbnomhahaaRows
import Derived.Test.YtdmcpgbnomhahaaRo
import Derived.Test.YtdmcpgbnomhahaaRs
namespace Go.Proofs.Ytdmcpgbnomhahaa.fnSinks
set_option linter.unusedVariables false
set_option linter.unusedSimpArgs false
open Go.RowKit Go.ChangeShapes Go.WideShapes

theorem own : ownKnob Try.prog.godebug = none := by kernel_rfl
theorem laidOut : laidOutB Try.prog = true := by kernel_rfl

noncomputable def k_oR8 : Ctr Try.prog := k_R8.own
noncomputable def k_oAt : Ctr Try.prog := k_At.own
noncomputable def k_oiThin : Ctr Try.prog := k_iThin.own
noncomputable def k_oSr1 : Ctr Try.prog := k_Sr1.own
noncomputable def k_olong0 : Ctr Try.prog := k_long0.own
noncomputable def k_ogap : Ctr Try.prog := k_gap.own
noncomputable def k_fs : Ctr Try.prog := mkF0 Try.prog mix [k_oR8, k_oAt, k_olong0, k_ogap, k_oiThin, k_oSr1, k_iSink] 8 Try.f8 (bodyOf Try.f8) Try.func8 (by kernel_rfl) (by kernel_rfl) [0, 1, 4, 5, 6, 7, 8, 9, 10, 11, 12, 13, 14, 15, 16, 17, 18, 19, 20, 21, 22, 23, 26, 135, 140, 146, 170, 199] 187 (by kernel_rfl) (by kernel_rfl) [la_sum]
noncomputable def k_fsn : Ctr Try.prog := mkF0 Try.prog mix [k_oR8, k_oAt, k_olong0, k_ogap, k_oiThin, k_oSr1, k_iSink] 8 Try.f8 (bodyOf Try.f8) Try.func8 (by kernel_rfl) (by kernel_rfl) [0, 1, 4, 5, 6, 7, 8, 9, 10, 11, 12, 13, 14, 15, 16, 17, 18, 19, 20, 21, 22, 23, 26, 135, 140, 146, 170, 199] 187 (by kernel_rfl) (by kernel_rfl) [lb_sum]
set_option maxRecDepth 100000 in
set_option maxHeartbeats 8000000 in
theorem tree_rr (n m : Nat) (f g : Nat → Int) : k_fs.run [.one (.su 0 1 0 n false), .one (.su 1 1 0 m false)] [some (.cols n [.num .u8 f]), some (.cols m [.num .u8 g])] =
    .ite (bif decide (48 < (n : Int)) then true else decide (48 < (m : Int))) (.leaf (.one (.tt true), [])) (.need (decide (n = n)) (.need (bytesOK n f) (.all fun y1 => .all fun y2 => .all fun y3 => .all fun y4 => .need (decide (m = m)) (.need (bytesOK m g) (.all fun y5 => .need (decide (m = m)) (.need (bytesOK m g) (.all fun y6 => .need (decide (m = m)) (.need (bytesOK m g) (.all fun y7 => .need (thOk (dMa y1) (dRa y2) (dSp y3) (dSt y4) (dBa y5) (dSc y6) (canon .f32 0)) (.need (thOk (dMa y1) (dRa y2) (dSp y3) (dSt y4) (dBa y5) (dSc y6) (canon .f32 1056964608)) (.need (thOk (dMa y1) (dRa y2) (dSp y3) (dSt y4) (dBa y5) (dSc y6) (canon .f32 1065353216)) (.need (decide (m = m)) (.need (bytesOK m g) (.need (decide (m = m)) (.need (bytesOK m g) (.all fun y8 => fsT (la_ok { ma := dMa y1, ra := dRa y2, sp := dSp y3, stt := dSt y4, ba := dBa y5, sc := dSc y6, dr := dDr y7, n := (skRun (dMa y1) (dRa y2) (dLo (dRa y2) (a3 m g)) (dDr y7) (dBa y5) (dSc y6) (canon .f32 1048576000) ((y8 % 20 : Nat) : Int)).2.1, n2 := (skRun (dMa y1) (dRa y2) (dLo (dRa y2) (a3 m g)) (dDr y7) (dBa y5) (dSc y6) (canon .f32 1048576000) ((y8 % 20 : Nat) : Int)).2.1, f := (skRun (dMa y1) (dRa y2) (dLo (dRa y2) (a3 m g)) (dDr y7) (dBa y5) (dSc y6) (canon .f32 1048576000) ((y8 % 20 : Nat) : Int)).2.2.2, st := ((y8 % 20 : Nat) : Int), e := !fgt .f32 (skRun (dMa y1) (dRa y2) (dLo (dRa y2) (a3 m g)) (dDr y7) (dBa y5) (dSc y6) (canon .f32 1048576000) ((y8 % 20 : Nat) : Int)).2.2.1 (dRa y2), x0 := some (.cols n [.num .u8 f]), x1 := some (.cols m [.num .u8 g]) } { now := (dLo (dRa y2) (a3 m g)), k := 0 }) (dMa y1) (dRa y2) (dSp y3) (dSt y4) (dBa y5) (dSc y6) (dDr y7) (dLo (dRa y2) (a3 m g)) ((y8 % 20 : Nat) : Int))))))))))))))))) := by kernel_rfl
set_option maxRecDepth 100000 in
set_option maxHeartbeats 8000000 in
theorem tree_nn : k_fsn.run [.one (.val (.slice none 0 0)), .one (.val (.slice none 0 0))] [] =
    .all fun y1 => .all fun y2 => .all fun y3 => .all fun y4 => .all fun y5 => .all fun y6 => .all fun y7 => .need (thOk (dMa y1) (dRa y2) (dSp y3) (dSt y4) (dBa y5) (dSc y6) (canon .f32 0)) (.need (thOk (dMa y1) (dRa y2) (dSp y3) (dSt y4) (dBa y5) (dSc y6) (canon .f32 1056964608)) (.need (thOk (dMa y1) (dRa y2) (dSp y3) (dSt y4) (dBa y5) (dSc y6) (canon .f32 1065353216)) (.all fun y8 => fsT (lb_ok { ma := dMa y1, ra := dRa y2, sp := dSp y3, stt := dSt y4, ba := dBa y5, sc := dSc y6, dr := dDr y7, n := (skRun (dMa y1) (dRa y2) (dLo (dRa y2) 0) (dDr y7) (dBa y5) (dSc y6) (canon .f32 1048576000) ((y8 % 20 : Nat) : Int)).2.1, n2 := (skRun (dMa y1) (dRa y2) (dLo (dRa y2) 0) (dDr y7) (dBa y5) (dSc y6) (canon .f32 1048576000) ((y8 % 20 : Nat) : Int)).2.1, f := (skRun (dMa y1) (dRa y2) (dLo (dRa y2) 0) (dDr y7) (dBa y5) (dSc y6) (canon .f32 1048576000) ((y8 % 20 : Nat) : Int)).2.2.2, st := ((y8 % 20 : Nat) : Int), e := !fgt .f32 (skRun (dMa y1) (dRa y2) (dLo (dRa y2) 0) (dDr y7) (dBa y5) (dSc y6) (canon .f32 1048576000) ((y8 % 20 : Nat) : Int)).2.2.1 (dRa y2) } { now := (dLo (dRa y2) 0), k := 0 }) (dMa y1) (dRa y2) (dSp y3) (dSt y4) (dBa y5) (dSc y6) (dDr y7) (dLo (dRa y2) 0) ((y8 % 20 : Nat) : Int)))) := by kernel_rfl
theorem la_in {ma ra sp stt ba sc dr lo : Nat} (h : Air ma ra sp stt ba sc dr) (hl : Low lo) (st : Int) (h1 : st ≤ 64) (e : Bool) (x0 x1 : Option Blk) : la_ok { ma := ma, ra := ra, sp := sp, stt := stt, ba := ba, sc := sc, dr := dr, n := (skRun ma ra lo dr ba sc (canon .f32 1048576000) st).2.1, n2 := (skRun ma ra lo dr ba sc (canon .f32 1048576000) st).2.1, f := (skRun ma ra lo dr ba sc (canon .f32 1048576000) st).2.2.2, st := st, e := e, x0 := x0, x1 := x1 } { now := lo, k := 0 } = true := by
  unfold la_ok
  have hle := (skRun_ok h hl st).le
  exact decide_eq_true ⟨rfl, by show (skRun ma ra lo dr ba sc (canon .f32 1048576000) st).2.1 ≤ 64; omega, rfl, run_lk h hl st, Int.le_refl 0, Int.natCast_nonneg _⟩
theorem lb_in {ma ra sp stt ba sc dr lo : Nat} (h : Air ma ra sp stt ba sc dr) (hl : Low lo) (st : Int) (h1 : st ≤ 64) (e : Bool) : lb_ok { ma := ma, ra := ra, sp := sp, stt := stt, ba := ba, sc := sc, dr := dr, n := (skRun ma ra lo dr ba sc (canon .f32 1048576000) st).2.1, n2 := (skRun ma ra lo dr ba sc (canon .f32 1048576000) st).2.1, f := (skRun ma ra lo dr ba sc (canon .f32 1048576000) st).2.2.2, st := st, e := e } { now := lo, k := 0 } = true := by
  unfold lb_ok
  have hle := (skRun_ok h hl st).le
  exact decide_eq_true ⟨rfl, by show (skRun ma ra lo dr ba sc (canon .f32 1048576000) st).2.1 ≤ 64; omega, rfl, run_lk h hl st, Int.le_refl 0, Int.natCast_nonneg _⟩
theorem any_rr (n m : Nat) (f g : Nat → Int) (hf0 : ∀ i, i < n → 0 ≤ f i ∧ f i < 256) (hg0 : ∀ i, i < m → 0 ≤ g i ∧ g i < 256) : Yes k_fs [.one (.su 0 1 0 n false), .one (.su 1 1 0 m false)] [some (.cols n [.num .u8 f]), some (.cols m [.num .u8 g])] := by
  have hf : bytesOK n f = true := decide_eq_true hf0
  have hg : bytesOK m g = true := decide_eq_true hg0
  constructor
  rw [tree_rr]
  exact T.h_ite (fun _ => T.h_leaf (.inl rfl)) (fun _ => T.h_need (decide_eq_true rfl) (T.h_need hf (fun y1 y2 y3 y4 => T.h_need (decide_eq_true rfl) (T.h_need hg (fun y5 => T.h_need (decide_eq_true rfl) (T.h_need hg (fun y6 => T.h_need (decide_eq_true rfl) (T.h_need hg (fun y7 => T.h_need (th_of_draw y1 y2 y3 y4 y5 y6).1 (T.h_need (th_of_draw y1 y2 y3 y4 y5 y6).2.1 (T.h_need (th_of_draw y1 y2 y3 y4 y5 y6).2.2 (T.h_need (decide_eq_true rfl) (T.h_need hg (T.h_need (decide_eq_true rfl) (T.h_need hg (fun y8 => fsT_yes (air_of_draw y1 y2 y3 y4 y5 y6 y7) (low_of_draw y2 (a3 m g)).1 (low_of_draw y2 (a3 m g)).2 (by omega) (by omega) (la_in (air_of_draw y1 y2 y3 y4 y5 y6 y7) (low_of_draw y2 (a3 m g)).1 _ (by omega) _ _ _)))))))))))))))))
theorem any_nn : Yes k_fsn [.one (.val (.slice none 0 0)), .one (.val (.slice none 0 0))] [] := by
  constructor
  rw [tree_nn]
  exact fun y1 y2 y3 y4 => fun y5 => fun y6 => fun y7 => T.h_need (th_of_draw y1 y2 y3 y4 y5 y6).1 (T.h_need (th_of_draw y1 y2 y3 y4 y5 y6).2.1 (T.h_need (th_of_draw y1 y2 y3 y4 y5 y6).2.2 (fun y8 => fsT_yes (air_of_draw y1 y2 y3 y4 y5 y6 y7) (low_of_draw y2 0).1 (low_of_draw y2 0).2 (by omega) (by omega) (lb_in (air_of_draw y1 y2 y3 y4 y5 y6 y7) (low_of_draw y2 0).1 _ (by omega) _))))
set_option maxRecDepth 100000 in
theorem lifted (os : Os) (started : os.Started) (H : Type) (enc : TypeId × Value → H) :
    ReturnsInHanded {} Try.checked os 8 .any (Rows.fnSinksSpec.pre6 enc Try.prog Try.f8 Rows.fnSinksRow.domain false) (Rows.fnSinksSpec.post enc Try.prog Try.f8 false true false false) := by
  refine returnsInHanded_of_change (C := Try.checked) own started (by kernel_rfl) Try.func8
    (ChangeSpec.witness6 (enc := enc) (C := Try.checked) false ⟨#[], #[.slice none 0 0, .slice none 0 0], []⟩ 8 (by kernel_rfl) (by kernel_rfl) (by kernel_rfl) (by kernel_rfl)) ?_
  intro W base args ds gs before hval0 hW _ _
  have hval : ∀ (j : Nat) t v, Try.f8.params[j]? = some t → args[j]? = some v → Value.okWide Try.prog W .any base t v := hval0
  refine post_true (P := Try.prog) (s := Rows.fnSinksSpec) (fn := Try.f8) (tb := 4) rfl laidOut (by kernel_rfl) (by kernel_rfl) Try.underlying4 (fun ds hlen => ?_) hW ?_
  · have hlen : ds.length = 2 := hlen.trans (by kernel_rfl)
    match ds, hlen with
    | [d0, d1], _ => rfl
  · obtain ⟨p, q, hA0, hV, rfl, hfz, hnd⟩ := hW
    have hA : DataW.TrodAll enc Try.prog W 0 (fun _ => true) true Try.f8.params.toList args.toList ds p := hA0
    rw [Try.params8] at hA hval
    obtain ⟨v0, vs0, d0, ds0, p0, q0, hargs0, rfl, rfl, k0, r0⟩ := trodAll_cons hA
    obtain ⟨v1, vs1, d1, ds1, p1, q1, hargs1, rfl, rfl, k1, r1⟩ := trodAll_cons r0
    obtain ⟨rfl, rfl, rfl⟩ := trodAll_nil r1
    subst hargs1
    obtain rfl : args = #[v0, v1] := by cases args; simp_all
    have op0 := open_rowB (P := Try.prog) (n := 4) Try.underlying61 (by kernel_rfl) (by kernel_rfl) (hval 0 61 v0 rfl rfl) k0
    have op1 := open_rowB (P := Try.prog) (n := 4) Try.underlying61 (by kernel_rfl) (by kernel_rfl) (hval 1 61 v1 rfl rfl) k1
    rcases op0 with rfl | ⟨b0, o0, len0, cap0, f0, rfl, hl0, bk0, hc0, hr0⟩
    · skip
      rcases op1 with rfl | ⟨b1, o1, len1, cap1, f1, rfl, hl1, bk1, hc1, hr1⟩
      · skip
        have hra : RelA (fun _ => none) [.one (.val (.slice none 0 0)), .one (.val (.slice none 0 0))] (#[.slice none 0 0, .slice none 0 0] : Array Value).toList := ⟨⟨rfl, rfl⟩, ⟨⟨rfl, rfl⟩, trivial⟩⟩
        exact calls_of_ctr (P := Try.prog) k_fsn (f := 8) (by kernel_rfl) Try.func8 (by kernel_rfl) (root := bodyOf Try.f8) (by kernel_rfl) (ρ := (fun _ => none)) (memOK_nil W) hra (any_nn)
      · skip
        have hra : RelA (rho2 b1 o1 b1 o1) [.one (.su 0 1 0 0 false), .one (.su 1 1 0 len1 false)] (#[.slice none 0 0, .slice (some ⟨b1, o1, none⟩) len1 cap1] : Array Value).toList := ⟨⟨none, 0, rfl, Nat.le_refl _, fun h => absurd h (Nat.lt_irrefl 0)⟩, ⟨⟨some ⟨b1, o1, none⟩, cap1, rfl, hc1, fun _ => ⟨b1, o1, rfl, rfl⟩⟩, trivial⟩⟩
        exact calls_of_ctr (P := Try.prog) k_fs (f := 8) (by kernel_rfl) Try.func8 (by kernel_rfl) (root := bodyOf Try.f8) (by kernel_rfl) (ρ := (rho2 b1 o1 b1 o1)) (memOK_two (fun ρ => blk_empty (bk1 ρ)) bk1) hra (any_rr 0 len1 (fun _ => 0) f1 (fun i hi => absurd hi (Nat.not_lt_zero i)) hr1)
    · skip
      rcases op1 with rfl | ⟨b1, o1, len1, cap1, f1, rfl, hl1, bk1, hc1, hr1⟩
      · skip
        have hra : RelA (rho2 b0 o0 b0 o0) [.one (.su 0 1 0 len0 false), .one (.su 1 1 0 0 false)] (#[.slice (some ⟨b0, o0, none⟩) len0 cap0, .slice none 0 0] : Array Value).toList := ⟨⟨some ⟨b0, o0, none⟩, cap0, rfl, hc0, fun _ => ⟨b0, o0, rfl, rfl⟩⟩, ⟨⟨none, 0, rfl, Nat.le_refl _, fun h => absurd h (Nat.lt_irrefl 0)⟩, trivial⟩⟩
        exact calls_of_ctr (P := Try.prog) k_fs (f := 8) (by kernel_rfl) Try.func8 (by kernel_rfl) (root := bodyOf Try.f8) (by kernel_rfl) (ρ := (rho2 b0 o0 b0 o0)) (memOK_two bk0 (fun ρ => blk_empty (bk0 ρ))) hra (any_rr len0 0 f0 (fun _ => 0) hr0 (fun i hi => absurd hi (Nat.not_lt_zero i)))
      · skip
        have hra : RelA (rho2 b0 o0 b1 o1) [.one (.su 0 1 0 len0 false), .one (.su 1 1 0 len1 false)] (#[.slice (some ⟨b0, o0, none⟩) len0 cap0, .slice (some ⟨b1, o1, none⟩) len1 cap1] : Array Value).toList := ⟨⟨some ⟨b0, o0, none⟩, cap0, rfl, hc0, fun _ => ⟨b0, o0, rfl, rfl⟩⟩, ⟨⟨some ⟨b1, o1, none⟩, cap1, rfl, hc1, fun _ => ⟨b1, o1, rfl, rfl⟩⟩, trivial⟩⟩
        exact calls_of_ctr (P := Try.prog) k_fs (f := 8) (by kernel_rfl) Try.func8 (by kernel_rfl) (root := bodyOf Try.f8) (by kernel_rfl) (ρ := (rho2 b0 o0 b1 o1)) (memOK_two bk0 bk1) hra (any_rr len0 len1 f0 f1 hr0 hr1)

theorem holds : Rows.FnSinksSaid :=
  OpenClaim.holds_of_wide 8 Try.f8 rfl rfl rfl rfl rfl rfl rfl ⟨rfl, rfl, rfl, rfl, rfl⟩ rfl rfl rfl rfl rfl (by kernel_rfl) Try.func8 (by kernel_rfl)
    (of_decide_eq_true (by kernel_rfl)) (by unfold Func.isWrapper; first | (rw [if_pos (by decide +kernel)]; kernel_rfl) | (rw [if_neg (by decide +kernel)]; exact ⟨rfl, rfl⟩))
    (fun os started H enc _ => lifted os started H enc)

end Go.Proofs.Ytdmcpgbnomhahaa.fnSinks
