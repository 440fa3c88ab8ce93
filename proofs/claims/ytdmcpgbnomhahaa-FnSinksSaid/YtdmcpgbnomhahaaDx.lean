/-
  A ball out of bytes, numbers out of bytes, how dense air is. No conditions.
-/
import Derived.Test.YtdmcpgbnomhahaaSw
import Derived.Test.YtdmcpgbnomhahaaDw
namespace Go.Proofs.Ytdmcpgbnomhahaa
set_option linter.unusedVariables false
set_option linter.unusedSimpArgs false
open Go.RowKit

def run_R8 : List AV → Mem → T Res
  | [.one (.su 0 1 0 n false)], [some (.cols m [.num .u8 f])] => .need (decide (n = m)) (.need (bytesOK m f) (.all fun y1 => .all fun y2 => .all fun y3 => .all fun y4 => .leaf (.agg [.fl .f32 (dMa y1), .fl .f32 (dRa y2), .fl .f32 (dSp y3), .fl .f32 (dSt y4)], [])))
  | [.one (.val (.slice none 0 0))], [] => (.all fun y1 => .all fun y2 => .all fun y3 => .all fun y4 => .leaf (.agg [.fl .f32 (dMa y1), .fl .f32 (dRa y2), .fl .f32 (dSp y3), .fl .f32 (dSt y4)], []))
  | _, _ => .fail
theorem R8_ev (n m : Nat) (f : Nat → Int) : k_R80.run [.one (.su 0 1 0 n false)] [some (.cols m [.num .u8 f])] = .need (decide (n = m)) (.need (bytesOK m f) (.need true (.all fun y1 => .all fun y2 => .all fun y3 => .all fun y4 => .all fun (_ : Nat) => .leaf (.agg [.fl .f32 (dMa y1), .fl .f32 (dRa y2), .fl .f32 (dSp y3), .fl .f32 (dSt y4)], [])))) := by kernel_rfl
theorem R8_evN : k_R80.run [.one (.val (.slice none 0 0))] [] = .need true (.all fun y1 => .all fun y2 => .all fun y3 => .all fun y4 => .all fun (_ : Nat) => .leaf (.agg [.fl .f32 (dMa y1), .fl .f32 (dRa y2), .fl .f32 (dSp y3), .fl .f32 (dSt y4)], [])) := by kernel_rfl
set_option maxRecDepth 20000 in
noncomputable def k_R8 : Ctr Try.prog := k_R80.to run_R8 (by
  intro args mem hF
  unfold run_R8
  split
  · rename_i n m f
    constructor
    intro Φ hΦ h
    rw [R8_ev]
    exact T.h_need h.1 (T.h_need h.2.1 (T.h_need rfl (fun y1 y2 y3 y4 _ => h.2.2 y1 y2 y3 y4)))
  · constructor
    intro Φ hΦ h
    rw [R8_evN]
    exact T.h_need rfl (fun y1 y2 y3 y4 _ => h y1 y2 y3 y4)
  · exact Weak.fail _)
def a3 (n : Nat) (f : Nat → Int) : Nat := if n ≤ 3 then 0 else (f 3).toNat
def run_At : List AV → Mem → T Res
  | [.one (.su 0 1 0 n false), .one (.int .i64 0), .one (.int .i64 9)], [some (.cols m [.num .u8 f])] => .need (decide (n = m)) (.need (bytesOK m f) (.all fun y => .leaf (.one (.num .i64 ((y % 9 : Nat) : Int)), [])))
  | [.one (.val (.slice none 0 0)), .one (.int .i64 0), .one (.int .i64 9)], [] => (.all fun y => .leaf (.one (.num .i64 ((y % 9 : Nat) : Int)), []))
  | [.one (.su 0 1 0 n false), .one (.int .i64 1), .one (.int .i64 8)], [some (.cols m [.num .u8 f])] => .need (decide (n = m)) (.need (bytesOK m f) (.all fun y => .leaf (.one (.num .i64 ((y % 8 : Nat) : Int)), [])))
  | [.one (.val (.slice none 0 0)), .one (.int .i64 1), .one (.int .i64 8)], [] => (.all fun y => .leaf (.one (.num .i64 ((y % 8 : Nat) : Int)), []))
  | [.one (.su 0 1 0 n false), .one (.int .i64 2), .one (.int .i64 9)], [some (.cols m [.num .u8 f])] => .need (decide (n = m)) (.need (bytesOK m f) (.all fun y => .leaf (.one (.num .i64 ((y % 9 : Nat) : Int)), [])))
  | [.one (.val (.slice none 0 0)), .one (.int .i64 2), .one (.int .i64 9)], [] => (.all fun y => .leaf (.one (.num .i64 ((y % 9 : Nat) : Int)), []))
  | [.one (.su 0 1 0 n false), .one (.int .i64 3), .one (.int .i64 8)], [some (.cols m [.num .u8 f])] => .need (decide (n = m)) (.need (bytesOK m f) (.leaf (.one (.num .i64 (((a3 m f) % 8 : Nat) : Int)), [])))
  | [.one (.val (.slice none 0 0)), .one (.int .i64 3), .one (.int .i64 8)], [] => (.leaf (.one (.num .i64 ((0 % 8 : Nat) : Int)), []))
  | [.one (.su 0 1 0 n false), .one (.int .i64 4), .one (.int .i64 20)], [some (.cols m [.num .u8 f])] => .need (decide (n = m)) (.need (bytesOK m f) (.all fun y => .leaf (.one (.num .i64 ((y % 20 : Nat) : Int)), [])))
  | [.one (.val (.slice none 0 0)), .one (.int .i64 4), .one (.int .i64 20)], [] => (.all fun y => .leaf (.one (.num .i64 ((y % 20 : Nat) : Int)), []))
  | _, _ => .fail
theorem At_ev0 (n m : Nat) (f : Nat → Int) : k_at0.run [.one (.su 0 1 0 n false), .one (.int .i64 0), .one (.int .i64 9)] [some (.cols m [.num .u8 f])] = .ite (decide ((n : Int) ≤ 0)) (.leaf (.one (.int .i64 0), [])) (.need (decide ((0 : Int) ≤ 0) && decide ((0 : Int) < (n : Int))) (.need (decide (Int.toNat 0 + 0 < m)) (.need true (.leaf (.one (.num .i64 ((IntKind.i64.wrap (f (Int.toNat 0 + 0))).tmod 9)), []))))) := by kernel_rfl
theorem At_evN0 : k_at0.run [.one (.val (.slice none 0 0)), .one (.int .i64 0), .one (.int .i64 9)] [] = .leaf (.one (.int .i64 0), []) := by kernel_rfl
theorem At_ev1 (n m : Nat) (f : Nat → Int) : k_at0.run [.one (.su 0 1 0 n false), .one (.int .i64 1), .one (.int .i64 8)] [some (.cols m [.num .u8 f])] = .ite (decide ((n : Int) ≤ 1)) (.leaf (.one (.int .i64 0), [])) (.need (decide ((0 : Int) ≤ 1) && decide ((1 : Int) < (n : Int))) (.need (decide (Int.toNat 1 + 0 < m)) (.need true (.leaf (.one (.num .i64 ((IntKind.i64.wrap (f (Int.toNat 1 + 0))).tmod 8)), []))))) := by kernel_rfl
theorem At_evN1 : k_at0.run [.one (.val (.slice none 0 0)), .one (.int .i64 1), .one (.int .i64 8)] [] = .leaf (.one (.int .i64 0), []) := by kernel_rfl
theorem At_ev2 (n m : Nat) (f : Nat → Int) : k_at0.run [.one (.su 0 1 0 n false), .one (.int .i64 2), .one (.int .i64 9)] [some (.cols m [.num .u8 f])] = .ite (decide ((n : Int) ≤ 2)) (.leaf (.one (.int .i64 0), [])) (.need (decide ((0 : Int) ≤ 2) && decide ((2 : Int) < (n : Int))) (.need (decide (Int.toNat 2 + 0 < m)) (.need true (.leaf (.one (.num .i64 ((IntKind.i64.wrap (f (Int.toNat 2 + 0))).tmod 9)), []))))) := by kernel_rfl
theorem At_evN2 : k_at0.run [.one (.val (.slice none 0 0)), .one (.int .i64 2), .one (.int .i64 9)] [] = .leaf (.one (.int .i64 0), []) := by kernel_rfl
theorem At_ev3 (n m : Nat) (f : Nat → Int) : k_at0.run [.one (.su 0 1 0 n false), .one (.int .i64 3), .one (.int .i64 8)] [some (.cols m [.num .u8 f])] = .ite (decide ((n : Int) ≤ 3)) (.leaf (.one (.int .i64 0), [])) (.need (decide ((0 : Int) ≤ 3) && decide ((3 : Int) < (n : Int))) (.need (decide (Int.toNat 3 + 0 < m)) (.need true (.leaf (.one (.num .i64 ((IntKind.i64.wrap (f (Int.toNat 3 + 0))).tmod 8)), []))))) := by kernel_rfl
theorem At_evN3 : k_at0.run [.one (.val (.slice none 0 0)), .one (.int .i64 3), .one (.int .i64 8)] [] = .leaf (.one (.int .i64 0), []) := by kernel_rfl
theorem At_ev4 (n m : Nat) (f : Nat → Int) : k_at0.run [.one (.su 0 1 0 n false), .one (.int .i64 4), .one (.int .i64 20)] [some (.cols m [.num .u8 f])] = .ite (decide ((n : Int) ≤ 4)) (.leaf (.one (.int .i64 0), [])) (.need (decide ((0 : Int) ≤ 4) && decide ((4 : Int) < (n : Int))) (.need (decide (Int.toNat 4 + 0 < m)) (.need true (.leaf (.one (.num .i64 ((IntKind.i64.wrap (f (Int.toNat 4 + 0))).tmod 20)), []))))) := by kernel_rfl
theorem At_evN4 : k_at0.run [.one (.val (.slice none 0 0)), .one (.int .i64 4), .one (.int .i64 20)] [] = .leaf (.one (.int .i64 0), []) := by kernel_rfl
theorem le2_num (x : Int) : le2 ((.one (.int .i64 x), []) : Res) ((.one (.num .i64 x), []) : Res) := ⟨trivial, fun _ _ h => h⟩
theorem le2_btt (x : Nat) : le2 ((.tup [.one (.fl .f32 x), .one (.bo true)], []) : Res) ((.tup [.one (.fl .f32 x), .one (.tt true)], []) : Res) := ⟨trivial, tup_le ⟨fun _ _ h => h, fun _ _ h => h, trivial⟩⟩
theorem at_0 {Φ : Res → Prop} (hΦ : ∀ r s, le2 r s → Φ s → Φ r) (m : Nat) (h : ∀ y : Nat, Φ (.one (.num .i64 ((y % m : Nat) : Int)), [])) : Φ (.one (.int .i64 0), []) := by
  have h0 := h 0
  rw [Nat.zero_mod] at h0
  exact hΦ _ _ (le2_num 0) h0
theorem at_row {Φ : Res → Prop} (hΦ : ∀ r s, le2 r s → Φ s → Φ r) (k m n : Nat) (f : Nat → Int) (hb : bytesOK n f = true) (h : Φ (.one (.num .i64 (((if n ≤ k then 0 else (f k).toNat) % m : Nat) : Int)), [])) :
    (T.ite (decide ((n : Int) ≤ (k : Int))) (.leaf ((.one (.int .i64 0), []) : Res)) (.need (decide (0 ≤ (k : Int)) && decide ((k : Int) < (n : Int))) (.need (decide ((k : Int).toNat + 0 < n)) (.need true (.leaf (.one (.num .i64 ((IntKind.i64.wrap (f ((k : Int).toNat + 0))).tmod (m : Int))), [])))))).holds Φ := by
  refine T.h_ite (fun hc => T.h_leaf ?_) (fun hc => ?_)
  · have hc := of_decide_eq_true hc
    rw [if_pos (by omega), Nat.zero_mod] at h
    exact hΦ _ _ (le2_num 0) h
  have hc := of_decide_eq_false hc
  rw [if_neg (by omega)] at h
  have hb : ∀ i, i < n → 0 ≤ f i ∧ f i < 256 := of_decide_eq_true hb
  have hk : (k : Int).toNat + 0 < n := by omega
  have hf := hb _ hk
  refine T.h_need (by rw [decide_eq_true (by omega), decide_eq_true (by omega)]; rfl) (T.h_need (decide_eq_true hk) (T.h_need rfl (T.h_leaf ?_)))
  have h1 : Φ (.one (.num .i64 (((f ((k : Int).toNat + 0)).toNat % m : Nat) : Int)), []) := h
  rw [← tmod_nat, Int.toNat_of_nonneg hf.1] at h1
  rw [IntWalk.i64_in _ (by omega)]
  exact h1
set_option maxRecDepth 20000 in
noncomputable def k_At : Ctr Try.prog := k_at0.to run_At (by
  intro args mem hF
  unfold run_At
  split
  · rename_i n m f
    constructor
    intro Φ hΦ h
    have hm : n = m := of_decide_eq_true h.1
    subst hm
    rw [At_ev0]
    exact at_row hΦ 0 9 n f h.2.1 (h.2.2 _)
  · constructor
    intro Φ hΦ h
    rw [At_evN0]
    exact T.h_leaf (at_0 hΦ 9 h)
  · rename_i n m f
    constructor
    intro Φ hΦ h
    have hm : n = m := of_decide_eq_true h.1
    subst hm
    rw [At_ev1]
    exact at_row hΦ 1 8 n f h.2.1 (h.2.2 _)
  · constructor
    intro Φ hΦ h
    rw [At_evN1]
    exact T.h_leaf (at_0 hΦ 8 h)
  · rename_i n m f
    constructor
    intro Φ hΦ h
    have hm : n = m := of_decide_eq_true h.1
    subst hm
    rw [At_ev2]
    exact at_row hΦ 2 9 n f h.2.1 (h.2.2 _)
  · constructor
    intro Φ hΦ h
    rw [At_evN2]
    exact T.h_leaf (at_0 hΦ 9 h)
  · rename_i n m f
    constructor
    intro Φ hΦ h
    have hm : n = m := of_decide_eq_true h.1
    subst hm
    rw [At_ev3]
    exact at_row hΦ 3 8 n f h.2.1 (h.2.2)
  · constructor
    intro Φ hΦ h
    rw [At_evN3]
    exact T.h_leaf (hΦ _ _ (le2_num 0) h)
  · rename_i n m f
    constructor
    intro Φ hΦ h
    have hm : n = m := of_decide_eq_true h.1
    subst hm
    rw [At_ev4]
    exact at_row hΦ 4 20 n f h.2.1 (h.2.2 _)
  · constructor
    intro Φ hΦ h
    rw [At_evN4]
    exact T.h_leaf (at_0 hΦ 20 h)
  · exact Weak.fail _)
noncomputable def th (hi ba sc : Nat) : Nat := fmul .f32 ba (exV (fneg .f32 (fdiv .f32 hi sc)))
noncomputable def thOk (ma ra sp stt ba sc hi : Nat) : Bool := vb ma ra sp stt && (massB ba && (pos sc && (fin .f32 hi && (exOk (fneg FloatKind.f32 (fdiv FloatKind.f32 hi sc)) && fin .f32 (th hi ba sc)))))
noncomputable def run_Thin : List AV → Mem → T Res
  | [.agg [.fl .f32 ma, .fl .f32 ra, .fl .f32 sp, .fl .f32 stt], .one (.fl .f32 ba), .one (.fl .f32 sc), .one (.fl .f32 hi)], _ => .need (thOk ma ra sp stt ba sc hi) (.leaf (.tup [.one (.fl .f32 (th hi ba sc)), .one (.tt true)], []))
  | _, _ => .fail
theorem Thin_ev (ma ra sp stt ba sc hi : Nat) (mem : Mem) : k_sk_i_ThinAt.run [.agg [.fl .f32 ma, .fl .f32 ra, .fl .f32 sp, .fl .f32 stt], .one (.fl .f32 ba), .one (.fl .f32 sc), .one (.fl .f32 hi)] mem = .need (bif bif !vb ma ra sp stt then true else bif !bif fin FloatKind.f32 ba then fge FloatKind.f32 ba 0 else false then true else bif !bif fin FloatKind.f32 sc then fgt FloatKind.f32 sc 0 else false then true else !fin FloatKind.f32 hi then true else exOk (fneg FloatKind.f32 (fdiv FloatKind.f32 hi sc))) (.leaf (.tup [.one (.fl .f32 (bif bif !vb ma ra sp stt then true else bif !bif fin FloatKind.f32 ba then fge FloatKind.f32 ba 0 else false then true else bif !bif fin FloatKind.f32 sc then fgt FloatKind.f32 sc 0 else false then true else !fin FloatKind.f32 hi then 0 else bif !fin .f32 (th hi ba sc) then 0 else th hi ba sc)), .one (.bo (bif bif !vb ma ra sp stt then true else bif !bif fin FloatKind.f32 ba then fge FloatKind.f32 ba 0 else false then true else bif !bif fin FloatKind.f32 sc then fgt FloatKind.f32 sc 0 else false then true else !fin FloatKind.f32 hi then false else !!fin .f32 (th hi ba sc)))], [])) := by kernel_rfl
noncomputable def k_iThin : Ctr Try.prog := k_sk_i_ThinAt.to run_Thin (by
  intro args mem hF
  unfold run_Thin
  split
  · rename_i ma ra sp stt ba sc hi
    constructor
    intro Φ hΦ h
    rw [Thin_ev]
    have h1 := h.1
    unfold thOk massB pos at h1
    simp only [Bool.and_eq_true] at h1
    obtain ⟨a1, ⟨a2, a3⟩, ⟨a4, a5⟩, a6, a7, a8⟩ := h1
    rw [a1, a2, a3, a4, a5, a6, a7, a8]
    refine T.h_need rfl (T.h_leaf ?_)
    exact (hΦ _ _ (le2_btt (th hi ba sc)) h.2 : Φ (.tup [.one (.fl .f32 (th hi ba sc)), .one (.bo true)], []))
  · exact Weak.fail _)
noncomputable def run_Sr1 : List AV → Mem → T Res
  | [.agg [.fl .f32 ma, .fl .f32 ra, .fl .f32 sp, .fl .f32 stt], .one (.fl .f32 lo), .one (.fl .f32 dr), .one (.fl .f32 ba), .one (.fl .f32 sc), .one (.fl .f32 ti), .one (.num .i64 st)], [] => .need (skTest ma ra sp stt lo dr ba sc ti st) (.need (!(skRun ma ra lo dr ba sc ti st).1) (.leaf (.tup [.one (.su 1 1 0 (skRun ma ra lo dr ba sc ti st).2.1 false), .one (.bo (!fgt .f32 (skRun ma ra lo dr ba sc ti st).2.2.1 ra)), .one (.tt true)], [none, some (.cols (skRun ma ra lo dr ba sc ti st).2.1 [.fl .f32 (skRun ma ra lo dr ba sc ti st).2.2.2]), none])))
  | _, _ => .fail
noncomputable def k_Sr1 : Ctr Try.prog := k_iSr.to run_Sr1 (by
  intro args mem hF
  unfold run_Sr1
  split
  · rename_i ma ra sp stt lo dr ba sc ti st
    constructor
    intro Φ hΦ h
    have h1 : (skRun ma ra lo dr ba sc ti st).1 = false := by have := h.2.1; revert this; cases (skRun ma ra lo dr ba sc ti st).1 <;> simp
    show ((T.ite (skTest ma ra sp stt lo dr ba sc ti st) (.ite (skRun ma ra lo dr ba sc ti st).1 (.leaf ((.tup [.one (.val (.slice none 0 0)), .one (.tt false), .one (.tt false)], []) : Res)) (.leaf (.tup [.one (.su 1 1 0 (skRun ma ra lo dr ba sc ti st).2.1 false), .one (.bo (!fgt .f32 (skRun ma ra lo dr ba sc ti st).2.2.1 ra)), .one (.tt true)], [none, some (.cols (skRun ma ra lo dr ba sc ti st).2.1 [.fl .f32 (skRun ma ra lo dr ba sc ti st).2.2.2]), none]))) (.leaf (.tup [.one (.val (.slice none 0 0)), .one (.tt false), .one (.tt false)], []))) : T Res).holds Φ
    exact T.h_ite (fun _ => T.h_ite (fun hc => absurd hc (by rw [h1]; simp)) (fun _ => h.2.2)) (fun hc => absurd h.1 (by rw [hc]; simp))
  · exact Weak.fail _)

end Go.Proofs.Ytdmcpgbnomhahaa
