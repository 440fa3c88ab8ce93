/-
  SinkLong: one step. No conditions.
-/
import Derived.Test.YtdmcpgbnomhahaaEx
import Derived.Test.YtdmcpgbnomhahaaLy
namespace Go.Proofs.Ytdmcpgbnomhahaa
set_option linter.unusedVariables false
set_option linter.unusedSimpArgs false
open Go.RowKit

def pos (x : Nat) : Bool := fin .f32 x && fgt .f32 x 0
def vb (x y z u : Nat) : Bool := pos x && (pos y && (fin .f32 z && fin .f32 u))
noncomputable def k_bl_s_l02Above : Ctr Try.prog := (mkF Try.prog mix [k_l01Finite] 66 Try.f66 (bodyOf Try.f66) Try.func66 (by kernel_rfl) (by kernel_rfl) [0, 2] 9 (by kernel_rfl) (by kernel_rfl)).mg
noncomputable def k_bl_s_l06Ball : Ctr Try.prog := (mkF Try.prog mix [k_l01Finite, k_bl_s_l02Above] 80 Try.f80 (bodyOf Try.f80) Try.func80 (by kernel_rfl) (by kernel_rfl) [0, 2] 29 (by kernel_rfl) (by kernel_rfl)).mg
noncomputable def k_bl_i_areFiniteD1 : Ctr Try.prog := (mkF Try.prog mix [k_IsFinite] 91 Try.f91 (bodyOf Try.f91) Try.func91 (by kernel_rfl) (by kernel_rfl) [0, 2] 6 (by kernel_rfl) (by kernel_rfl)).mg
noncomputable def k_bl_g_slices_IndexFunc_float32_i_areFinite : Ctr Try.prog := (mkF Try.prog mix [k_bl_i_areFiniteD1] 107 Try.f107 (bodyOf Try.f107) Try.func107 (by kernel_rfl) (by kernel_rfl) [0, 1, 4, 5, 7, 8, 9, 16] 19 (by kernel_rfl) (by kernel_rfl)).mg
noncomputable def k_bl_g_slices_ContainsFunc_float32_i_areFinite : Ctr Try.prog := (mkF Try.prog mix [k_bl_g_slices_IndexFunc_float32_i_areFinite, k_bl_i_areFiniteD1] 90 Try.f90 (bodyOf Try.f90) Try.func90 (by kernel_rfl) (by kernel_rfl) [0, 1, 4] 9 (by kernel_rfl) (by kernel_rfl)).mg
noncomputable def k_bl_i_areFinite : Ctr Try.prog := (mkF Try.prog mix [k_bl_i_areFiniteD1, k_bl_g_slices_ContainsFunc_float32_i_areFinite] 57 Try.f57 (bodyOf Try.f57) Try.func57 (by kernel_rfl) (by kernel_rfl) [0, 2] 6 (by kernel_rfl) (by kernel_rfl)).mg
noncomputable def k_bl_i_aLength : Ctr Try.prog := (mkF Try.prog mix [k_IsFinite] 63 Try.f63 (bodyOf Try.f63) Try.func63 (by kernel_rfl) (by kernel_rfl) [0, 2] 9 (by kernel_rfl) (by kernel_rfl)).mg
noncomputable def k_bl_i_areLengths : Ctr Try.prog := (mkF Try.prog mix [k_bl_i_aLength] 94 Try.f94 (bodyOf Try.f94) Try.func94 (by kernel_rfl) (by kernel_rfl) [0, 2, 4, 5, 6, 7, 8, 13] 15 (by kernel_rfl) (by kernel_rfl)).mg
noncomputable def k_bl_i_ValidBall : Ctr Try.prog := (mkF Try.prog mix [k_bl_i_areFinite, k_bl_i_areLengths] 62 Try.f62 (bodyOf Try.f62) Try.func62 (by kernel_rfl) (by kernel_rfl) [0, 1, 2] 17 (by kernel_rfl) (by kernel_rfl)).mg
theorem svb_b (b0 b1 b2 b3 b4 b5 : Bool) : (bif bif b0 then b1 else false then bif bif b2 then b3 else false then bif b4 then b5 else false else false else false) = ((b0 && b1) && ((b2 && b3) && (b4 && b5))) := by
  cases b0 <;> cases b1 <;> cases b2 <;> cases b3 <;> cases b4 <;> cases b5 <;> rfl
noncomputable def run_svb0 : List AV → Mem → T Res
  | [.one (.ptr 0 4 0 0)], [some (.box [.fl .f32 x, .fl .f32 y, .fl .f32 z, .fl .f32 u])] => .leaf (.one (.bo (vb x y z u)), [])
  | _, _ => .fail
theorem svb0_ev (x y z u : Nat) : k_bl_s_l06Ball.run [.one (.ptr 0 4 0 0)] [some (.box [.fl .f32 x, .fl .f32 y, .fl .f32 z, .fl .f32 u])] = .leaf (.one (.bo (bif bif fin FloatKind.f32 x then fgt FloatKind.f32 x (0) else false then bif bif fin FloatKind.f32 y then fgt FloatKind.f32 y (0) else false then bif fin FloatKind.f32 z then fin FloatKind.f32 u else false else false else false)), []) := by kernel_rfl
noncomputable def k_svb0 : Ctr Try.prog := k_bl_s_l06Ball.to run_svb0 (by
  intro args mem _
  unfold run_svb0
  split
  · rw [svb0_ev]
    exact Weak.of_eq (by rw [svb_b]; rfl)
  · exact Weak.fail _)
noncomputable def k_svb : Ctr Try.prog := k_svb0.own
theorem ivb_b (b0 b1 b2 b3 b4 b5 : Bool) : (bif bif !bif b0 then b1 else false then false else !!bif b2 then b3 else false then !decide (0 ≤ bif !b4 then 0 else bif !b5 then IntKind.i64.wrap (0 + 1) else -1) else false) = ((b0 && b1) && ((b2 && b3) && (b4 && b5))) := by
  cases b0 <;> cases b1 <;> cases b2 <;> cases b3 <;> cases b4 <;> cases b5 <;> rfl
noncomputable def run_ivb : List AV → Mem → T Res
  | [.agg [.fl .f32 x, .fl .f32 y, .fl .f32 z, .fl .f32 u]], _ => .leaf (.one (.bo (vb x y z u)), [])
  | _, _ => .fail
theorem ivb_ev (x y z u : Nat) (mem : Mem) : k_bl_i_ValidBall.run [.agg [.fl .f32 x, .fl .f32 y, .fl .f32 z, .fl .f32 u]] mem = .leaf (.one (.bo (bif bif !bif fin FloatKind.f32 x then fgt FloatKind.f32 x (0) else false then false else !!bif fin FloatKind.f32 y then fgt FloatKind.f32 y (0) else false then !decide (0 ≤ bif !fin FloatKind.f32 z then 0 else bif !fin FloatKind.f32 u then IntKind.i64.wrap (0 + 1) else -1) else false)), []) := by kernel_rfl
noncomputable def k_ivb : Ctr Try.prog := k_bl_i_ValidBall.to run_ivb (by
  intro args mem _
  unfold run_ivb
  split
  · rw [ivb_ev]
    exact Weak.of_eq (by rw [ivb_b]; rfl)
  · exact Weak.fail _)
noncomputable def k_sk_s_l02Above : Ctr Try.prog := (mkF Try.prog mix [k_l01Finite] 66 Try.f66 (bodyOf Try.f66) Try.func66 (by kernel_rfl) (by kernel_rfl) [0, 2, 198] 9 (by kernel_rfl) (by kernel_rfl)).mg
noncomputable def k_sk_s_l02Least : Ctr Try.prog := (mkF Try.prog mix [k_l01Finite] 81 Try.f81 (bodyOf Try.f81) Try.func81 (by kernel_rfl) (by kernel_rfl) [0, 2, 198] 9 (by kernel_rfl) (by kernel_rfl)).mg
noncomputable def k_sk_s_l06Air : Ctr Try.prog := (mkF Try.prog mix [k_sk_s_l02Above, k_svb, k_sk_s_l02Least] 47 Try.f47 (bodyOf Try.f47) Try.func47 (by kernel_rfl) (by kernel_rfl) [0, 1, 2, 3, 4, 10, 198] 29 (by kernel_rfl) (by kernel_rfl)).mg
noncomputable def k_sk_s_l06Thin : Ctr Try.prog := (mkF Try.prog mix [k_l01Exp] 82 Try.f82 (bodyOf Try.f82) Try.func82 (by kernel_rfl) (by kernel_rfl) [0, 1, 2, 6, 198] 14 (by kernel_rfl) (by kernel_rfl)).mg
noncomputable def k_sk_s_l02Number : Ctr Try.prog := (mkF Try.prog mix [k_l01Finite] 84 Try.f84 (bodyOf Try.f84) Try.func84 (by kernel_rfl) (by kernel_rfl) [0, 2, 3, 6, 198] 8 (by kernel_rfl) (by kernel_rfl)).mg
noncomputable def k_sk_s_l06Sink : Ctr Try.prog := (mkF Try.prog mix [k_l01Finite, k_sk_s_l06Thin, k_l01Sqrt, k_sk_s_l02Number] 49 Try.f49 (bodyOf Try.f49) Try.func49 (by kernel_rfl) (by kernel_rfl) [0, 1, 2, 3, 4, 5, 12, 13, 14, 15, 16, 17, 18, 198] 59 (by kernel_rfl) (by kernel_rfl)).mg
noncomputable def k_sk_i_aMass : Ctr Try.prog := (mkF Try.prog mix [k_IsFinite] 50 Try.f50 (bodyOf Try.f50) Try.func50 (by kernel_rfl) (by kernel_rfl) [0, 2, 198] 9 (by kernel_rfl) (by kernel_rfl)).mg
noncomputable def k_sk_i_told : Ctr Try.prog := (mkF Try.prog mix [k_IsFinite] 52 Try.f52 (bodyOf Try.f52) Try.func52 (by kernel_rfl) (by kernel_rfl) [0, 2, 3, 6, 198] 8 (by kernel_rfl) (by kernel_rfl)).mg
noncomputable def k_sk_i_aLength : Ctr Try.prog := (mkF Try.prog mix [k_IsFinite] 63 Try.f63 (bodyOf Try.f63) Try.func63 (by kernel_rfl) (by kernel_rfl) [0, 2, 198] 9 (by kernel_rfl) (by kernel_rfl)).mg
noncomputable def k_sk_i_thin : Ctr Try.prog := (mkF Try.prog mix [k_ExpNumber] 64 Try.f64 (bodyOf Try.f64) Try.func64 (by kernel_rfl) (by kernel_rfl) [0, 1, 2, 6, 198] 14 (by kernel_rfl) (by kernel_rfl)).mg
noncomputable def k_sk_i_ThinAt : Ctr Try.prog := (mkF Try.prog mix [k_sk_i_aMass, k_IsFinite, k_sk_i_told, k_ivb, k_sk_i_aLength, k_sk_i_thin] 34 Try.f34 (bodyOf Try.f34) Try.func34 (by kernel_rfl) (by kernel_rfl) [0, 1, 2, 3, 4, 8, 9, 27, 198] 35 (by kernel_rfl) (by kernel_rfl)).mg
noncomputable def k_sk_i_SinkLong : Ctr Try.prog := (mkF Try.prog mix [k_sk_i_ThinAt, k_sk_i_aMass, k_IsFinite, k_sk_i_told, k_RootNumber] 23 Try.f23 (bodyOf Try.f23) Try.func23 (by kernel_rfl) (by kernel_rfl) [0, 1, 2, 3, 4, 5, 6, 12, 13, 14, 15, 50, 198] 67 (by kernel_rfl) (by kernel_rfl)).mg
theorem canon_fcvt (x : Nat) : canon .f32 (fcvt .f64 .f32 x) = fcvt .f64 .f32 x := by
  unfold fcvt
  split
  · decide
  · rename_i hn
    rw [if_neg (by decide)]
    exact (encode_flIs .f32 (by unfold isNan at hn; simpa using hn)).2
theorem all_of {Φ : Res → Prop} (h : ∀ y, (T.leaf ((.one (.fl .f32 (canon .f32 y)), []) : Res)).holds Φ) (x : Nat) (hx : canon .f32 x = x) : (T.leaf ((.one (.fl .f32 x), []) : Res)).holds Φ := by
  have := h x
  rw [hx] at this
  exact this
noncomputable def k_wide0 : Ctr Try.prog := Ctr.wide _
noncomputable def k_ew0 : Ctr Try.prog := mkC Try.prog mix [k_inf, k_wide0] 95 Try.f95 (bodyOf Try.f95) Try.func95 (by kernel_rfl) (by kernel_rfl) []
theorem ew0_ev (x : Nat) (mem : Mem) : k_ew0.run [.one (.fl .f32 x)] mem = .ite (fgt .f32 x 1128792064) (.ite (cvtFits .f64 .f32 (9218868437227405312)) (.leaf (.one (.fl .f32 (fcvt .f64 .f32 (9218868437227405312))), [])) (.all fun y => .leaf (.one (.fl .f32 (canon .f32 y)), []))) (.ite (flt .f32 x 3276275712) (.leaf (.one (.fl .f32 0), [])) (.ite (cvtFits .f64 .f32 (exF (fdiv .f64 (fcvt .f32 .f64 x) 4643211215818981376))) (.leaf (.one (.fl .f32 (fcvt .f64 .f32 (exF (fdiv .f64 (fcvt .f32 .f64 x) 4643211215818981376)))), [])) (.all fun y => .leaf (.one (.fl .f32 (canon .f32 y)), [])))) := by kernel_rfl
noncomputable def k_ew : Ctr Try.prog := k_ew0.to (runF .f32 fun x => .all fun y => .leaf (.one (.fl .f32 (canon .f32 y)))) (weak_F (C := k_ew0) fun x mem _ => ⟨fun Φ hΦ h => by
  rw [ew0_ev]
  exact T.h_ite (fun _ => T.h_ite (fun _ => all_of h _ (canon_fcvt _)) (fun _ => h)) (fun _ => T.h_ite (fun _ => all_of h 0 (by decide)) (fun _ => T.h_ite (fun _ => all_of h _ (canon_fcvt _)) (fun _ => h)))⟩)
noncomputable def k_sw_i_told : Ctr Try.prog := (mkF Try.prog mix [k_IsFinite] 52 Try.f52 (bodyOf Try.f52) Try.func52 (by kernel_rfl) (by kernel_rfl) [0, 2, 3, 6, 198] 8 (by kernel_rfl) (by kernel_rfl)).mg
noncomputable def k_sw_i_thin : Ctr Try.prog := (mkF Try.prog mix [k_ew] 64 Try.f64 (bodyOf Try.f64) Try.func64 (by kernel_rfl) (by kernel_rfl) [0, 1, 2, 6, 198] 14 (by kernel_rfl) (by kernel_rfl)).mg
noncomputable def k_sw_i_ThinAt : Ctr Try.prog := (mkF Try.prog mix [k_sk_i_aMass, k_IsFinite, k_sw_i_told, k_ivb, k_sk_i_aLength, k_sw_i_thin] 34 Try.f34 (bodyOf Try.f34) Try.func34 (by kernel_rfl) (by kernel_rfl) [0, 1, 2, 3, 4, 8, 9, 27, 198] 35 (by kernel_rfl) (by kernel_rfl)).mg
noncomputable def k_sw_i_SinkLong : Ctr Try.prog := (mkF Try.prog mix [k_sw_i_ThinAt, k_sk_i_aMass, k_IsFinite, k_sw_i_told, k_RootNumber] 23 Try.f23 (bodyOf Try.f23) Try.func23 (by kernel_rfl) (by kernel_rfl) [0, 1, 2, 3, 4, 5, 6, 12, 13, 14, 15, 50, 198] 67 (by kernel_rfl) (by kernel_rfl)).mg
def massB (x : Nat) : Bool := fin .f32 x && fge .f32 x 0
def skA (ra lo sc : Nat) : Nat := fneg .f32 (fdiv .f32 (fsub .f32 lo ra) sc)
noncomputable def thinV (ra lo ba sc : Nat) : Nat := fmul .f32 ba (exV (skA ra lo sc))
noncomputable def skX (ma ra lo dr ba sc ti : Nat) : Nat := fsub .f32 lo (fmul .f32 (fmul .f32 (fmul .f32 ti dr) (thinV ra lo ba sc)) (rootV (fmul .f32 ma lo)))
noncomputable def skOk (ma ra lo dr ba sc ti : Nat) : Bool := fin .f32 (skX ma ra lo dr ba sc ti) && (fin .f32 (thinV ra lo ba sc) && fin .f32 (fsub .f32 lo ra))
def airB (ma ra sp stt dr ba sc ti : Nat) : Bool := vb ma ra sp stt && (massB dr && (massB ba && (pos sc && massB ti)))
def skTs (ma ra sp stt lo dr ba sc ti : Nat) : Bool := airB ma ra sp stt dr ba sc ti && (fin .f32 lo && fgt .f32 lo ra)
noncomputable def skAll (ma ra sp stt lo dr ba sc ti : Nat) : Bool := airB ma ra sp stt dr ba sc ti && (fin .f32 lo && (fgt .f32 lo ra && skOk ma ra lo dr ba sc ti))
theorem sSink_eq (ma ra sp stt lo dr ba sc ti : Nat) : (bif !!fin FloatKind.f32 (fsub FloatKind.f32 lo (fmul FloatKind.f32 (fmul FloatKind.f32 (fmul FloatKind.f32 ti dr) (fmul FloatKind.f32 ba (exV (fneg FloatKind.f32 (fdiv FloatKind.f32 (fsub FloatKind.f32 lo ra) sc))))) (rootV (fmul FloatKind.f32 ma lo)))) then bif fin FloatKind.f32 (fmul FloatKind.f32 ba (exV (fneg FloatKind.f32 (fdiv FloatKind.f32 (fsub FloatKind.f32 lo ra) sc)))) then bif !fin FloatKind.f32 (fsub FloatKind.f32 lo (fmul FloatKind.f32 (fmul FloatKind.f32 (fmul FloatKind.f32 ti dr) (fmul FloatKind.f32 ba (exV (fneg FloatKind.f32 (fdiv FloatKind.f32 (fsub FloatKind.f32 lo ra) sc))))) (rootV (fmul FloatKind.f32 ma lo)))) then 0 else fsub FloatKind.f32 lo (fmul FloatKind.f32 (fmul FloatKind.f32 (fmul FloatKind.f32 ti dr) (fmul FloatKind.f32 ba (exV (fneg FloatKind.f32 (fdiv FloatKind.f32 (fsub FloatKind.f32 lo ra) sc))))) (rootV (fmul FloatKind.f32 ma lo))) else bif !fin FloatKind.f32 (fsub FloatKind.f32 lo (fmul FloatKind.f32 (fmul FloatKind.f32 (fmul FloatKind.f32 ti dr) (fmul FloatKind.f32 ba (exV (fneg FloatKind.f32 (fdiv FloatKind.f32 (fsub FloatKind.f32 lo ra) sc))))) (rootV (fmul FloatKind.f32 ma lo)))) then 0 else fsub FloatKind.f32 lo (fmul FloatKind.f32 (fmul FloatKind.f32 (fmul FloatKind.f32 ti dr) (fmul FloatKind.f32 ba (exV (fneg FloatKind.f32 (fdiv FloatKind.f32 (fsub FloatKind.f32 lo ra) sc))))) (rootV (fmul FloatKind.f32 ma lo))) else bif !fin FloatKind.f32 (fsub FloatKind.f32 lo (fmul FloatKind.f32 (fmul FloatKind.f32 (fmul FloatKind.f32 ti dr) (fmul FloatKind.f32 ba (exV (fneg FloatKind.f32 (fdiv FloatKind.f32 (fsub FloatKind.f32 lo ra) sc))))) (rootV (fmul FloatKind.f32 ma lo)))) then 0 else fsub FloatKind.f32 lo (fmul FloatKind.f32 (fmul FloatKind.f32 (fmul FloatKind.f32 ti dr) (fmul FloatKind.f32 ba (exV (fneg FloatKind.f32 (fdiv FloatKind.f32 (fsub FloatKind.f32 lo ra) sc))))) (rootV (fmul FloatKind.f32 ma lo)))) = (bif fin .f32 (skX ma ra lo dr ba sc ti) then skX ma ra lo dr ba sc ti else 0) ∧ (bif !!fin FloatKind.f32 (fsub FloatKind.f32 lo (fmul FloatKind.f32 (fmul FloatKind.f32 (fmul FloatKind.f32 ti dr) (fmul FloatKind.f32 ba (exV (fneg FloatKind.f32 (fdiv FloatKind.f32 (fsub FloatKind.f32 lo ra) sc))))) (rootV (fmul FloatKind.f32 ma lo)))) then bif fin FloatKind.f32 (fmul FloatKind.f32 ba (exV (fneg FloatKind.f32 (fdiv FloatKind.f32 (fsub FloatKind.f32 lo ra) sc)))) then fin FloatKind.f32 (fsub FloatKind.f32 lo ra) else false else false) = skOk ma ra lo dr ba sc ti := by
  unfold skOk skX thinV skA
  generalize fsub FloatKind.f32 lo (fmul FloatKind.f32 (fmul FloatKind.f32 (fmul FloatKind.f32 ti dr) (fmul FloatKind.f32 ba (exV (fneg FloatKind.f32 (fdiv FloatKind.f32 (fsub FloatKind.f32 lo ra) sc))))) (rootV (fmul FloatKind.f32 ma lo))) = X
  generalize fin FloatKind.f32 (fmul FloatKind.f32 ba (exV (fneg FloatKind.f32 (fdiv FloatKind.f32 (fsub FloatKind.f32 lo ra) sc)))) = q
  generalize fin FloatKind.f32 (fsub FloatKind.f32 lo ra) = u
  cases fin FloatKind.f32 X <;> cases q <;> cases u <;> exact ⟨rfl, rfl⟩
theorem iSink_sh (t lo ti dr ma : Nat) (A1 A2 A3 A4 A5 A6 A7 A8 A9 A10 A11 A12 A13 : Bool) : (bif bif !bif bif !A1 then true else bif !bif A2 then A3 else false then true else bif !bif A4 then A5 else false then true else !A6 then false else !!A7 then true else bif !bif A8 then A9 else false then true else bif !bif A10 then A11 else false then true else bif !A12 then true else !A13 then 0 else bif !fin FloatKind.f32 (fsub FloatKind.f32 lo (fmul FloatKind.f32 (fmul FloatKind.f32 (fmul FloatKind.f32 ti dr) (bif bif !A1 then true else bif !bif A2 then A3 else false then true else bif !bif A4 then A5 else false then true else !A6 then 0 else bif !A7 then 0 else t)) (rootV (fmul FloatKind.f32 ma lo)))) then 0 else fsub FloatKind.f32 lo (fmul FloatKind.f32 (fmul FloatKind.f32 (fmul FloatKind.f32 ti dr) (bif bif !A1 then true else bif !bif A2 then A3 else false then true else bif !bif A4 then A5 else false then true else !A6 then 0 else bif !A7 then 0 else t)) (rootV (fmul FloatKind.f32 ma lo)))) = (bif ((A1 && ((A8 && A9) && ((A2 && A3) && ((A4 && A5) && (A10 && A11))))) && (A12 && (A13 && (fin .f32 (fsub .f32 lo (fmul .f32 (fmul .f32 (fmul .f32 ti dr) t) (rootV (fmul .f32 ma lo)))) && (A7 && A6))))) then fsub .f32 lo (fmul .f32 (fmul .f32 (fmul .f32 ti dr) t) (rootV (fmul .f32 ma lo))) else 0) ∧ (bif bif !bif bif !A1 then true else bif !bif A2 then A3 else false then true else bif !bif A4 then A5 else false then true else !A6 then false else !!A7 then true else bif !bif A8 then A9 else false then true else bif !bif A10 then A11 else false then true else bif !A12 then true else !A13 then false else !!fin FloatKind.f32 (fsub FloatKind.f32 lo (fmul FloatKind.f32 (fmul FloatKind.f32 (fmul FloatKind.f32 ti dr) (bif bif !A1 then true else bif !bif A2 then A3 else false then true else bif !bif A4 then A5 else false then true else !A6 then 0 else bif !A7 then 0 else t)) (rootV (fmul FloatKind.f32 ma lo))))) = ((A1 && ((A8 && A9) && ((A2 && A3) && ((A4 && A5) && (A10 && A11))))) && (A12 && (A13 && (fin .f32 (fsub .f32 lo (fmul .f32 (fmul .f32 (fmul .f32 ti dr) t) (rootV (fmul .f32 ma lo)))) && (A7 && A6))))) := by
  cases A1
  · simp
  cases A2
  · simp
  cases A3
  · simp
  cases A4
  · simp
  cases A5
  · simp
  cases A6
  · simp
  cases A7
  · simp
  cases A8
  · simp
  cases A9
  · simp
  cases A10
  · simp
  cases A11
  · simp
  cases A12
  · simp
  cases A13
  · simp
  simp
def iNeed (ma ra sp stt lo ba sc : Nat) (e : Bool) : Bool := bif bif !vb ma ra sp stt then true else bif !bif fin FloatKind.f32 ba then fge FloatKind.f32 ba (0) else false then true else bif !bif fin FloatKind.f32 sc then fgt FloatKind.f32 sc (0) else false then true else !fin FloatKind.f32 (fsub FloatKind.f32 lo ra) then true else e
theorem iSinkW_ev (ma ra sp stt lo dr ba sc ti : Nat) (mem : Mem) : k_sw_i_SinkLong.run [.agg [.fl .f32 ma, .fl .f32 ra, .fl .f32 sp, .fl .f32 stt], .one (.fl .f32 lo), .one (.fl .f32 dr), .one (.fl .f32 ba), .one (.fl .f32 sc), .one (.fl .f32 ti)] mem = .ite (bif !vb ma ra sp stt then true else bif !bif fin FloatKind.f32 ba then fge FloatKind.f32 ba (0) else false then true else bif !bif fin FloatKind.f32 sc then fgt FloatKind.f32 sc (0) else false then true else !fin FloatKind.f32 (fsub FloatKind.f32 lo ra)) (.leaf (.tup [.one (.fl .f32 0), .one (.tt false)], [])) (.all fun x => .leaf (.tup [.one (.fl .f32 (bif bif !!!fin FloatKind.f32 (fmul FloatKind.f32 ba (canon FloatKind.f32 x)) then true else bif !bif fin FloatKind.f32 dr then fge FloatKind.f32 dr (0) else false then true else bif !bif fin FloatKind.f32 ti then fge FloatKind.f32 ti (0) else false then true else bif !fin FloatKind.f32 lo then true else !fgt FloatKind.f32 lo ra then 0 else bif !fin FloatKind.f32 (fsub FloatKind.f32 lo (fmul FloatKind.f32 (fmul FloatKind.f32 (fmul FloatKind.f32 ti dr) (bif !fin FloatKind.f32 (fmul FloatKind.f32 ba (canon FloatKind.f32 x)) then 0 else fmul FloatKind.f32 ba (canon FloatKind.f32 x))) (rootV (fmul FloatKind.f32 ma lo)))) then 0 else fsub FloatKind.f32 lo (fmul FloatKind.f32 (fmul FloatKind.f32 (fmul FloatKind.f32 ti dr) (bif !fin FloatKind.f32 (fmul FloatKind.f32 ba (canon FloatKind.f32 x)) then 0 else fmul FloatKind.f32 ba (canon FloatKind.f32 x))) (rootV (fmul FloatKind.f32 ma lo))))), .one (.bo (bif bif !!!fin FloatKind.f32 (fmul FloatKind.f32 ba (canon FloatKind.f32 x)) then true else bif !bif fin FloatKind.f32 dr then fge FloatKind.f32 dr (0) else false then true else bif !bif fin FloatKind.f32 ti then fge FloatKind.f32 ti (0) else false then true else bif !fin FloatKind.f32 lo then true else !fgt FloatKind.f32 lo ra then false else !!fin FloatKind.f32 (fsub FloatKind.f32 lo (fmul FloatKind.f32 (fmul FloatKind.f32 (fmul FloatKind.f32 ti dr) (bif !fin FloatKind.f32 (fmul FloatKind.f32 ba (canon FloatKind.f32 x)) then 0 else fmul FloatKind.f32 ba (canon FloatKind.f32 x))) (rootV (fmul FloatKind.f32 ma lo))))))], [])) := by kernel_rfl
theorem wcond (w d1 d2 t1 t2 l g : Bool) (h : ((d1 && d2) && ((t1 && t2) && (l && g))) = false) : (bif !!!w then true else bif !bif d1 then d2 else false then true else bif !bif t1 then t2 else false then true else bif !l then true else !g) = true := by
  revert h; cases w <;> cases d1 <;> cases d2 <;> cases t1 <;> cases t2 <;> cases l <;> cases g <;> decide
theorem wpass (A1 A2 A3 A4 A5 A6 : Bool) (h : (bif !A1 then true else bif !bif A2 then A3 else false then true else bif !bif A4 then A5 else false then true else !A6) = false) : A1 = true ∧ (A2 && A3) = true ∧ (A4 && A5) = true ∧ A6 = true := by
  revert h; cases A1 <;> cases A2 <;> cases A3 <;> cases A4 <;> cases A5 <;> cases A6 <;> decide
theorem pos_sgv {x : Nat} (h : pos x = true) : fin .f32 x = true ∧ 0 < sgv FloatKind.f32.format x := by
  unfold pos at h
  have hf : fin .f32 x = true := by revert h; cases fin .f32 x <;> simp
  have hg : fgt .f32 x 0 = true := by revert h; cases fgt .f32 x 0 <;> simp
  rw [fgt_iff, fin_not_nan hf, show isNan .f32 0 = false by decide +kernel, show sgv FloatKind.f32.format 0 = 0 by decide +kernel] at hg
  simp only [Bool.not_false, Bool.true_and, decide_eq_true_eq] at hg
  exact ⟨hf, hg⟩
theorem skA_ok {ra lo sc : Nat} (h1 : fin .f32 lo = true) (h2 : pos ra = true) (h3 : fgt .f32 lo ra = true) (h4 : pos sc = true) : exOk (skA ra lo sc) = true := by
  refine exOk_of ?_
  unfold skA
  obtain ⟨hsf, hsg⟩ := pos_sgv h4
  obtain ⟨hrf, hrg⟩ := pos_sgv h2
  have g3 := h3
  rw [fgt_iff, fin_not_nan h1, fin_not_nan hrf] at g3
  simp only [Bool.not_false, Bool.true_and, decide_eq_true_eq] at g3
  have hss : sgn FloatKind.f32.format sc = false := by
    unfold sgv at hsg
    cases hs : sgn FloatKind.f32.format sc with
    | false => rfl
    | true => rw [hs] at hsg; simp only [if_true] at hsg; omega
  have hs0 : V FloatKind.f32.format (rung FloatKind.f32.format sc) ≠ 0 := by
    unfold sgv at hsg
    rw [hss] at hsg; simp only [Bool.false_eq_true, if_false] at hsg; omega
  have hdf := fin_fsub_pos (k := .f32) h1 hrf (by omega) g3
  have hds := sgn_fsub_pos (k := .f32) h1 hrf g3
  obtain ⟨r, r1, r2⟩ := fdiv_word hdf hsf hs0
  have hqr : rung FloatKind.f32.format (fdiv .f32 (fsub .f32 lo ra) sc) ≤ FloatKind.f32.format.infRung := by rw [r2, rung_word .f32 _ r1]; exact r1
  have hqn : isNan .f32 (fdiv .f32 (fsub .f32 lo ra) sc) = false := by rw [isNan_iff]; exact decide_eq_false (by omega)
  have hqs : sgn FloatKind.f32.format (fdiv .f32 (fsub .f32 lo ra) sc) = false := by
    rw [r2, sgn_word .f32 _ (Nat.lt_of_le_of_lt r1 (inf_lt_sw .f32)), hds, hss]; rfl
  have hn := sgv_fneg (k := .f32) hqn
  have hn2 : isNan .f32 (fneg .f32 (fdiv .f32 (fsub .f32 lo ra) sc)) = false := by rw [isNan_iff, rung_fneg hqn]; exact decide_eq_false (by omega)
  have h40 : (0 : Int) < sgv FloatKind.f32.format 1109393408 := by decide +kernel
  rw [fgt_iff, hn2, show isNan .f32 1109393408 = false by decide +kernel, hn]
  simp only [Bool.not_false, Bool.true_and, decide_eq_false_iff_not, Int.not_lt]
  have hq0 : 0 ≤ sgv FloatKind.f32.format (fdiv .f32 (fsub .f32 lo ra) sc) := by
    unfold sgv; rw [hqs]; simp only [Bool.false_eq_true, if_false]; omega
  omega

noncomputable def run_sSink : List AV → Mem → T Res
  | [.one (.ptr 0 4 0 0), .one (.fl .f32 lo), .one (.fl .f32 dr), .one (.fl .f32 ba), .one (.fl .f32 sc), .one (.fl .f32 ti)], [some (.box [.fl .f32 ma, .fl .f32 ra, .fl .f32 sp, .fl .f32 stt])] => .need (exOk (skA ra lo sc)) (.leaf (.tup [.one (.fl .f32 (bif fin .f32 (skX ma ra lo dr ba sc ti) then skX ma ra lo dr ba sc ti else 0)), .one (.bo (skOk ma ra lo dr ba sc ti))], []))
  | _, _ => .fail
noncomputable def run_iSink : List AV → Mem → T Res
  | [.agg [.fl .f32 ma, .fl .f32 ra, .fl .f32 sp, .fl .f32 stt], .one (.fl .f32 lo), .one (.fl .f32 dr), .one (.fl .f32 ba), .one (.fl .f32 sc), .one (.fl .f32 ti)], _ => .leaf (.tup [.one (.fl .f32 (bif skAll ma ra sp stt lo dr ba sc ti then skX ma ra lo dr ba sc ti else 0)), .one (.bo (skAll ma ra sp stt lo dr ba sc ti))], [])
  | _, _ => .fail
theorem sSink_ev (ma ra sp stt lo dr ba sc ti : Nat) : k_sk_s_l06Sink.run [.one (.ptr 0 4 0 0), .one (.fl .f32 lo), .one (.fl .f32 dr), .one (.fl .f32 ba), .one (.fl .f32 sc), .one (.fl .f32 ti)] [some (.box [.fl .f32 ma, .fl .f32 ra, .fl .f32 sp, .fl .f32 stt])] = .need (exOk (skA ra lo sc)) (.leaf (.tup [.one (.fl .f32 (bif !!fin FloatKind.f32 (fsub FloatKind.f32 lo (fmul FloatKind.f32 (fmul FloatKind.f32 (fmul FloatKind.f32 ti dr) (fmul FloatKind.f32 ba (exV (fneg FloatKind.f32 (fdiv FloatKind.f32 (fsub FloatKind.f32 lo ra) sc))))) (rootV (fmul FloatKind.f32 ma lo)))) then bif fin FloatKind.f32 (fmul FloatKind.f32 ba (exV (fneg FloatKind.f32 (fdiv FloatKind.f32 (fsub FloatKind.f32 lo ra) sc)))) then bif !fin FloatKind.f32 (fsub FloatKind.f32 lo (fmul FloatKind.f32 (fmul FloatKind.f32 (fmul FloatKind.f32 ti dr) (fmul FloatKind.f32 ba (exV (fneg FloatKind.f32 (fdiv FloatKind.f32 (fsub FloatKind.f32 lo ra) sc))))) (rootV (fmul FloatKind.f32 ma lo)))) then 0 else fsub FloatKind.f32 lo (fmul FloatKind.f32 (fmul FloatKind.f32 (fmul FloatKind.f32 ti dr) (fmul FloatKind.f32 ba (exV (fneg FloatKind.f32 (fdiv FloatKind.f32 (fsub FloatKind.f32 lo ra) sc))))) (rootV (fmul FloatKind.f32 ma lo))) else bif !fin FloatKind.f32 (fsub FloatKind.f32 lo (fmul FloatKind.f32 (fmul FloatKind.f32 (fmul FloatKind.f32 ti dr) (fmul FloatKind.f32 ba (exV (fneg FloatKind.f32 (fdiv FloatKind.f32 (fsub FloatKind.f32 lo ra) sc))))) (rootV (fmul FloatKind.f32 ma lo)))) then 0 else fsub FloatKind.f32 lo (fmul FloatKind.f32 (fmul FloatKind.f32 (fmul FloatKind.f32 ti dr) (fmul FloatKind.f32 ba (exV (fneg FloatKind.f32 (fdiv FloatKind.f32 (fsub FloatKind.f32 lo ra) sc))))) (rootV (fmul FloatKind.f32 ma lo))) else bif !fin FloatKind.f32 (fsub FloatKind.f32 lo (fmul FloatKind.f32 (fmul FloatKind.f32 (fmul FloatKind.f32 ti dr) (fmul FloatKind.f32 ba (exV (fneg FloatKind.f32 (fdiv FloatKind.f32 (fsub FloatKind.f32 lo ra) sc))))) (rootV (fmul FloatKind.f32 ma lo)))) then 0 else fsub FloatKind.f32 lo (fmul FloatKind.f32 (fmul FloatKind.f32 (fmul FloatKind.f32 ti dr) (fmul FloatKind.f32 ba (exV (fneg FloatKind.f32 (fdiv FloatKind.f32 (fsub FloatKind.f32 lo ra) sc))))) (rootV (fmul FloatKind.f32 ma lo))))), .one (.bo (bif !!fin FloatKind.f32 (fsub FloatKind.f32 lo (fmul FloatKind.f32 (fmul FloatKind.f32 (fmul FloatKind.f32 ti dr) (fmul FloatKind.f32 ba (exV (fneg FloatKind.f32 (fdiv FloatKind.f32 (fsub FloatKind.f32 lo ra) sc))))) (rootV (fmul FloatKind.f32 ma lo)))) then bif fin FloatKind.f32 (fmul FloatKind.f32 ba (exV (fneg FloatKind.f32 (fdiv FloatKind.f32 (fsub FloatKind.f32 lo ra) sc)))) then fin FloatKind.f32 (fsub FloatKind.f32 lo ra) else false else false))], [])) := by kernel_rfl
theorem iSink_ev (ma ra sp stt lo dr ba sc ti : Nat) (mem : Mem) : k_sk_i_SinkLong.run [.agg [.fl .f32 ma, .fl .f32 ra, .fl .f32 sp, .fl .f32 stt], .one (.fl .f32 lo), .one (.fl .f32 dr), .one (.fl .f32 ba), .one (.fl .f32 sc), .one (.fl .f32 ti)] mem = .need (iNeed ma ra sp stt lo ba sc (exOk (skA ra lo sc))) (.leaf (.tup [.one (.fl .f32 (bif bif !bif bif !vb ma ra sp stt then true else bif !bif fin FloatKind.f32 ba then fge FloatKind.f32 ba (0) else false then true else bif !bif fin FloatKind.f32 sc then fgt FloatKind.f32 sc (0) else false then true else !fin FloatKind.f32 (fsub FloatKind.f32 lo ra) then false else !!fin FloatKind.f32 (fmul FloatKind.f32 ba (exV (fneg FloatKind.f32 (fdiv FloatKind.f32 (fsub FloatKind.f32 lo ra) sc)))) then true else bif !bif fin FloatKind.f32 dr then fge FloatKind.f32 dr (0) else false then true else bif !bif fin FloatKind.f32 ti then fge FloatKind.f32 ti (0) else false then true else bif !fin FloatKind.f32 lo then true else !fgt FloatKind.f32 lo ra then 0 else bif !fin FloatKind.f32 (fsub FloatKind.f32 lo (fmul FloatKind.f32 (fmul FloatKind.f32 (fmul FloatKind.f32 ti dr) (bif bif !vb ma ra sp stt then true else bif !bif fin FloatKind.f32 ba then fge FloatKind.f32 ba (0) else false then true else bif !bif fin FloatKind.f32 sc then fgt FloatKind.f32 sc (0) else false then true else !fin FloatKind.f32 (fsub FloatKind.f32 lo ra) then 0 else bif !fin FloatKind.f32 (fmul FloatKind.f32 ba (exV (fneg FloatKind.f32 (fdiv FloatKind.f32 (fsub FloatKind.f32 lo ra) sc)))) then 0 else fmul FloatKind.f32 ba (exV (fneg FloatKind.f32 (fdiv FloatKind.f32 (fsub FloatKind.f32 lo ra) sc))))) (rootV (fmul FloatKind.f32 ma lo)))) then 0 else fsub FloatKind.f32 lo (fmul FloatKind.f32 (fmul FloatKind.f32 (fmul FloatKind.f32 ti dr) (bif bif !vb ma ra sp stt then true else bif !bif fin FloatKind.f32 ba then fge FloatKind.f32 ba (0) else false then true else bif !bif fin FloatKind.f32 sc then fgt FloatKind.f32 sc (0) else false then true else !fin FloatKind.f32 (fsub FloatKind.f32 lo ra) then 0 else bif !fin FloatKind.f32 (fmul FloatKind.f32 ba (exV (fneg FloatKind.f32 (fdiv FloatKind.f32 (fsub FloatKind.f32 lo ra) sc)))) then 0 else fmul FloatKind.f32 ba (exV (fneg FloatKind.f32 (fdiv FloatKind.f32 (fsub FloatKind.f32 lo ra) sc))))) (rootV (fmul FloatKind.f32 ma lo))))), .one (.bo (bif bif !bif bif !vb ma ra sp stt then true else bif !bif fin FloatKind.f32 ba then fge FloatKind.f32 ba (0) else false then true else bif !bif fin FloatKind.f32 sc then fgt FloatKind.f32 sc (0) else false then true else !fin FloatKind.f32 (fsub FloatKind.f32 lo ra) then false else !!fin FloatKind.f32 (fmul FloatKind.f32 ba (exV (fneg FloatKind.f32 (fdiv FloatKind.f32 (fsub FloatKind.f32 lo ra) sc)))) then true else bif !bif fin FloatKind.f32 dr then fge FloatKind.f32 dr (0) else false then true else bif !bif fin FloatKind.f32 ti then fge FloatKind.f32 ti (0) else false then true else bif !fin FloatKind.f32 lo then true else !fgt FloatKind.f32 lo ra then false else !!fin FloatKind.f32 (fsub FloatKind.f32 lo (fmul FloatKind.f32 (fmul FloatKind.f32 (fmul FloatKind.f32 ti dr) (bif bif !vb ma ra sp stt then true else bif !bif fin FloatKind.f32 ba then fge FloatKind.f32 ba (0) else false then true else bif !bif fin FloatKind.f32 sc then fgt FloatKind.f32 sc (0) else false then true else !fin FloatKind.f32 (fsub FloatKind.f32 lo ra) then 0 else bif !fin FloatKind.f32 (fmul FloatKind.f32 ba (exV (fneg FloatKind.f32 (fdiv FloatKind.f32 (fsub FloatKind.f32 lo ra) sc)))) then 0 else fmul FloatKind.f32 ba (exV (fneg FloatKind.f32 (fdiv FloatKind.f32 (fsub FloatKind.f32 lo ra) sc))))) (rootV (fmul FloatKind.f32 ma lo))))))], [])) := by kernel_rfl
noncomputable def k_sSink : Ctr Try.prog := (k_sk_s_l06Sink.to run_sSink (by
  intro args mem _
  unfold run_sSink
  split
  · rename_i lo dr ba sc ti ma ra sp stt _
    rw [sSink_ev, (sSink_eq ma ra sp stt lo dr ba sc ti).1, (sSink_eq ma ra sp stt lo dr ba sc ti).2]
    exact Weak.of_eq rfl
  · exact Weak.fail _)).own
theorem le2_tf (x : Nat) : le2 ((.tup [.one (.fl .f32 x), .one (.tt false)], []) : Res) ((.tup [.one (.fl .f32 x), .one (.bo false)], []) : Res) := ⟨trivial, tup_le ⟨fun _ _ h => h, fun _ _ h => h, trivial⟩⟩
theorem air_of {ma ra sp stt lo dr ba sc ti : Nat} (h : skTs ma ra sp stt lo dr ba sc ti = true) : fin .f32 lo = true ∧ pos ra = true ∧ fgt .f32 lo ra = true ∧ pos sc = true := by
  unfold skTs airB vb at h
  simp only [Bool.and_eq_true] at h
  exact ⟨h.2.1, h.1.1.2.1, h.2.2, h.1.2.2.2.1⟩
theorem skAll_ts {ma ra sp stt lo dr ba sc ti : Nat} (h : skTs ma ra sp stt lo dr ba sc ti = false) : skAll ma ra sp stt lo dr ba sc ti = false := by
  unfold skTs at h
  unfold skAll
  cases h1 : airB ma ra sp stt dr ba sc ti with
  | false => rfl
  | true =>
    rw [h1] at h
    cases h2 : fin .f32 lo with
    | false => rfl
    | true =>
      rw [h2] at h
      cases h3 : fgt .f32 lo ra with
      | false => rfl
      | true => rw [h3] at h; cases h
theorem iSinkA {ma ra sp stt lo dr ba sc ti : Nat} (hT : skTs ma ra sp stt lo dr ba sc ti = true) {Φ : Res → Prop} (h : Φ (.tup [.one (.fl .f32 (bif skAll ma ra sp stt lo dr ba sc ti then skX ma ra lo dr ba sc ti else 0)), .one (.bo (skAll ma ra sp stt lo dr ba sc ti))], [])) : (T.need (iNeed ma ra sp stt lo ba sc (exOk (skA ra lo sc))) (.leaf ((.tup [.one (.fl .f32 (bif bif !bif bif !vb ma ra sp stt then true else bif !bif fin FloatKind.f32 ba then fge FloatKind.f32 ba (0) else false then true else bif !bif fin FloatKind.f32 sc then fgt FloatKind.f32 sc (0) else false then true else !fin FloatKind.f32 (fsub FloatKind.f32 lo ra) then false else !!fin FloatKind.f32 (fmul FloatKind.f32 ba (exV (fneg FloatKind.f32 (fdiv FloatKind.f32 (fsub FloatKind.f32 lo ra) sc)))) then true else bif !bif fin FloatKind.f32 dr then fge FloatKind.f32 dr (0) else false then true else bif !bif fin FloatKind.f32 ti then fge FloatKind.f32 ti (0) else false then true else bif !fin FloatKind.f32 lo then true else !fgt FloatKind.f32 lo ra then 0 else bif !fin FloatKind.f32 (fsub FloatKind.f32 lo (fmul FloatKind.f32 (fmul FloatKind.f32 (fmul FloatKind.f32 ti dr) (bif bif !vb ma ra sp stt then true else bif !bif fin FloatKind.f32 ba then fge FloatKind.f32 ba (0) else false then true else bif !bif fin FloatKind.f32 sc then fgt FloatKind.f32 sc (0) else false then true else !fin FloatKind.f32 (fsub FloatKind.f32 lo ra) then 0 else bif !fin FloatKind.f32 (fmul FloatKind.f32 ba (exV (fneg FloatKind.f32 (fdiv FloatKind.f32 (fsub FloatKind.f32 lo ra) sc)))) then 0 else fmul FloatKind.f32 ba (exV (fneg FloatKind.f32 (fdiv FloatKind.f32 (fsub FloatKind.f32 lo ra) sc))))) (rootV (fmul FloatKind.f32 ma lo)))) then 0 else fsub FloatKind.f32 lo (fmul FloatKind.f32 (fmul FloatKind.f32 (fmul FloatKind.f32 ti dr) (bif bif !vb ma ra sp stt then true else bif !bif fin FloatKind.f32 ba then fge FloatKind.f32 ba (0) else false then true else bif !bif fin FloatKind.f32 sc then fgt FloatKind.f32 sc (0) else false then true else !fin FloatKind.f32 (fsub FloatKind.f32 lo ra) then 0 else bif !fin FloatKind.f32 (fmul FloatKind.f32 ba (exV (fneg FloatKind.f32 (fdiv FloatKind.f32 (fsub FloatKind.f32 lo ra) sc)))) then 0 else fmul FloatKind.f32 ba (exV (fneg FloatKind.f32 (fdiv FloatKind.f32 (fsub FloatKind.f32 lo ra) sc))))) (rootV (fmul FloatKind.f32 ma lo))))), .one (.bo (bif bif !bif bif !vb ma ra sp stt then true else bif !bif fin FloatKind.f32 ba then fge FloatKind.f32 ba (0) else false then true else bif !bif fin FloatKind.f32 sc then fgt FloatKind.f32 sc (0) else false then true else !fin FloatKind.f32 (fsub FloatKind.f32 lo ra) then false else !!fin FloatKind.f32 (fmul FloatKind.f32 ba (exV (fneg FloatKind.f32 (fdiv FloatKind.f32 (fsub FloatKind.f32 lo ra) sc)))) then true else bif !bif fin FloatKind.f32 dr then fge FloatKind.f32 dr (0) else false then true else bif !bif fin FloatKind.f32 ti then fge FloatKind.f32 ti (0) else false then true else bif !fin FloatKind.f32 lo then true else !fgt FloatKind.f32 lo ra then false else !!fin FloatKind.f32 (fsub FloatKind.f32 lo (fmul FloatKind.f32 (fmul FloatKind.f32 (fmul FloatKind.f32 ti dr) (bif bif !vb ma ra sp stt then true else bif !bif fin FloatKind.f32 ba then fge FloatKind.f32 ba (0) else false then true else bif !bif fin FloatKind.f32 sc then fgt FloatKind.f32 sc (0) else false then true else !fin FloatKind.f32 (fsub FloatKind.f32 lo ra) then 0 else bif !fin FloatKind.f32 (fmul FloatKind.f32 ba (exV (fneg FloatKind.f32 (fdiv FloatKind.f32 (fsub FloatKind.f32 lo ra) sc)))) then 0 else fmul FloatKind.f32 ba (exV (fneg FloatKind.f32 (fdiv FloatKind.f32 (fsub FloatKind.f32 lo ra) sc))))) (rootV (fmul FloatKind.f32 ma lo))))))], []) : Res))).holds Φ := by
  have e3 : ∀ (x y : Nat) (b d : Bool), x = y → b = d → Φ (.tup [.one (.fl .f32 y), .one (.bo d)], []) → Φ (.tup [.one (.fl .f32 x), .one (.bo b)], []) := fun x y b d hx hb hp => by rw [hx, hb]; exact hp
  have hq := air_of hT
  have he := iSink_sh (thinV ra lo ba sc) lo ti dr ma (vb ma ra sp stt) (fin .f32 ba) (fge .f32 ba 0) (fin .f32 sc) (fgt .f32 sc 0) (fin .f32 (fsub .f32 lo ra)) (fin .f32 (thinV ra lo ba sc)) (fin .f32 dr) (fge .f32 dr 0) (fin .f32 ti) (fge .f32 ti 0) (fin .f32 lo) (fgt .f32 lo ra)
  refine T.h_need ?_ (T.h_leaf (e3 _ _ _ _ he.1 he.2 h))
  rw [skA_ok hq.1 hq.2.1 hq.2.2.1 hq.2.2.2]
  unfold iNeed
  cases vb ma ra sp stt <;> cases fin .f32 ba <;> cases fge .f32 ba 0 <;> cases fin .f32 sc <;> cases fgt .f32 sc 0 <;> cases fin .f32 (fsub .f32 lo ra) <;> rfl
theorem iSinkB {ma ra sp stt lo dr ba sc ti : Nat} (hT : skTs ma ra sp stt lo dr ba sc ti = false) {Φ : Res → Prop} (hΦ : ∀ r s, le2 r s → Φ s → Φ r) (hp : Φ (.tup [.one (.fl .f32 0), .one (.bo false)], [])) : (T.ite (bif !vb ma ra sp stt then true else bif !bif fin FloatKind.f32 ba then fge FloatKind.f32 ba (0) else false then true else bif !bif fin FloatKind.f32 sc then fgt FloatKind.f32 sc (0) else false then true else !fin FloatKind.f32 (fsub FloatKind.f32 lo ra)) (.leaf ((.tup [.one (.fl .f32 0), .one (.tt false)], []) : Res)) (.all fun x => .leaf (.tup [.one (.fl .f32 (bif bif !!!fin FloatKind.f32 (fmul FloatKind.f32 ba (canon FloatKind.f32 x)) then true else bif !bif fin FloatKind.f32 dr then fge FloatKind.f32 dr (0) else false then true else bif !bif fin FloatKind.f32 ti then fge FloatKind.f32 ti (0) else false then true else bif !fin FloatKind.f32 lo then true else !fgt FloatKind.f32 lo ra then 0 else bif !fin FloatKind.f32 (fsub FloatKind.f32 lo (fmul FloatKind.f32 (fmul FloatKind.f32 (fmul FloatKind.f32 ti dr) (bif !fin FloatKind.f32 (fmul FloatKind.f32 ba (canon FloatKind.f32 x)) then 0 else fmul FloatKind.f32 ba (canon FloatKind.f32 x))) (rootV (fmul FloatKind.f32 ma lo)))) then 0 else fsub FloatKind.f32 lo (fmul FloatKind.f32 (fmul FloatKind.f32 (fmul FloatKind.f32 ti dr) (bif !fin FloatKind.f32 (fmul FloatKind.f32 ba (canon FloatKind.f32 x)) then 0 else fmul FloatKind.f32 ba (canon FloatKind.f32 x))) (rootV (fmul FloatKind.f32 ma lo))))), .one (.bo (bif bif !!!fin FloatKind.f32 (fmul FloatKind.f32 ba (canon FloatKind.f32 x)) then true else bif !bif fin FloatKind.f32 dr then fge FloatKind.f32 dr (0) else false then true else bif !bif fin FloatKind.f32 ti then fge FloatKind.f32 ti (0) else false then true else bif !fin FloatKind.f32 lo then true else !fgt FloatKind.f32 lo ra then false else !!fin FloatKind.f32 (fsub FloatKind.f32 lo (fmul FloatKind.f32 (fmul FloatKind.f32 (fmul FloatKind.f32 ti dr) (bif !fin FloatKind.f32 (fmul FloatKind.f32 ba (canon FloatKind.f32 x)) then 0 else fmul FloatKind.f32 ba (canon FloatKind.f32 x))) (rootV (fmul FloatKind.f32 ma lo))))))], []))).holds Φ := by
  refine T.h_ite (fun _ => T.h_leaf (hΦ _ _ (le2_tf 0) hp)) (fun hc x => T.h_leaf ?_)
  have hw := wpass _ _ _ _ _ _ hc
  have hd : ((fin .f32 dr && fge .f32 dr 0) && ((fin .f32 ti && fge .f32 ti 0) && (fin .f32 lo && fgt .f32 lo ra))) = false := by
    unfold skTs airB massB pos at hT
    have p2 : (fin .f32 ba && fge .f32 ba 0) = true := hw.2.1
    have p3 : (fin .f32 sc && fgt .f32 sc 0) = true := hw.2.2.1
    rw [hw.1, p2, p3] at hT
    clear hc hw p2 p3
    revert hT
    generalize (fin .f32 dr && fge .f32 dr 0) = D1
    generalize (fin .f32 ti && fge .f32 ti 0) = D2
    generalize fin .f32 lo = D3
    generalize fgt .f32 lo ra = D4
    cases D1 <;> cases D2 <;> cases D3 <;> cases D4 <;> decide
  have e4 : ∀ (c : Bool) (q : Nat) (b : Bool), c = true → Φ (.tup [.one (.fl .f32 (bif c then 0 else q)), .one (.bo (bif c then false else b))], []) := fun c q b hc => by subst hc; exact hp
  exact e4 _ _ _ (wcond _ _ _ _ _ _ _ hd)

end Go.Proofs.Ytdmcpgbnomhahaa
