/-
  SinkRun: one step, the loops. No conditions.
-/
import Derived.Test.YtkjggmfblkkopaaSc
import Derived.Test.YtkjggmfblkkopaaEx
import Derived.Test.YtkjggmfblkkopaaLy
namespace Go.Proofs.Ytkjggmfblkkopaa
set_option linter.unusedVariables false
set_option linter.unusedSimpArgs false
open Go.RowKit

noncomputable def k_sk_s_l02Least : Ctr Try.prog := (mkF Try.prog mix [k_l01Finite] 64 Try.f64 (bodyOf Try.f64) Try.func64 (by kernel_rfl) (by kernel_rfl) [0, 2, 198] 9 (by kernel_rfl) (by kernel_rfl)).mg
noncomputable def k_sk_s_l02Above : Ctr Try.prog := (mkF Try.prog mix [k_l01Finite] 114 Try.f114 (bodyOf Try.f114) Try.func114 (by kernel_rfl) (by kernel_rfl) [0, 2, 198] 9 (by kernel_rfl) (by kernel_rfl)).mg
noncomputable def k_sk_s_l06Air : Ctr Try.prog := (mkF Try.prog mix [k_svb, k_sk_s_l02Least, k_sk_s_l02Above] 91 Try.f91 (bodyOf Try.f91) Try.func91 (by kernel_rfl) (by kernel_rfl) [0, 1, 2, 3, 4, 10, 198] 29 (by kernel_rfl) (by kernel_rfl)).mg
noncomputable def k_sk_s_l02Number : Ctr Try.prog := (mkF Try.prog mix [k_l01Finite] 66 Try.f66 (bodyOf Try.f66) Try.func66 (by kernel_rfl) (by kernel_rfl) [0, 2, 3, 6, 198] 8 (by kernel_rfl) (by kernel_rfl)).mg
noncomputable def k_sk_s_l06Thin : Ctr Try.prog := (mkF Try.prog mix [k_l01Exp] 136 Try.f136 (bodyOf Try.f136) Try.func136 (by kernel_rfl) (by kernel_rfl) [0, 1, 2, 6, 198] 14 (by kernel_rfl) (by kernel_rfl)).mg
noncomputable def k_sk_s_l06Sink : Ctr Try.prog := (mkF Try.prog mix [k_l01Sqrt, k_sk_s_l02Number, k_l01Finite, k_sk_s_l06Thin] 92 Try.f92 (bodyOf Try.f92) Try.func92 (by kernel_rfl) (by kernel_rfl) [0, 1, 2, 3, 4, 5, 12, 13, 14, 15, 16, 17, 18, 198] 59 (by kernel_rfl) (by kernel_rfl)).mg
noncomputable def k_sk_s_l00In : Ctr Try.prog := (mkF Try.prog mix [] 94 Try.f94 (bodyOf Try.f94) Try.func94 (by kernel_rfl) (by kernel_rfl) [0, 1, 2, 6, 198] 15 (by kernel_rfl) (by kernel_rfl)).mg
noncomputable def k_sk_i_aMass : Ctr Try.prog := (mkF Try.prog mix [k_IsFinite] 68 Try.f68 (bodyOf Try.f68) Try.func68 (by kernel_rfl) (by kernel_rfl) [0, 2, 198] 9 (by kernel_rfl) (by kernel_rfl)).mg
noncomputable def k_sk_i_told : Ctr Try.prog := (mkF Try.prog mix [k_IsFinite] 69 Try.f69 (bodyOf Try.f69) Try.func69 (by kernel_rfl) (by kernel_rfl) [0, 2, 3, 6, 198] 8 (by kernel_rfl) (by kernel_rfl)).mg
noncomputable def k_sk_i_aLength : Ctr Try.prog := (mkF Try.prog mix [k_IsFinite] 95 Try.f95 (bodyOf Try.f95) Try.func95 (by kernel_rfl) (by kernel_rfl) [0, 2, 198] 9 (by kernel_rfl) (by kernel_rfl)).mg
noncomputable def k_sk_i_thin : Ctr Try.prog := (mkF Try.prog mix [k_ExpNumber] 137 Try.f137 (bodyOf Try.f137) Try.func137 (by kernel_rfl) (by kernel_rfl) [0, 1, 2, 6, 198] 14 (by kernel_rfl) (by kernel_rfl)).mg
noncomputable def k_sk_i_ThinAt : Ctr Try.prog := (mkF Try.prog mix [k_ivb, k_sk_i_aMass, k_sk_i_told, k_IsFinite, k_sk_i_aLength, k_sk_i_thin] 93 Try.f93 (bodyOf Try.f93) Try.func93 (by kernel_rfl) (by kernel_rfl) [0, 1, 2, 3, 4, 8, 9, 27, 198] 35 (by kernel_rfl) (by kernel_rfl)).mg
noncomputable def k_sk_i_SinkLong : Ctr Try.prog := (mkF Try.prog mix [k_sk_i_aMass, k_sk_i_told, k_RootNumber, k_IsFinite, k_sk_i_ThinAt] 35 Try.f35 (bodyOf Try.f35) Try.func35 (by kernel_rfl) (by kernel_rfl) [0, 1, 2, 3, 4, 5, 6, 12, 13, 14, 15, 50, 198] 67 (by kernel_rfl) (by kernel_rfl)).mg
noncomputable def k_sk_i_within : Ctr Try.prog := (mkF Try.prog mix [] 96 Try.f96 (bodyOf Try.f96) Try.func96 (by kernel_rfl) (by kernel_rfl) [0, 1, 2, 6, 198] 15 (by kernel_rfl) (by kernel_rfl)).mg
def massB (x : Nat) : Bool := fin .f32 x && fge .f32 x 0
def skA (ra lo sc : Nat) : Nat := fneg .f32 (fdiv .f32 (fsub .f32 lo ra) sc)
noncomputable def thinV (ra lo ba sc : Nat) : Nat := fmul .f32 ba (exV (skA ra lo sc))
noncomputable def skX (ma ra lo dr ba sc ti : Nat) : Nat := fsub .f32 lo (fmul .f32 (fmul .f32 (fmul .f32 ti dr) (thinV ra lo ba sc)) (rootV (fmul .f32 ma lo)))
noncomputable def skOk (ma ra lo dr ba sc ti : Nat) : Bool := fin .f32 (skX ma ra lo dr ba sc ti) && (fin .f32 (thinV ra lo ba sc) && fin .f32 (fsub .f32 lo ra))
def airB (ma ra sp stt dr ba sc ti : Nat) : Bool := vb ma ra sp stt && (massB dr && (massB ba && (pos sc && massB ti)))
noncomputable def skAll (ma ra sp stt lo dr ba sc ti : Nat) : Bool := airB ma ra sp stt dr ba sc ti && (fin .f32 lo && (fgt .f32 lo ra && skOk ma ra lo dr ba sc ti))
theorem sSink_eq (ma ra sp stt lo dr ba sc ti : Nat) : (bif !!fin FloatKind.f32 (fsub FloatKind.f32 lo (fmul FloatKind.f32 (fmul FloatKind.f32 (fmul FloatKind.f32 ti dr) (fmul FloatKind.f32 ba (exV (fneg FloatKind.f32 (fdiv FloatKind.f32 (fsub FloatKind.f32 lo ra) sc))))) (rootV (fmul FloatKind.f32 ma lo)))) then bif fin FloatKind.f32 (fmul FloatKind.f32 ba (exV (fneg FloatKind.f32 (fdiv FloatKind.f32 (fsub FloatKind.f32 lo ra) sc)))) then bif !fin FloatKind.f32 (fsub FloatKind.f32 lo (fmul FloatKind.f32 (fmul FloatKind.f32 (fmul FloatKind.f32 ti dr) (fmul FloatKind.f32 ba (exV (fneg FloatKind.f32 (fdiv FloatKind.f32 (fsub FloatKind.f32 lo ra) sc))))) (rootV (fmul FloatKind.f32 ma lo)))) then 0 else fsub FloatKind.f32 lo (fmul FloatKind.f32 (fmul FloatKind.f32 (fmul FloatKind.f32 ti dr) (fmul FloatKind.f32 ba (exV (fneg FloatKind.f32 (fdiv FloatKind.f32 (fsub FloatKind.f32 lo ra) sc))))) (rootV (fmul FloatKind.f32 ma lo))) else bif !fin FloatKind.f32 (fsub FloatKind.f32 lo (fmul FloatKind.f32 (fmul FloatKind.f32 (fmul FloatKind.f32 ti dr) (fmul FloatKind.f32 ba (exV (fneg FloatKind.f32 (fdiv FloatKind.f32 (fsub FloatKind.f32 lo ra) sc))))) (rootV (fmul FloatKind.f32 ma lo)))) then 0 else fsub FloatKind.f32 lo (fmul FloatKind.f32 (fmul FloatKind.f32 (fmul FloatKind.f32 ti dr) (fmul FloatKind.f32 ba (exV (fneg FloatKind.f32 (fdiv FloatKind.f32 (fsub FloatKind.f32 lo ra) sc))))) (rootV (fmul FloatKind.f32 ma lo))) else bif !fin FloatKind.f32 (fsub FloatKind.f32 lo (fmul FloatKind.f32 (fmul FloatKind.f32 (fmul FloatKind.f32 ti dr) (fmul FloatKind.f32 ba (exV (fneg FloatKind.f32 (fdiv FloatKind.f32 (fsub FloatKind.f32 lo ra) sc))))) (rootV (fmul FloatKind.f32 ma lo)))) then 0 else fsub FloatKind.f32 lo (fmul FloatKind.f32 (fmul FloatKind.f32 (fmul FloatKind.f32 ti dr) (fmul FloatKind.f32 ba (exV (fneg FloatKind.f32 (fdiv FloatKind.f32 (fsub FloatKind.f32 lo ra) sc))))) (rootV (fmul FloatKind.f32 ma lo)))) = (bif fin .f32 (skX ma ra lo dr ba sc ti) then skX ma ra lo dr ba sc ti else 0) ∧ (bif !!fin FloatKind.f32 (fsub FloatKind.f32 lo (fmul FloatKind.f32 (fmul FloatKind.f32 (fmul FloatKind.f32 ti dr) (fmul FloatKind.f32 ba (exV (fneg FloatKind.f32 (fdiv FloatKind.f32 (fsub FloatKind.f32 lo ra) sc))))) (rootV (fmul FloatKind.f32 ma lo)))) then bif fin FloatKind.f32 (fmul FloatKind.f32 ba (exV (fneg FloatKind.f32 (fdiv FloatKind.f32 (fsub FloatKind.f32 lo ra) sc)))) then fin FloatKind.f32 (fsub FloatKind.f32 lo ra) else false else false) = skOk ma ra lo dr ba sc ti := by
  unfold skOk skX thinV skA
  generalize fsub FloatKind.f32 lo (fmul FloatKind.f32 (fmul FloatKind.f32 (fmul FloatKind.f32 ti dr) (fmul FloatKind.f32 ba (exV (fneg FloatKind.f32 (fdiv FloatKind.f32 (fsub FloatKind.f32 lo ra) sc))))) (rootV (fmul FloatKind.f32 ma lo))) = X
  generalize fin FloatKind.f32 (fmul FloatKind.f32 ba (exV (fneg FloatKind.f32 (fdiv FloatKind.f32 (fsub FloatKind.f32 lo ra) sc)))) = q
  generalize fin FloatKind.f32 (fsub FloatKind.f32 lo ra) = u
  cases fin FloatKind.f32 X <;> cases q <;> cases u <;> exact ⟨rfl, rfl⟩
theorem iSink_sh (t lo ti dr ma : Nat) (A1 A2 A3 A4 A5 A6 A7 A8 A9 A10 A11 A12 A13 : Bool) : (bif bif !bif bif !A1 then true else bif !bif A2 then A3 else false then true else bif !bif A4 then A5 else false then true else !A6 then false else !!A7 then true else bif !bif A8 then A9 else false then true else bif !bif A10 then A11 else false then true else bif !A12 then true else !A13 then 0 else bif !fin FloatKind.f32 (fsub FloatKind.f32 lo (fmul FloatKind.f32 (fmul FloatKind.f32 (fmul FloatKind.f32 ti dr) (bif bif !A1 then true else bif !bif A2 then A3 else false then true else bif !bif A4 then A5 else false then true else !A6 then 0 else bif !A7 then 0 else t)) (rootV (fmul FloatKind.f32 ma lo)))) then 0 else fsub FloatKind.f32 lo (fmul FloatKind.f32 (fmul FloatKind.f32 (fmul FloatKind.f32 ti dr) (bif bif !A1 then true else bif !bif A2 then A3 else false then true else bif !bif A4 then A5 else false then true else !A6 then 0 else bif !A7 then 0 else t)) (rootV (fmul FloatKind.f32 ma lo)))) = (bif ((A1 && ((A8 && A9) && ((A2 && A3) && ((A4 && A5) && (A10 && A11))))) && (A12 && (A13 && (fin .f32 (fsub .f32 lo (fmul .f32 (fmul .f32 (fmul .f32 ti dr) t) (rootV (fmul .f32 ma lo)))) && (A7 && A6))))) then fsub .f32 lo (fmul .f32 (fmul .f32 (fmul .f32 ti dr) t) (rootV (fmul .f32 ma lo))) else 0) ∧ (bif bif !bif bif !A1 then true else bif !bif A2 then A3 else false then true else bif !bif A4 then A5 else false then true else !A6 then false else !!A7 then true else bif !bif A8 then A9 else false then true else bif !bif A10 then A11 else false then true else bif !A12 then true else !A13 then false else !!fin FloatKind.f32 (fsub FloatKind.f32 lo (fmul FloatKind.f32 (fmul FloatKind.f32 (fmul FloatKind.f32 ti dr) (bif bif !A1 then true else bif !bif A2 then A3 else false then true else bif !bif A4 then A5 else false then true else !A6 then 0 else bif !A7 then 0 else t)) (rootV (fmul FloatKind.f32 ma lo))))) = ((A1 && ((A8 && A9) && ((A2 && A3) && ((A4 && A5) && (A10 && A11))))) && (A12 && (A13 && (fin .f32 (fsub .f32 lo (fmul .f32 (fmul .f32 (fmul .f32 ti dr) t) (rootV (fmul .f32 ma lo)))) && (A7 && A6))))) := by
  cases A1
  · simp
  cases A2
  · simp
  cases A3
  · simp
  cases A4
  · simp
  cases A5
  · simp
  cases A6
  · simp
  cases A7
  · simp
  cases A8
  · simp
  cases A9
  · simp
  cases A10
  · simp
  cases A11
  · simp
  cases A12
  · simp
  cases A13
  · simp
  simp
def iNeed (ma ra sp stt lo ba sc : Nat) (e : Bool) : Bool := bif bif !vb ma ra sp stt then true else bif !bif fin FloatKind.f32 ba then fge FloatKind.f32 ba (0) else false then true else bif !bif fin FloatKind.f32 sc then fgt FloatKind.f32 sc (0) else false then true else !fin FloatKind.f32 (fsub FloatKind.f32 lo ra) then true else e
noncomputable def run_sSink : List AV → Mem → T Res
  | [.one (.ptr 0 4 0 0), .one (.fl .f32 lo), .one (.fl .f32 dr), .one (.fl .f32 ba), .one (.fl .f32 sc), .one (.fl .f32 ti)], [some (.box [.fl .f32 ma, .fl .f32 ra, .fl .f32 sp, .fl .f32 stt])] => .need (exOk (skA ra lo sc)) (.leaf (.tup [.one (.fl .f32 (bif fin .f32 (skX ma ra lo dr ba sc ti) then skX ma ra lo dr ba sc ti else 0)), .one (.bo (skOk ma ra lo dr ba sc ti))], []))
  | _, _ => .fail
noncomputable def run_iSink : List AV → Mem → T Res
  | [.agg [.fl .f32 ma, .fl .f32 ra, .fl .f32 sp, .fl .f32 stt], .one (.fl .f32 lo), .one (.fl .f32 dr), .one (.fl .f32 ba), .one (.fl .f32 sc), .one (.fl .f32 ti)], _ => .need (exOk (skA ra lo sc)) (.leaf (.tup [.one (.fl .f32 (bif skAll ma ra sp stt lo dr ba sc ti then skX ma ra lo dr ba sc ti else 0)), .one (.bo (skAll ma ra sp stt lo dr ba sc ti))], []))
  | _, _ => .fail
theorem sSink_ev (ma ra sp stt lo dr ba sc ti : Nat) : k_sk_s_l06Sink.run [.one (.ptr 0 4 0 0), .one (.fl .f32 lo), .one (.fl .f32 dr), .one (.fl .f32 ba), .one (.fl .f32 sc), .one (.fl .f32 ti)] [some (.box [.fl .f32 ma, .fl .f32 ra, .fl .f32 sp, .fl .f32 stt])] = .need (exOk (skA ra lo sc)) (.leaf (.tup [.one (.fl .f32 (bif !!fin FloatKind.f32 (fsub FloatKind.f32 lo (fmul FloatKind.f32 (fmul FloatKind.f32 (fmul FloatKind.f32 ti dr) (fmul FloatKind.f32 ba (exV (fneg FloatKind.f32 (fdiv FloatKind.f32 (fsub FloatKind.f32 lo ra) sc))))) (rootV (fmul FloatKind.f32 ma lo)))) then bif fin FloatKind.f32 (fmul FloatKind.f32 ba (exV (fneg FloatKind.f32 (fdiv FloatKind.f32 (fsub FloatKind.f32 lo ra) sc)))) then bif !fin FloatKind.f32 (fsub FloatKind.f32 lo (fmul FloatKind.f32 (fmul FloatKind.f32 (fmul FloatKind.f32 ti dr) (fmul FloatKind.f32 ba (exV (fneg FloatKind.f32 (fdiv FloatKind.f32 (fsub FloatKind.f32 lo ra) sc))))) (rootV (fmul FloatKind.f32 ma lo)))) then 0 else fsub FloatKind.f32 lo (fmul FloatKind.f32 (fmul FloatKind.f32 (fmul FloatKind.f32 ti dr) (fmul FloatKind.f32 ba (exV (fneg FloatKind.f32 (fdiv FloatKind.f32 (fsub FloatKind.f32 lo ra) sc))))) (rootV (fmul FloatKind.f32 ma lo))) else bif !fin FloatKind.f32 (fsub FloatKind.f32 lo (fmul FloatKind.f32 (fmul FloatKind.f32 (fmul FloatKind.f32 ti dr) (fmul FloatKind.f32 ba (exV (fneg FloatKind.f32 (fdiv FloatKind.f32 (fsub FloatKind.f32 lo ra) sc))))) (rootV (fmul FloatKind.f32 ma lo)))) then 0 else fsub FloatKind.f32 lo (fmul FloatKind.f32 (fmul FloatKind.f32 (fmul FloatKind.f32 ti dr) (fmul FloatKind.f32 ba (exV (fneg FloatKind.f32 (fdiv FloatKind.f32 (fsub FloatKind.f32 lo ra) sc))))) (rootV (fmul FloatKind.f32 ma lo))) else bif !fin FloatKind.f32 (fsub FloatKind.f32 lo (fmul FloatKind.f32 (fmul FloatKind.f32 (fmul FloatKind.f32 ti dr) (fmul FloatKind.f32 ba (exV (fneg FloatKind.f32 (fdiv FloatKind.f32 (fsub FloatKind.f32 lo ra) sc))))) (rootV (fmul FloatKind.f32 ma lo)))) then 0 else fsub FloatKind.f32 lo (fmul FloatKind.f32 (fmul FloatKind.f32 (fmul FloatKind.f32 ti dr) (fmul FloatKind.f32 ba (exV (fneg FloatKind.f32 (fdiv FloatKind.f32 (fsub FloatKind.f32 lo ra) sc))))) (rootV (fmul FloatKind.f32 ma lo))))), .one (.bo (bif !!fin FloatKind.f32 (fsub FloatKind.f32 lo (fmul FloatKind.f32 (fmul FloatKind.f32 (fmul FloatKind.f32 ti dr) (fmul FloatKind.f32 ba (exV (fneg FloatKind.f32 (fdiv FloatKind.f32 (fsub FloatKind.f32 lo ra) sc))))) (rootV (fmul FloatKind.f32 ma lo)))) then bif fin FloatKind.f32 (fmul FloatKind.f32 ba (exV (fneg FloatKind.f32 (fdiv FloatKind.f32 (fsub FloatKind.f32 lo ra) sc)))) then fin FloatKind.f32 (fsub FloatKind.f32 lo ra) else false else false))], [])) := by kernel_rfl
theorem iSink_ev (ma ra sp stt lo dr ba sc ti : Nat) (mem : Mem) : k_sk_i_SinkLong.run [.agg [.fl .f32 ma, .fl .f32 ra, .fl .f32 sp, .fl .f32 stt], .one (.fl .f32 lo), .one (.fl .f32 dr), .one (.fl .f32 ba), .one (.fl .f32 sc), .one (.fl .f32 ti)] mem = .need (iNeed ma ra sp stt lo ba sc (exOk (skA ra lo sc))) (.leaf (.tup [.one (.fl .f32 (bif bif !bif bif !vb ma ra sp stt then true else bif !bif fin FloatKind.f32 ba then fge FloatKind.f32 ba (0) else false then true else bif !bif fin FloatKind.f32 sc then fgt FloatKind.f32 sc (0) else false then true else !fin FloatKind.f32 (fsub FloatKind.f32 lo ra) then false else !!fin FloatKind.f32 (fmul FloatKind.f32 ba (exV (fneg FloatKind.f32 (fdiv FloatKind.f32 (fsub FloatKind.f32 lo ra) sc)))) then true else bif !bif fin FloatKind.f32 dr then fge FloatKind.f32 dr (0) else false then true else bif !bif fin FloatKind.f32 ti then fge FloatKind.f32 ti (0) else false then true else bif !fin FloatKind.f32 lo then true else !fgt FloatKind.f32 lo ra then 0 else bif !fin FloatKind.f32 (fsub FloatKind.f32 lo (fmul FloatKind.f32 (fmul FloatKind.f32 (fmul FloatKind.f32 ti dr) (bif bif !vb ma ra sp stt then true else bif !bif fin FloatKind.f32 ba then fge FloatKind.f32 ba (0) else false then true else bif !bif fin FloatKind.f32 sc then fgt FloatKind.f32 sc (0) else false then true else !fin FloatKind.f32 (fsub FloatKind.f32 lo ra) then 0 else bif !fin FloatKind.f32 (fmul FloatKind.f32 ba (exV (fneg FloatKind.f32 (fdiv FloatKind.f32 (fsub FloatKind.f32 lo ra) sc)))) then 0 else fmul FloatKind.f32 ba (exV (fneg FloatKind.f32 (fdiv FloatKind.f32 (fsub FloatKind.f32 lo ra) sc))))) (rootV (fmul FloatKind.f32 ma lo)))) then 0 else fsub FloatKind.f32 lo (fmul FloatKind.f32 (fmul FloatKind.f32 (fmul FloatKind.f32 ti dr) (bif bif !vb ma ra sp stt then true else bif !bif fin FloatKind.f32 ba then fge FloatKind.f32 ba (0) else false then true else bif !bif fin FloatKind.f32 sc then fgt FloatKind.f32 sc (0) else false then true else !fin FloatKind.f32 (fsub FloatKind.f32 lo ra) then 0 else bif !fin FloatKind.f32 (fmul FloatKind.f32 ba (exV (fneg FloatKind.f32 (fdiv FloatKind.f32 (fsub FloatKind.f32 lo ra) sc)))) then 0 else fmul FloatKind.f32 ba (exV (fneg FloatKind.f32 (fdiv FloatKind.f32 (fsub FloatKind.f32 lo ra) sc))))) (rootV (fmul FloatKind.f32 ma lo))))), .one (.bo (bif bif !bif bif !vb ma ra sp stt then true else bif !bif fin FloatKind.f32 ba then fge FloatKind.f32 ba (0) else false then true else bif !bif fin FloatKind.f32 sc then fgt FloatKind.f32 sc (0) else false then true else !fin FloatKind.f32 (fsub FloatKind.f32 lo ra) then false else !!fin FloatKind.f32 (fmul FloatKind.f32 ba (exV (fneg FloatKind.f32 (fdiv FloatKind.f32 (fsub FloatKind.f32 lo ra) sc)))) then true else bif !bif fin FloatKind.f32 dr then fge FloatKind.f32 dr (0) else false then true else bif !bif fin FloatKind.f32 ti then fge FloatKind.f32 ti (0) else false then true else bif !fin FloatKind.f32 lo then true else !fgt FloatKind.f32 lo ra then false else !!fin FloatKind.f32 (fsub FloatKind.f32 lo (fmul FloatKind.f32 (fmul FloatKind.f32 (fmul FloatKind.f32 ti dr) (bif bif !vb ma ra sp stt then true else bif !bif fin FloatKind.f32 ba then fge FloatKind.f32 ba (0) else false then true else bif !bif fin FloatKind.f32 sc then fgt FloatKind.f32 sc (0) else false then true else !fin FloatKind.f32 (fsub FloatKind.f32 lo ra) then 0 else bif !fin FloatKind.f32 (fmul FloatKind.f32 ba (exV (fneg FloatKind.f32 (fdiv FloatKind.f32 (fsub FloatKind.f32 lo ra) sc)))) then 0 else fmul FloatKind.f32 ba (exV (fneg FloatKind.f32 (fdiv FloatKind.f32 (fsub FloatKind.f32 lo ra) sc))))) (rootV (fmul FloatKind.f32 ma lo))))))], [])) := by kernel_rfl
noncomputable def k_sSink : Ctr Try.prog := (k_sk_s_l06Sink.to run_sSink (by
  intro args mem _
  unfold run_sSink
  split
  · rename_i lo dr ba sc ti ma ra sp stt _
    rw [sSink_ev, (sSink_eq ma ra sp stt lo dr ba sc ti).1, (sSink_eq ma ra sp stt lo dr ba sc ti).2]
    exact Weak.of_eq rfl
  · exact Weak.fail _)).own
noncomputable def k_iSink : Ctr Try.prog := k_sk_i_SinkLong.to run_iSink (by
  intro args mem _
  unfold run_iSink
  split
  · rename_i ma ra sp stt lo dr ba sc ti _
    constructor
    intro Φ hΦ h
    rw [iSink_ev]
    obtain ⟨e1, e2⟩ := iSink_sh (thinV ra lo ba sc) lo ti dr ma (vb ma ra sp stt) (fin .f32 ba) (fge .f32 ba 0) (fin .f32 sc) (fgt .f32 sc 0) (fin .f32 (fsub .f32 lo ra)) (fin .f32 (thinV ra lo ba sc)) (fin .f32 dr) (fge .f32 dr 0) (fin .f32 ti) (fge .f32 ti 0) (fin .f32 lo) (fgt .f32 lo ra)
    refine T.h_need ?_ ?_
    · rw [h.1]
      unfold iNeed
      cases vb ma ra sp stt <;> cases fin .f32 ba <;> cases fge .f32 ba 0 <;> cases fin .f32 sc <;> cases fgt .f32 sc 0 <;> cases fin .f32 (fsub .f32 lo ra) <;> rfl
    · have e3 : ∀ (x y : Nat) (b d : Bool), x = y → b = d → Φ (.tup [.one (.fl .f32 y), .one (.bo d)], []) → Φ (.tup [.one (.fl .f32 x), .one (.bo b)], []) := fun x y b d hx hb hp => by rw [hx, hb]; exact hp
      exact e3 _ _ _ _ e1 e2 h.2
  · exact Weak.fail _)
structure Cks where
  ma : Nat
  ra : Nat
  sp : Nat
  stt : Nat
  dr : Nat
  ba : Nat
  sc : Nat
  ti : Nat
  st : Int
def Cks.base (c : Cks) : Mem := []
structure Vks where
  i : Int
  lo : Nat
  n : Nat
  f : Nat → Nat
noncomputable abbrev ksRoot : Code := bodyOf Try.f36
def ks_st (c : Cks) (v : Vks) : FSt := ⟨[(1, .one (.fl .f32 v.lo)), (2, .one (.fl .f32 c.dr)), (3, .one (.fl .f32 c.ba)), (4, .one (.fl .f32 c.sc)), (5, .one (.fl .f32 c.ti)), (6, .one (.num .i64 c.st)), (7, .one (.ptr 0 4 0 0)), (14, .one (.val (.slice none 0 0))), (15, .one (.tt false)), (16, .one (.tt false)), (17, .one (.so 1 1 v.n 2)), (18, .one (.num .i64 v.i))], c.base ++ [some (.box [.fl .f32 c.ma, .fl .f32 c.ra, .fl .f32 c.sp, .fl .f32 c.stt]), some (.grow v.n [.fl .f32 v.f] 2 22), none]⟩
structure Cki where
  ma : Nat
  ra : Nat
  sp : Nat
  stt : Nat
  dr : Nat
  ba : Nat
  sc : Nat
  ti : Nat
  st : Int
def Cki.base (c : Cki) : Mem := []
structure Vki where
  i : Int
  lo : Nat
  n : Nat
  f : Nat → Nat
noncomputable abbrev kiRoot : Code := bodyOf Try.f37
def ki_st (c : Cki) (v : Vki) : FSt := ⟨[(1, .one (.fl .f32 v.lo)), (2, .one (.fl .f32 c.dr)), (3, .one (.fl .f32 c.ba)), (4, .one (.fl .f32 c.sc)), (5, .one (.fl .f32 c.ti)), (7, .one (.ptr 0 4 0 0)), (14, .one (.val (.slice none 0 0))), (15, .one (.tt false)), (16, .one (.tt false)), (17, .one (.so 1 1 v.n 2)), (61, .one (.num .i64 c.st)), (62, .one (.num .i64 v.i))], c.base ++ [some (.box [.fl .f32 c.ma, .fl .f32 c.ra, .fl .f32 c.sp, .fl .f32 c.stt]), some (.grow v.n [.fl .f32 v.f] 2 22), none]⟩
/-! The arguments of the exponential are not above zero. -/
theorem pos_sgv {x : Nat} (h : pos x = true) : fin .f32 x = true ∧ 0 < sgv FloatKind.f32.format x := by
  unfold pos at h
  have hf : fin .f32 x = true := by revert h; cases fin .f32 x <;> simp
  have hg : fgt .f32 x 0 = true := by revert h; cases fgt .f32 x 0 <;> simp
  rw [fgt_iff, fin_not_nan hf, show isNan .f32 0 = false by decide +kernel, show sgv FloatKind.f32.format 0 = 0 by decide +kernel] at hg
  simp only [Bool.not_false, Bool.true_and, decide_eq_true_eq] at hg
  exact ⟨hf, hg⟩
theorem skA_ok {ra lo sc : Nat} (h1 : fin .f32 lo = true) (h2 : pos ra = true) (h3 : fgt .f32 lo ra = true) (h4 : pos sc = true) : exOk (skA ra lo sc) = true := by
  refine exOk_of ?_
  unfold skA
  obtain ⟨hsf, hsg⟩ := pos_sgv h4
  obtain ⟨hrf, hrg⟩ := pos_sgv h2
  have g3 := h3
  rw [fgt_iff, fin_not_nan h1, fin_not_nan hrf] at g3
  simp only [Bool.not_false, Bool.true_and, decide_eq_true_eq] at g3
  have hss : sgn FloatKind.f32.format sc = false := by
    unfold sgv at hsg
    cases hs : sgn FloatKind.f32.format sc with
    | false => rfl
    | true => rw [hs] at hsg; simp only [if_true] at hsg; omega
  have hs0 : V FloatKind.f32.format (rung FloatKind.f32.format sc) ≠ 0 := by
    unfold sgv at hsg
    rw [hss] at hsg; simp only [Bool.false_eq_true, if_false] at hsg; omega
  have hdf := fin_fsub_pos (k := .f32) h1 hrf (by omega) g3
  have hds := sgn_fsub_pos (k := .f32) h1 hrf g3
  obtain ⟨r, r1, r2⟩ := fdiv_word hdf hsf hs0
  have hqr : rung FloatKind.f32.format (fdiv .f32 (fsub .f32 lo ra) sc) ≤ FloatKind.f32.format.infRung := by rw [r2, rung_word .f32 _ r1]; exact r1
  have hqn : isNan .f32 (fdiv .f32 (fsub .f32 lo ra) sc) = false := by rw [isNan_iff]; exact decide_eq_false (by omega)
  have hqs : sgn FloatKind.f32.format (fdiv .f32 (fsub .f32 lo ra) sc) = false := by
    rw [r2, sgn_word .f32 _ (Nat.lt_of_le_of_lt r1 (inf_lt_sw .f32)), hds, hss]; rfl
  have hn := sgv_fneg (k := .f32) hqn
  have hn2 : isNan .f32 (fneg .f32 (fdiv .f32 (fsub .f32 lo ra) sc)) = false := by rw [isNan_iff, rung_fneg hqn]; exact decide_eq_false (by omega)
  have h40 : (0 : Int) < sgv FloatKind.f32.format 1109393408 := by decide +kernel
  rw [fgt_iff, hn2, show isNan .f32 1109393408 = false by decide +kernel, hn]
  simp only [Bool.not_false, Bool.true_and, decide_eq_false_iff_not, Int.not_lt]
  have hq0 : 0 ≤ sgv FloatKind.f32.format (fdiv .f32 (fsub .f32 lo ra) sc) := by
    unfold sgv; rw [hqs]; simp only [Bool.false_eq_true, if_false]; omega
  omega

noncomputable def skG (ma ra dr ba sc ti : Nat) (j : Nat) (a : Nat × (Nat → Nat)) : (Nat × (Nat → Nat)) ⊕ (Bool × Nat × (Nat × (Nat → Nat))) := match fgt .f32 a.1 ra with
  | false => .inr (false, j, a)
  | true => match skOk ma ra a.1 dr ba sc ti with
    | false => .inr (true, j, a)
    | true => .inl (skX ma ra a.1 dr ba sc ti, fun q => if q = j then skX ma ra a.1 dr ba sc ti else a.2 q)
noncomputable def skEnd (ma ra dr ba sc ti n s : Nat) (a : Nat × (Nat → Nat)) : Bool × Nat × (Nat × (Nat → Nat)) := endX n (iterX (skG ma ra dr ba sc ti) (n - s) s a)
noncomputable def ks_step (c : Cks) (v : Vks) : T (Nx Vks) :=
  .ite (bif decide (v.1 < c.9) then fgt FloatKind.f32 v.2 c.2 else false) (.need (exOk (skA c.2 v.2 c.7)) (.need (bif !skOk c.1 c.2 v.2 c.5 c.6 c.7 c.8 then true else decide (v.3 ≤ v.3)) (.need (bif !skOk c.1 c.2 v.2 c.5 c.6 c.7 c.8 then true else decide (0 < 1)) (.need (bif !skOk c.1 c.2 v.2 c.5 c.6 c.7 c.8 then true else decide (v.3 + 1 ≤ 1073741824)) (.ite (!skOk c.1 c.2 v.2 c.5 c.6 c.7 c.8) (.leaf (.out (EX.ret) ⟨[(1, AV.one (SV.fl FloatKind.f32 v.2)), (2, AV.one (SV.fl FloatKind.f32 c.5)), (3, AV.one (SV.fl FloatKind.f32 c.6)), (4, AV.one (SV.fl FloatKind.f32 c.7)), (5, AV.one (SV.fl FloatKind.f32 c.8)), (6, AV.one (SV.num IntKind.i64 c.9)), (7, AV.one (SV.ptr 0 4 0 0)), (14, AV.one (SV.val (Value.slice none 0 0))), (15, AV.one (SV.tt false)), (16, AV.one (SV.tt false)), (17, AV.one (SV.so 1 1 v.n 2)), (18, AV.one (SV.num IntKind.i64 v.1))], c.base ++ [some (.box [.fl .f32 c.ma, .fl .f32 c.ra, .fl .f32 c.sp, .fl .f32 c.stt]), some (.grow v.n [.fl .f32 v.f] 2 22), none]⟩)) (.leaf (.go { i := IntKind.i64.wrap (v.1 + 1), lo := bif fin FloatKind.f32 (skX c.1 c.2 v.2 c.5 c.6 c.7 c.8) then skX c.1 c.2 v.2 c.5 c.6 c.7 c.8 else 0, n := v.n + 1, f := fun q => if q = v.n then bif fin FloatKind.f32 (skX c.ma c.ra v.lo c.dr c.ba c.sc c.ti) then skX c.ma c.ra v.lo c.dr c.ba c.sc c.ti else 0 else v.f q }))))))) (.leaf (.out (EX.exit 0) ⟨[(1, AV.one (SV.fl FloatKind.f32 v.2)), (2, AV.one (SV.fl FloatKind.f32 c.5)), (3, AV.one (SV.fl FloatKind.f32 c.6)), (4, AV.one (SV.fl FloatKind.f32 c.7)), (5, AV.one (SV.fl FloatKind.f32 c.8)), (6, AV.one (SV.num IntKind.i64 c.9)), (7, AV.one (SV.ptr 0 4 0 0)), (14, AV.one (SV.val (Value.slice none 0 0))), (15, AV.one (SV.tt false)), (16, AV.one (SV.tt false)), (17, AV.one (SV.so 1 1 v.n 2)), (18, AV.one (SV.num IntKind.i64 v.1))], c.base ++ [some (.box [.fl .f32 c.ma, .fl .f32 c.ra, .fl .f32 c.sp, .fl .f32 c.stt]), some (.grow v.n [.fl .f32 v.f] 2 22), none]⟩))
theorem ks_round (c : Cks) (v : Vks) : roundF Try.prog 78 [k_sSink] ksRoot [] c.base [0, 1, 2, 3, 4, 5, 6, 7, 14, 15, 16, 17, 18, 19, 20, 43, 53, 66, 198] [1, 2, 3, 4, 5, 6, 7, 14, 15, 16, 17, 18] 0 (ks_st c v) = (ks_step c v).map (nxF (ks_st c)) := by kernel_rfl
def ks_ok (c : Cks) (v : Vks) : Bool := decide (0 ≤ c.st ∧ c.st ≤ 64 ∧ airB c.ma c.ra c.sp c.stt c.dr c.ba c.sc c.ti = true ∧ fin .f32 v.lo = true ∧ v.n = v.i.toNat ∧ 0 ≤ v.i ∧ v.i ≤ c.st)
def ks_X (j : Nat) (a : Nat × (Nat → Nat)) : Vks := { i := (j : Int), lo := a.1, n := j, f := a.2 }
noncomputable def ks_e (x : Cks × Vks) : Bool × Nat × (Nat × (Nat → Nat)) := skEnd x.1.ma x.1.ra x.1.dr x.1.ba x.1.sc x.1.ti x.1.st.toNat x.2.i.toNat (x.2.lo, x.2.f)
noncomputable def ks_R (x : Cks × Vks) : T (EX × FSt) := .need (ks_ok x.1 x.2) (.ite (ks_e x).1 (.leaf (.ret, ks_st x.1 (ks_X (ks_e x).2.1 (ks_e x).2.2))) (.leaf (.normal, ks_st x.1 (ks_X (ks_e x).2.1 (ks_e x).2.2))))
theorem ks_tri (x : Cks × Vks) : TriR Try.prog 78 x.1.base (.block 0 (.loop (bodyB ksRoot 0))) (ks_st x.1 x.2) (ks_R x) := by
  obtain ⟨c, v⟩ := x
  refine triR_of mix (root := ksRoot) (by kernel_rfl) (by kernel_rfl) [0, 1, 2, 3, 4, 5, 6, 7, 14, 15, 16, 17, 18, 19, 20, 43, 53, 66, 198] [1, 2, 3, 4, 5, 6, 7, 14, 15, 16, 17, 18] (ks_st c) (ks_step c) (ks_round c) v _ ((c.st.toNat - v.i.toNat) + 1) (fun Φ h => ?_)
  have h0 := h.1
  have h3 := h.2
  simp only [ks_ok, decide_eq_true_eq] at h0
  obtain ⟨hs0, hs1, hair, hfin, hn, hi0, hin⟩ := h0
  have hv : v = ks_X v.i.toNat (v.lo, v.f) := by
    obtain ⟨i, lo, n, f⟩ := v
    have hn : n = i.toNat := hn
    have hi0 : 0 ≤ i := hi0
    subst hn
    simp only [ks_X, Int.toNat_of_nonneg hi0]
  have hair0 := hair
  unfold airB vb at hair
  simp only [Bool.and_eq_true] at hair
  obtain ⟨⟨hma, hra, hsp, hstt⟩, hdr, hba, hsc, hti⟩ := hair
  have key := T_iterXI (ks_step c) ks_X c.st.toNat (skG c.ma c.ra c.dr c.ba c.sc c.ti) (fun a => (.exit 0, ks_st c (ks_X c.st.toNat a))) (fun o => (match o.1 with | true => .ret | false => .exit 0, ks_st c (ks_X o.2.1 o.2.2))) (fun _ a => fin .f32 a.1 = true)
    (fun j a b hj hI hb => ?_) (fun j a hj hI Ψ h1 h2 => ?_) (fun a Ψ hΨ => ?_) (fun a => by simp) (fun o => by cases o.1 <;> simp) (c.st.toNat - v.i.toNat) v.i.toNat (v.lo, v.f) (by omega) hfin (fun r => Φ (blkEx 0 r.1, r.2)) (fun b hb => ?_) (fun o ho => ?_)
  · exact (congrArg (fun z => (loopTree (ks_step c) (c.st.toNat - v.i.toNat + 1) z).holds fun r => Φ (blkEx 0 r.1, r.2)) hv).mpr key
  · unfold skG at hb
    cases hg : fgt .f32 a.1 c.ra <;> rw [hg] at hb
    · cases hb
    · cases hk : skOk c.ma c.ra a.1 c.dr c.ba c.sc c.ti <;> rw [hk] at hb
      · cases hb
      · cases hb
        unfold skOk at hk
        simp only [Bool.and_eq_true] at hk
        exact hk.1
  · unfold ks_step
    refine T.h_ite (fun hc => ?_) (fun hc => T.h_leaf (h2 (false, j, a) ?_))
    · have hc : (bif decide ((j : Int) < c.st) then fgt .f32 a.1 c.ra else false) = true := hc
      rw [decide_eq_true (by omega), cond_true] at hc
      refine T.h_need (skA_ok hI hra hc hsc) (T.h_need (needT fun _ => decide_eq_true (Nat.le_refl _)) (T.h_need (needT fun _ => rfl) (T.h_need (needT fun _ => decide_eq_true ?_) (T.h_ite (fun hk => T.h_leaf (h2 (true, j, a) ?_)) (fun hk => T.h_leaf ?_)))))
      · show j + 1 ≤ 1073741824
        omega
      · have hk : (!skOk c.ma c.ra a.1 c.dr c.ba c.sc c.ti) = true := hk
        rw [Bool.not_eq_true'] at hk
        unfold skG; rw [hc, hk]
      · have hk : (!skOk c.ma c.ra a.1 c.dr c.ba c.sc c.ti) = false := hk
        rw [Bool.not_eq_false'] at hk
        have hX : fin .f32 (skX c.ma c.ra a.1 c.dr c.ba c.sc c.ti) = true := by
          unfold skOk at hk
          simp only [Bool.and_eq_true] at hk
          exact hk.1
        show Ψ (.go { i := IntKind.i64.wrap ((j : Int) + 1), lo := (bif fin .f32 (skX c.ma c.ra a.1 c.dr c.ba c.sc c.ti) then skX c.ma c.ra a.1 c.dr c.ba c.sc c.ti else 0), n := j + 1, f := fun q => if q = j then (bif fin .f32 (skX c.ma c.ra a.1 c.dr c.ba c.sc c.ti) then skX c.ma c.ra a.1 c.dr c.ba c.sc c.ti else 0) else a.2 q })
        rw [hX, cond_true, wrap_next (by omega)]
        exact h1 (skX c.ma c.ra a.1 c.dr c.ba c.sc c.ti, fun q => if q = j then skX c.ma c.ra a.1 c.dr c.ba c.sc c.ti else a.2 q) (by unfold skG; rw [hc, hk])
    · have hc : (bif decide ((j : Int) < c.st) then fgt .f32 a.1 c.ra else false) = false := hc
      rw [decide_eq_true (by omega), cond_true] at hc
      unfold skG; rw [hc]
  · unfold ks_step
    refine T.h_ite (fun hc => ?_) (fun _ => T.h_leaf hΨ)
    have hc : (bif decide (((c.st.toNat : Nat) : Int) < c.st) then fgt .f32 a.1 c.ra else false) = true := hc
    rw [decide_eq_false (by omega), cond_false] at hc
    cases hc
  · have e : ks_e (c, v) = (false, c.st.toNat, b) := by unfold ks_e skEnd; dsimp only; rw [hb]; rfl
    rw [e] at h3
    exact h3.2 rfl
  · have e : ks_e (c, v) = o := by unfold ks_e skEnd; dsimp only; rw [ho]; rfl
    rw [e] at h3
    cases hb : o.1 with
    | true => exact h3.1 hb
    | false => exact h3.2 hb

def ks_dec (b : Mem) (f : FSt) : Option (Cks × Vks) :=
  match getPtr 0 4 (findF 7 f.sl), getF .f32 (findF 2 f.sl), getF .f32 (findF 3 f.sl), getF .f32 (findF 4 f.sl), getF .f32 (findF 5 f.sl), getNil (findF 14 f.sl), getFf (findF 15 f.sl), getFf (findF 16 f.sl), getI (findF 6 f.sl), getI (findF 18 f.sl), getF .f32 (findF 1 f.sl), getSo 1 1 2 (findF 17 f.sl), id b, f.mem with
  | some (), some dr_, some ba_, some sc_, some ti_, some (), some (), some (), some st_, some q_i, some q_lo, some q_n, [], [some (.box [.fl .f32 ma_, .fl .f32 ra_, .fl .f32 sp_, .fl .f32 stt_]), some (.grow r_n [.fl .f32 q_f] 2 22), none] => if q_n = r_n then some ({ ma := ma_, ra := ra_, sp := sp_, stt := stt_, dr := dr_, ba := ba_, sc := sc_, ti := ti_, st := st_ }, { i := q_i, lo := q_lo, n := q_n, f := q_f }) else none
  | _, _, _, _, _, _, _, _, _, _, _, _, _, _ => none
theorem ks_dec_ok (b : Mem) (f : FSt) (x : Cks × Vks) (h : ks_dec b f = some x) : b = x.1.base ∧ FLe b f (ks_st x.1 x.2) := by
  unfold ks_dec at h
  split at h
  · rename_i e0 e1 e2 e3 e4 e5 e6 e7 e8 e9 e10 e11 hb hm
    obtain ⟨hbo, h9⟩ := ite_some h
    clear h
    subst hbo
    have h := h9
    cases h
    have hb : b = _ := hb
    subst hb
    refine ⟨rfl, fle_of (fun p hp => ?_) (by rw [hm]; exact memLe_refl _)⟩
    simp only [List.mem_cons, List.not_mem_nil, or_false] at hp
    rcases hp with rfl | rfl | rfl | rfl | rfl | rfl | rfl | rfl | rfl | rfl | rfl | rfl
    · exact getF_rel e10
    · exact getF_rel e1
    · exact getF_rel e2
    · exact getF_rel e3
    · exact getF_rel e4
    · exact getI_rel e8
    · exact getPtr_rel e0
    · exact getNil_rel e5
    · exact getFf_rel e6
    · exact getFf_rel e7
    · exact getSo_rel e11
    · exact getI_rel e9
  · cases h
noncomputable def ks_sum : SumF Try.prog 78 ksRoot :=
  sumL (pathB ksRoot 0) ks_dec (fun x => x.1.base) (fun x => ks_st x.1 x.2) ks_R ks_dec_ok (by
    intro code hc x
    have hc2 : code = .block 0 (.loop (bodyB ksRoot 0)) := by
      have h : subR ksRoot (pathB ksRoot 0) = some (.block 0 (.loop (bodyB ksRoot 0))) := by kernel_rfl
      rw [h] at hc; cases hc; rfl
    subst hc2
    exact ks_tri x)

noncomputable def ki_step (c : Cki) (v : Vki) : T (Nx Vki) :=
  .ite (decide (v.1 < c.9)) (.need (bif !fgt FloatKind.f32 v.2 c.2 then true else exOk (skA c.2 v.2 c.7)) (.need (bif !fgt FloatKind.f32 v.2 c.2 then true else bif !skAll c.1 c.2 c.3 c.4 v.2 c.5 c.6 c.7 c.8 then true else decide (v.3 ≤ v.3)) (.need (bif !fgt FloatKind.f32 v.2 c.2 then true else bif !skAll c.1 c.2 c.3 c.4 v.2 c.5 c.6 c.7 c.8 then true else decide (0 < 1)) (.need (bif !fgt FloatKind.f32 v.2 c.2 then true else bif !skAll c.1 c.2 c.3 c.4 v.2 c.5 c.6 c.7 c.8 then true else decide (v.3 + 1 ≤ 1073741824)) (.ite (!fgt FloatKind.f32 v.2 c.2) (.leaf (.out (EX.exit 0) ⟨[(1, AV.one (SV.fl FloatKind.f32 v.2)), (2, AV.one (SV.fl FloatKind.f32 c.5)), (3, AV.one (SV.fl FloatKind.f32 c.6)), (4, AV.one (SV.fl FloatKind.f32 c.7)), (5, AV.one (SV.fl FloatKind.f32 c.8)), (7, AV.one (SV.ptr 0 4 0 0)), (14, AV.one (SV.val (Value.slice none 0 0))), (15, AV.one (SV.tt false)), (16, AV.one (SV.tt false)), (17, AV.one (SV.so 1 1 v.n 2)), (61, AV.one (SV.num IntKind.i64 c.9)), (62, AV.one (SV.num IntKind.i64 v.1))], c.base ++ [some (.box [.fl .f32 c.ma, .fl .f32 c.ra, .fl .f32 c.sp, .fl .f32 c.stt]), some (.grow v.n [.fl .f32 v.f] 2 22), none]⟩)) (.ite (!skAll c.1 c.2 c.3 c.4 v.2 c.5 c.6 c.7 c.8) (.leaf (.out (EX.ret) ⟨[(1, AV.one (SV.fl FloatKind.f32 v.2)), (2, AV.one (SV.fl FloatKind.f32 c.5)), (3, AV.one (SV.fl FloatKind.f32 c.6)), (4, AV.one (SV.fl FloatKind.f32 c.7)), (5, AV.one (SV.fl FloatKind.f32 c.8)), (7, AV.one (SV.ptr 0 4 0 0)), (14, AV.one (SV.val (Value.slice none 0 0))), (15, AV.one (SV.tt false)), (16, AV.one (SV.tt false)), (17, AV.one (SV.so 1 1 v.n 2)), (61, AV.one (SV.num IntKind.i64 c.9)), (62, AV.one (SV.num IntKind.i64 v.1))], c.base ++ [some (.box [.fl .f32 c.ma, .fl .f32 c.ra, .fl .f32 c.sp, .fl .f32 c.stt]), some (.grow v.n [.fl .f32 v.f] 2 22), none]⟩)) (.leaf (.go { i := IntKind.i64.wrap (v.1 + 1), lo := bif skAll c.1 c.2 c.3 c.4 v.2 c.5 c.6 c.7 c.8 then skX c.1 c.2 v.2 c.5 c.6 c.7 c.8 else 0, n := v.n + 1, f := fun q => if q = v.n then bif skAll c.ma c.ra c.sp c.stt v.lo c.dr c.ba c.sc c.ti then skX c.ma c.ra v.lo c.dr c.ba c.sc c.ti else 0 else v.f q })))))))) (.leaf (.out (EX.exit 0) ⟨[(1, AV.one (SV.fl FloatKind.f32 v.2)), (2, AV.one (SV.fl FloatKind.f32 c.5)), (3, AV.one (SV.fl FloatKind.f32 c.6)), (4, AV.one (SV.fl FloatKind.f32 c.7)), (5, AV.one (SV.fl FloatKind.f32 c.8)), (7, AV.one (SV.ptr 0 4 0 0)), (14, AV.one (SV.val (Value.slice none 0 0))), (15, AV.one (SV.tt false)), (16, AV.one (SV.tt false)), (17, AV.one (SV.so 1 1 v.n 2)), (61, AV.one (SV.num IntKind.i64 c.9)), (62, AV.one (SV.num IntKind.i64 v.1))], c.base ++ [some (.box [.fl .f32 c.ma, .fl .f32 c.ra, .fl .f32 c.sp, .fl .f32 c.stt]), some (.grow v.n [.fl .f32 v.f] 2 22), none]⟩))
theorem ki_round (c : Cki) (v : Vki) : roundF Try.prog 98 [k_iSink] kiRoot [] c.base [0, 1, 2, 3, 4, 5, 6, 7, 14, 15, 16, 17, 18, 19, 59, 61, 62, 63, 68, 80, 198] [1, 2, 3, 4, 5, 7, 14, 15, 16, 17, 61, 62] 0 (ki_st c v) = (ki_step c v).map (nxF (ki_st c)) := by kernel_rfl
def ki_ok (c : Cki) (v : Vki) : Bool := decide (0 ≤ c.st ∧ c.st ≤ 64 ∧ airB c.ma c.ra c.sp c.stt c.dr c.ba c.sc c.ti = true ∧ fin .f32 v.lo = true ∧ v.n = v.i.toNat ∧ 0 ≤ v.i ∧ v.i ≤ c.st)
def ki_X (j : Nat) (a : Nat × (Nat → Nat)) : Vki := { i := (j : Int), lo := a.1, n := j, f := a.2 }
noncomputable def ki_e (x : Cki × Vki) : Bool × Nat × (Nat × (Nat → Nat)) := skEnd x.1.ma x.1.ra x.1.dr x.1.ba x.1.sc x.1.ti x.1.st.toNat x.2.i.toNat (x.2.lo, x.2.f)
noncomputable def ki_R (x : Cki × Vki) : T (EX × FSt) := .need (ki_ok x.1 x.2) (.ite (ki_e x).1 (.leaf (.ret, ki_st x.1 (ki_X (ki_e x).2.1 (ki_e x).2.2))) (.leaf (.normal, ki_st x.1 (ki_X (ki_e x).2.1 (ki_e x).2.2))))
theorem ki_tri (x : Cki × Vki) : TriR Try.prog 98 x.1.base (.block 0 (.loop (bodyB kiRoot 0))) (ki_st x.1 x.2) (ki_R x) := by
  obtain ⟨c, v⟩ := x
  refine triR_of mix (root := kiRoot) (by kernel_rfl) (by kernel_rfl) [0, 1, 2, 3, 4, 5, 6, 7, 14, 15, 16, 17, 18, 19, 59, 61, 62, 63, 68, 80, 198] [1, 2, 3, 4, 5, 7, 14, 15, 16, 17, 61, 62] (ki_st c) (ki_step c) (ki_round c) v _ ((c.st.toNat - v.i.toNat) + 1) (fun Φ h => ?_)
  have h0 := h.1
  have h3 := h.2
  simp only [ki_ok, decide_eq_true_eq] at h0
  obtain ⟨hs0, hs1, hair, hfin, hn, hi0, hin⟩ := h0
  have hv : v = ki_X v.i.toNat (v.lo, v.f) := by
    obtain ⟨i, lo, n, f⟩ := v
    have hn : n = i.toNat := hn
    have hi0 : 0 ≤ i := hi0
    subst hn
    simp only [ki_X, Int.toNat_of_nonneg hi0]
  have hair0 := hair
  unfold airB vb at hair
  simp only [Bool.and_eq_true] at hair
  obtain ⟨⟨hma, hra, hsp, hstt⟩, hdr, hba, hsc, hti⟩ := hair
  have key := T_iterXI (ki_step c) ki_X c.st.toNat (skG c.ma c.ra c.dr c.ba c.sc c.ti) (fun a => (.exit 0, ki_st c (ki_X c.st.toNat a))) (fun o => (match o.1 with | true => .ret | false => .exit 0, ki_st c (ki_X o.2.1 o.2.2))) (fun _ a => fin .f32 a.1 = true)
    (fun j a b hj hI hb => ?_) (fun j a hj hI Ψ h1 h2 => ?_) (fun a Ψ hΨ => ?_) (fun a => by simp) (fun o => by cases o.1 <;> simp) (c.st.toNat - v.i.toNat) v.i.toNat (v.lo, v.f) (by omega) hfin (fun r => Φ (blkEx 0 r.1, r.2)) (fun b hb => ?_) (fun o ho => ?_)
  · exact (congrArg (fun z => (loopTree (ki_step c) (c.st.toNat - v.i.toNat + 1) z).holds fun r => Φ (blkEx 0 r.1, r.2)) hv).mpr key
  · unfold skG at hb
    cases hg : fgt .f32 a.1 c.ra <;> rw [hg] at hb
    · cases hb
    · cases hk : skOk c.ma c.ra a.1 c.dr c.ba c.sc c.ti <;> rw [hk] at hb
      · cases hb
      · cases hb
        unfold skOk at hk
        simp only [Bool.and_eq_true] at hk
        exact hk.1
  · unfold ki_step
    have hall : fgt .f32 a.1 c.ra = true → skAll c.ma c.ra c.sp c.stt a.1 c.dr c.ba c.sc c.ti = skOk c.ma c.ra a.1 c.dr c.ba c.sc c.ti := fun hg => by
      unfold skAll; rw [hair0, hI, hg]; rfl
    refine T.h_ite (fun _ => ?_) (fun hc => absurd hc ?_)
    · refine T.h_need (needT fun hc => skA_ok hI hra (by simpa using hc) hsc) (T.h_need (needT fun _ => needT fun _ => decide_eq_true (Nat.le_refl _)) (T.h_need (needT fun _ => needT fun _ => rfl) (T.h_need (needT fun _ => needT fun _ => decide_eq_true ?_) (T.h_ite (fun hg => T.h_leaf (h2 (false, j, a) ?_)) (fun hg => T.h_ite (fun hk => T.h_leaf (h2 (true, j, a) ?_)) (fun hk => T.h_leaf ?_))))))
      · show j + 1 ≤ 1073741824
        omega
      · have hg : (!fgt .f32 a.1 c.ra) = true := hg
        rw [Bool.not_eq_true'] at hg
        unfold skG; rw [hg]
      · have hg : (!fgt .f32 a.1 c.ra) = false := hg
        rw [Bool.not_eq_false'] at hg
        have hk : (!skAll c.ma c.ra c.sp c.stt a.1 c.dr c.ba c.sc c.ti) = true := hk
        rw [Bool.not_eq_true', hall hg] at hk
        unfold skG; rw [hg, hk]
      · have hg : (!fgt .f32 a.1 c.ra) = false := hg
        rw [Bool.not_eq_false'] at hg
        have hk : (!skAll c.ma c.ra c.sp c.stt a.1 c.dr c.ba c.sc c.ti) = false := hk
        rw [Bool.not_eq_false'] at hk
        have hk2 := hk
        rw [hall hg] at hk2
        show Ψ (.go { i := IntKind.i64.wrap ((j : Int) + 1), lo := (bif skAll c.ma c.ra c.sp c.stt a.1 c.dr c.ba c.sc c.ti then skX c.ma c.ra a.1 c.dr c.ba c.sc c.ti else 0), n := j + 1, f := fun q => if q = j then (bif skAll c.ma c.ra c.sp c.stt a.1 c.dr c.ba c.sc c.ti then skX c.ma c.ra a.1 c.dr c.ba c.sc c.ti else 0) else a.2 q })
        rw [hk, cond_true, wrap_next (by omega)]
        exact h1 (skX c.ma c.ra a.1 c.dr c.ba c.sc c.ti, fun q => if q = j then skX c.ma c.ra a.1 c.dr c.ba c.sc c.ti else a.2 q) (by unfold skG; rw [hg, hk2])
    · have e : decide ((j : Int) < c.st) = true := decide_eq_true (by omega)
      rw [show decide ((ki_X j a).i < c.st) = true from e]; simp
  · unfold ki_step
    refine T.h_ite (fun hc => ?_) (fun _ => T.h_leaf hΨ)
    have hc : decide (((c.st.toNat : Nat) : Int) < c.st) = true := hc
    rw [decide_eq_false (by omega)] at hc
    cases hc
  · have e : ki_e (c, v) = (false, c.st.toNat, b) := by unfold ki_e skEnd; dsimp only; rw [hb]; rfl
    rw [e] at h3
    exact h3.2 rfl
  · have e : ki_e (c, v) = o := by unfold ki_e skEnd; dsimp only; rw [ho]; rfl
    rw [e] at h3
    cases hb : o.1 with
    | true => exact h3.1 hb
    | false => exact h3.2 hb

def ki_dec (b : Mem) (f : FSt) : Option (Cki × Vki) :=
  match getPtr 0 4 (findF 7 f.sl), getF .f32 (findF 2 f.sl), getF .f32 (findF 3 f.sl), getF .f32 (findF 4 f.sl), getF .f32 (findF 5 f.sl), getNil (findF 14 f.sl), getFf (findF 15 f.sl), getFf (findF 16 f.sl), getI (findF 61 f.sl), getI (findF 62 f.sl), getF .f32 (findF 1 f.sl), getSo 1 1 2 (findF 17 f.sl), id b, f.mem with
  | some (), some dr_, some ba_, some sc_, some ti_, some (), some (), some (), some st_, some q_i, some q_lo, some q_n, [], [some (.box [.fl .f32 ma_, .fl .f32 ra_, .fl .f32 sp_, .fl .f32 stt_]), some (.grow r_n [.fl .f32 q_f] 2 22), none] => if q_n = r_n then some ({ ma := ma_, ra := ra_, sp := sp_, stt := stt_, dr := dr_, ba := ba_, sc := sc_, ti := ti_, st := st_ }, { i := q_i, lo := q_lo, n := q_n, f := q_f }) else none
  | _, _, _, _, _, _, _, _, _, _, _, _, _, _ => none
theorem ki_dec_ok (b : Mem) (f : FSt) (x : Cki × Vki) (h : ki_dec b f = some x) : b = x.1.base ∧ FLe b f (ki_st x.1 x.2) := by
  unfold ki_dec at h
  split at h
  · rename_i e0 e1 e2 e3 e4 e5 e6 e7 e8 e9 e10 e11 hb hm
    obtain ⟨hbo, h9⟩ := ite_some h
    clear h
    subst hbo
    have h := h9
    cases h
    have hb : b = _ := hb
    subst hb
    refine ⟨rfl, fle_of (fun p hp => ?_) (by rw [hm]; exact memLe_refl _)⟩
    simp only [List.mem_cons, List.not_mem_nil, or_false] at hp
    rcases hp with rfl | rfl | rfl | rfl | rfl | rfl | rfl | rfl | rfl | rfl | rfl | rfl
    · exact getF_rel e10
    · exact getF_rel e1
    · exact getF_rel e2
    · exact getF_rel e3
    · exact getF_rel e4
    · exact getPtr_rel e0
    · exact getNil_rel e5
    · exact getFf_rel e6
    · exact getFf_rel e7
    · exact getSo_rel e11
    · exact getI_rel e8
    · exact getI_rel e9
  · cases h
noncomputable def ki_sum : SumF Try.prog 98 kiRoot :=
  sumL (pathB kiRoot 0) ki_dec (fun x => x.1.base) (fun x => ki_st x.1 x.2) ki_R ki_dec_ok (by
    intro code hc x
    have hc2 : code = .block 0 (.loop (bodyB kiRoot 0)) := by
      have h : subR kiRoot (pathB kiRoot 0) = some (.block 0 (.loop (bodyB kiRoot 0))) := by kernel_rfl
      rw [h] at hc; cases hc; rfl
    subst hc2
    exact ki_tri x)

theorem airB_eq (ma ra sp stt dr ba sc ti : Nat) : (bif vb ma ra sp stt then bif bif fin FloatKind.f32 dr then fge FloatKind.f32 dr (0) else false then bif bif fin FloatKind.f32 ba then fge FloatKind.f32 ba (0) else false then bif bif fin FloatKind.f32 sc then fgt FloatKind.f32 sc (0) else false then bif fin FloatKind.f32 ti then fge FloatKind.f32 ti (0) else false else false else false else false else false) = airB ma ra sp stt dr ba sc ti := by
  unfold airB massB pos
  cases vb ma ra sp stt <;> cases fin .f32 dr <;> cases fge .f32 dr 0 <;> cases fin .f32 ba <;> cases fge .f32 ba 0 <;> cases fin .f32 sc <;> cases fgt .f32 sc 0 <;> cases fin .f32 ti <;> cases fge .f32 ti 0 <;> rfl
noncomputable def run_sAir0 : List AV → Mem → T Res
  | [.one (.ptr 0 4 0 0), .one (.fl .f32 dr), .one (.fl .f32 ba), .one (.fl .f32 sc), .one (.fl .f32 ti)], [some (.box [.fl .f32 ma, .fl .f32 ra, .fl .f32 sp, .fl .f32 stt])] => .leaf (.one (.bo (airB ma ra sp stt dr ba sc ti)), [])
  | _, _ => .fail
theorem sAir0_ev (dr ba sc ti ma ra sp stt : Nat) : k_sk_s_l06Air.run [.one (.ptr 0 4 0 0), .one (.fl .f32 dr), .one (.fl .f32 ba), .one (.fl .f32 sc), .one (.fl .f32 ti)] [some (.box [.fl .f32 ma, .fl .f32 ra, .fl .f32 sp, .fl .f32 stt])] = .leaf (.one (.bo (bif vb ma ra sp stt then bif bif fin FloatKind.f32 dr then fge FloatKind.f32 dr (0) else false then bif bif fin FloatKind.f32 ba then fge FloatKind.f32 ba (0) else false then bif bif fin FloatKind.f32 sc then fgt FloatKind.f32 sc (0) else false then bif fin FloatKind.f32 ti then fge FloatKind.f32 ti (0) else false else false else false else false else false)), []) := by kernel_rfl
noncomputable def k_sAir0 : Ctr Try.prog := k_sk_s_l06Air.to run_sAir0 (by
  intro args mem _
  unfold run_sAir0
  split
  · rw [sAir0_ev]
    exact Weak.of_eq (by rw [airB_eq])
  · exact Weak.fail _)
noncomputable def k_sAir : Ctr Try.prog := k_sAir0.own
theorem massB_eq (x : Nat) : (bif fin .f32 x then fge .f32 x 0 else false) = massB x := by unfold massB; cases fin .f32 x <;> rfl
theorem pos_eq (x : Nat) : (bif fin .f32 x then fgt .f32 x 0 else false) = pos x := by unfold pos; cases fin .f32 x <;> rfl
noncomputable def run_iMassW : List AV → Mem → T Res
  | [.one (.fl .f32 x)], _ => .leaf (.one (.bo (massB x)), [])
  | _, _ => .fail
theorem iMassW_ev (x : Nat) (mem : Mem) : k_sk_i_aMass.run [.one (.fl .f32 x)] mem = .leaf (.one (.bo (bif fin FloatKind.f32 x then fge FloatKind.f32 x (0) else false)), []) := by kernel_rfl
noncomputable def k_iMassW : Ctr Try.prog := k_sk_i_aMass.to run_iMassW (by
  intro args mem _
  unfold run_iMassW
  split
  · rw [iMassW_ev]
    exact Weak.of_eq (by rw [massB_eq])
  · exact Weak.fail _)
noncomputable def run_iLenW : List AV → Mem → T Res
  | [.one (.fl .f32 x)], _ => .leaf (.one (.bo (pos x)), [])
  | _, _ => .fail
theorem iLenW_ev (x : Nat) (mem : Mem) : k_sk_i_aLength.run [.one (.fl .f32 x)] mem = .leaf (.one (.bo (bif fin FloatKind.f32 x then fgt FloatKind.f32 x (0) else false)), []) := by kernel_rfl
noncomputable def k_iLenW : Ctr Try.prog := k_sk_i_aLength.to run_iLenW (by
  intro args mem _
  unfold run_iLenW
  split
  · rw [iLenW_ev]
    exact Weak.of_eq (by rw [pos_eq])
  · exact Weak.fail _)
noncomputable def k_sSr0 : Ctr Try.prog := (mkF0 Try.prog mix [k_sAir, k_l01Finite, k_sk_s_l00In, k_sSink] 36 Try.f36 (bodyOf Try.f36) Try.func36 (by kernel_rfl) (by kernel_rfl) [0, 1, 2, 3, 4, 5, 6, 7, 14, 15, 16, 17, 18, 19, 20, 43, 53, 66, 198] 78 (by kernel_rfl) (by kernel_rfl) [ks_sum]).mg
noncomputable def k_iSr0 : Ctr Try.prog := (mkF0 Try.prog mix [k_ivb, k_IsFinite, k_iMassW, k_iLenW, k_sk_i_within, k_iSink] 37 Try.f37 (bodyOf Try.f37) Try.func37 (by kernel_rfl) (by kernel_rfl) [0, 1, 2, 3, 4, 5, 6, 7, 14, 15, 16, 17, 18, 19, 59, 61, 62, 63, 68, 80, 198] 98 (by kernel_rfl) (by kernel_rfl) [ki_sum]).mg

end Go.Proofs.Ytkjggmfblkkopaa
