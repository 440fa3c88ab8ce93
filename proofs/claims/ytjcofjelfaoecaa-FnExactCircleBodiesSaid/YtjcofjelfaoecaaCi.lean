/-
  CircleBodies: both functions in the same words. No conditions.
-/
import Derived.Test.YtjcofjelfaoecaaMb
import Derived.Test.YtjcofjelfaoecaaRc
namespace Go.Proofs.Ytjcofjelfaoecaa
set_option linter.unusedVariables false
set_option linter.unusedSimpArgs false
open Go.RowKit

noncomputable def k_ci_s_l02Above : Ctr Try.prog := (mkF Try.prog mix [k_l01Finite] 86 Try.f86 (bodyOf Try.f86) Try.func86 (by kernel_rfl) (by kernel_rfl) [0, 2] 9 (by kernel_rfl) (by kernel_rfl)).mg
noncomputable def k_ci_i_aMass : Ctr Try.prog := (mkF Try.prog mix [k_IsFinite] 88 Try.f88 (bodyOf Try.f88) Try.func88 (by kernel_rfl) (by kernel_rfl) [0, 2] 9 (by kernel_rfl) (by kernel_rfl)).mg
noncomputable def k_ci_i_aLength : Ctr Try.prog := (mkF Try.prog mix [k_IsFinite] 89 Try.f89 (bodyOf Try.f89) Try.func89 (by kernel_rfl) (by kernel_rfl) [0, 2] 9 (by kernel_rfl) (by kernel_rfl)).mg
noncomputable def k_ci_sGive0 : Ctr Try.prog := (mkF0 Try.prog mix [k_l02Are] 87 Try.f87 (bodyOf Try.f87) Try.func87 (by kernel_rfl) (by kernel_rfl) [0, 2, 3, 6, 198] 8 (by kernel_rfl) (by kernel_rfl) []).mg
noncomputable def k_ci_sGive : Ctr Try.prog := k_ci_sGive0.su.rc.own
noncomputable def k_ci_iAs : Ctr Try.prog := k_iAs0.su.rc.own
noncomputable def k_sCi0 : Ctr Try.prog := (mkF0 Try.prog mix [k_l02Least, k_ci_s_l02Above, k_l01Sqrt, k_ci_sGive] 31 Try.f31 (bodyOf Try.f31) Try.func31 (by kernel_rfl) (by kernel_rfl) [0, 1, 2, 6, 7, 8, 9, 10, 11, 12, 13, 34, 198] 76 (by kernel_rfl) (by kernel_rfl) []).mg
noncomputable def k_iCi0 : Ctr Try.prog := (mkF0 Try.prog mix [k_ci_i_aMass, k_ci_i_aLength, k_RootNumber, k_ci_iAs] 32 Try.f32 (bodyOf Try.f32) Try.func32 (by kernel_rfl) (by kernel_rfl) [0, 1, 2, 6, 7, 8, 9, 10, 11, 32, 198] 72 (by kernel_rfl) (by kernel_rfl) []).mg
def two (x y : Nat) (i : Nat) : Nat := bif Nat.beq i 0 then x else y
def ciX (a b c : Nat) : Nat := fneg .f32 (fdiv .f32 (fmul .f32 c b) (fadd .f32 a b))
def ciY (a b c : Nat) : Nat := fdiv .f32 (fmul .f32 c a) (fadd .f32 a b)
def ciW (a b c : Nat) : Nat := rootV (fdiv .f32 (fadd .f32 a b) (fmul .f32 (fmul .f32 c c) c))
def ciG (a b c : Nat) (i : Nat) : List SV := (List.drop (i * 7) [.fl .f32 (ciX a b c), .fl .f32 (canon .f32 0), .fl .f32 (canon .f32 0), .fl .f32 (canon .f32 0), .fl .f32 (fmul .f32 (ciW a b c) (ciX a b c)), .fl .f32 (canon .f32 0), .fl .f32 a, .fl .f32 (ciY a b c), .fl .f32 (canon .f32 0), .fl .f32 (canon .f32 0), .fl .f32 (canon .f32 0), .fl .f32 (fmul .f32 (ciW a b c) (ciY a b c)), .fl .f32 (canon .f32 0), .fl .f32 b]).take 7
def geB (x : Nat) : Bool := bif fin .f32 x then fge .f32 x (canon .f32 0) else false
def gtB (x : Nat) : Bool := bif fin .f32 x then fgt .f32 x (canon .f32 0) else false
def ciC (A B E L : Bool) : Bool := bif !A then true else bif !B then true else bif !E then true else !L
def ciBad (a b c : Nat) : Bool := ciC (geB a) (geB b) (gtB (fadd .f32 a b)) (gtB c)
def ciBad2 (a b c : Nat) : Bool := ciC (geB a) (geB b) (gtB c) (gtB (fadd .f32 a b))
theorem ciBad_eq (a b c : Nat) : ciBad2 a b c = ciBad a b c := by
  unfold ciBad ciBad2
  cases geB a <;> cases geB b <;> cases gtB c <;> cases gtB (fadd .f32 a b) <;> rfl
theorem sCi0_ev (a b c : Nat) : k_sCi0.run [.one (.fl .f32 a), .one (.fl .f32 b), .one (.fl .f32 c)] [] =
    .need (bif ciBad a b c then true else decide (2 ≤ 2)) (.need (bif ciBad a b c then true else decide (2 ≤ 2)) (.ite (ciBad a b c) (.leaf (.tup [.one (.val (.slice none 0 0)), .one (.tt false)], [])) (.ite (!areB 2 (two (ciX a b c) (ciY a b c)) (two (canon .f32 0) (canon .f32 0)) (two (canon .f32 0) (canon .f32 0)) (two (canon .f32 0) (canon .f32 0)) (two (fmul .f32 (ciW a b c) (ciX a b c)) (fmul .f32 (ciW a b c) (ciY a b c))) (two (canon .f32 0) (canon .f32 0)) (two a b)) (.leaf (.tup [.one (.val (.slice none 0 0)), .one (.tt false)], [])) (.leaf (.tup [.one (.su 2 7 0 2 true), .one (.tt true)], [some (.box [.fl .f32 (ciX a b c), .fl .f32 (canon .f32 0), .fl .f32 (canon .f32 0), .fl .f32 (canon .f32 0), .fl .f32 (fmul .f32 (ciW a b c) (ciX a b c)), .fl .f32 (canon .f32 0), .fl .f32 a]), some (.box [.fl .f32 (ciY a b c), .fl .f32 (canon .f32 0), .fl .f32 (canon .f32 0), .fl .f32 (canon .f32 0), .fl .f32 (fmul .f32 (ciW a b c) (ciY a b c)), .fl .f32 (canon .f32 0), .fl .f32 b]), some (.row 2 7 (ciG a b c))]))))) := by kernel_rfl
theorem iCi0_ev (a b c : Nat) : k_iCi0.run [.one (.fl .f32 a), .one (.fl .f32 b), .one (.fl .f32 c)] [] =
    .need (bif ciBad2 a b c then true else decide (2 ≤ 2)) (.need (bif ciBad2 a b c then true else decide (2 ≤ 2)) (.ite (ciBad2 a b c) (.leaf (.tup [.one (.val (.slice none 0 0)), .one (.tt false)], [])) (.ite (!areB 2 (two (ciX a b c) (ciY a b c)) (two (canon .f32 0) (canon .f32 0)) (two (canon .f32 0) (canon .f32 0)) (two (canon .f32 0) (canon .f32 0)) (two (fmul .f32 (ciW a b c) (ciX a b c)) (fmul .f32 (ciW a b c) (ciY a b c))) (two (canon .f32 0) (canon .f32 0)) (two a b)) (.leaf (.tup [.one (.val (.slice none 0 0)), .one (.tt false)], [])) (.leaf (.tup [.one (.su 0 7 0 2 true), .one (.tt true)], [some (.row 2 7 (ciG a b c))]))))) := by kernel_rfl
def ci_ok (a b c : Nat) : Bool := !ciBad a b c && areB 2 (two (ciX a b c) (ciY a b c)) (two (canon .f32 0) (canon .f32 0)) (two (canon .f32 0) (canon .f32 0)) (two (canon .f32 0) (canon .f32 0)) (two (fmul .f32 (ciW a b c) (ciX a b c)) (fmul .f32 (ciW a b c) (ciY a b c))) (two (canon .f32 0) (canon .f32 0)) (two a b)
def run_sCi : List AV → Mem → T Res
  | [.one (.fl .f32 a), .one (.fl .f32 b), .one (.fl .f32 c)], [] => .ite (ci_ok a b c) (.leaf (.tup [.one (.su 2 7 0 2 false), .one (.tt true)], [none, none, some (.cols 2 [.fl .f32 (two (ciX a b c) (ciY a b c)), .fl .f32 (two (canon .f32 0) (canon .f32 0)), .fl .f32 (two (canon .f32 0) (canon .f32 0)), .fl .f32 (two (canon .f32 0) (canon .f32 0)), .fl .f32 (two (fmul .f32 (ciW a b c) (ciX a b c)) (fmul .f32 (ciW a b c) (ciY a b c))), .fl .f32 (two (canon .f32 0) (canon .f32 0)), .fl .f32 (two a b)])])) (.leaf (.tup [.one (.val (.slice none 0 0)), .one (.tt false)], []))
  | _, _ => .fail
def run_iCi : List AV → Mem → T Res
  | [.one (.fl .f32 a), .one (.fl .f32 b), .one (.fl .f32 c)], [] => .ite (ci_ok a b c) (.leaf (.tup [.one (.su 0 7 0 2 false), .one (.tt true)], [some (.cols 2 [.fl .f32 (two (ciX a b c) (ciY a b c)), .fl .f32 (two (canon .f32 0) (canon .f32 0)), .fl .f32 (two (canon .f32 0) (canon .f32 0)), .fl .f32 (two (canon .f32 0) (canon .f32 0)), .fl .f32 (two (fmul .f32 (ciW a b c) (ciX a b c)) (fmul .f32 (ciW a b c) (ciY a b c))), .fl .f32 (two (canon .f32 0) (canon .f32 0)), .fl .f32 (two a b)])])) (.leaf (.tup [.one (.val (.slice none 0 0)), .one (.tt false)], []))
  | _, _ => .fail
theorem ci_row (a b c : Nat) : BlLe (.row 2 7 (ciG a b c)) (.cols 2 [.fl .f32 (two (ciX a b c) (ciY a b c)), .fl .f32 (two (canon .f32 0) (canon .f32 0)), .fl .f32 (two (canon .f32 0) (canon .f32 0)), .fl .f32 (two (canon .f32 0) (canon .f32 0)), .fl .f32 (two (fmul .f32 (ciW a b c) (ciX a b c)) (fmul .f32 (ciW a b c) (ciY a b c))), .fl .f32 (two (canon .f32 0) (canon .f32 0)), .fl .f32 (two a b)]) := by
  have h1 : BlLe (.row 2 7 (ciG a b c)) (.cols 2 (f32Cols (ciG a b c) 7 0)) := rc_le rfl
  have h2 : BlLe (.cols 2 (f32Cols (ciG a b c) 7 0)) (.cols 2 [.fl .f32 (two (ciX a b c) (ciY a b c)), .fl .f32 (two (canon .f32 0) (canon .f32 0)), .fl .f32 (two (canon .f32 0) (canon .f32 0)), .fl .f32 (two (canon .f32 0) (canon .f32 0)), .fl .f32 (two (fmul .f32 (ciW a b c) (ciX a b c)) (fmul .f32 (ciW a b c) (ciY a b c))), .fl .f32 (two (canon .f32 0) (canon .f32 0)), .fl .f32 (two a b)]) := by
    refine BlLe.cols_eq (fun i hi => ?_) rfl
    match i, hi with
    | 0, _ => rfl
    | 1, _ => rfl
  exact fun ρ w b o hb => h2 ρ w b o (h1 ρ w b o hb)
theorem su_kn {ρ : Rho} {v : Value} {id sz i n : Nat} (hv : (AV.tup [.one (.su id sz i n true), .one (.tt true)]).rel ρ v) : (AV.tup [.one (.su id sz i n false), .one (.tt true)]).rel ρ v := by
  obtain ⟨vs, hvs, hl⟩ := hv
  refine ⟨vs, hvs, ?_⟩
  match vs.toList, hl with
  | [a, b], hl => exact ⟨hl.1, hl.2.1, trivial⟩
theorem ci_sh {Φ : Res → Prop} {nil row : Res} {m : Bool} : ∀ (A B : Bool), m = true → ((!A && B) = true → Φ row) ∧ ((!A && B) = false → Φ nil) →
    (T.need (bif A then true else m) (T.need (bif A then true else m) (T.ite A (.leaf nil) (.ite (!B) (.leaf nil) (.leaf row))))).holds Φ := by
  intro A B h1 h
  cases A <;> cases B <;> simp_all [T.holds]
noncomputable def k_sCi : Ctr Try.prog := (k_sCi0.to run_sCi (by
  intro args mem _
  unfold run_sCi
  split
  · rename_i a b c _
    rw [sCi0_ev]
    constructor
    intro Φ hΦ h
    exact ci_sh _ _ rfl ⟨fun hk => hΦ _ (.tup [.one (.su 2 7 0 2 false), .one (.tt true)], [none, none, some (.cols 2 [.fl .f32 (two (ciX a b c) (ciY a b c)), .fl .f32 (two (canon .f32 0) (canon .f32 0)), .fl .f32 (two (canon .f32 0) (canon .f32 0)), .fl .f32 (two (canon .f32 0) (canon .f32 0)), .fl .f32 (two (fmul .f32 (ciW a b c) (ciX a b c)) (fmul .f32 (ciW a b c) (ciY a b c))), .fl .f32 (two (canon .f32 0) (canon .f32 0)), .fl .f32 (two a b)])]) ⟨⟨ci_row a b c, trivial⟩, fun _ _ hv => su_kn hv⟩ (h.1 hk), fun hk => h.2 hk⟩
  · exact Weak.fail _)).own
noncomputable def k_iCi : Ctr Try.prog := (k_iCi0.to run_iCi (by
  intro args mem _
  unfold run_iCi
  split
  · rename_i a b c _
    rw [iCi0_ev, ciBad_eq]
    constructor
    intro Φ hΦ h
    exact ci_sh _ _ rfl ⟨fun hk => hΦ _ (.tup [.one (.su 0 7 0 2 false), .one (.tt true)], [some (.cols 2 [.fl .f32 (two (ciX a b c) (ciY a b c)), .fl .f32 (two (canon .f32 0) (canon .f32 0)), .fl .f32 (two (canon .f32 0) (canon .f32 0)), .fl .f32 (two (canon .f32 0) (canon .f32 0)), .fl .f32 (two (fmul .f32 (ciW a b c) (ciX a b c)) (fmul .f32 (ciW a b c) (ciY a b c))), .fl .f32 (two (canon .f32 0) (canon .f32 0)), .fl .f32 (two a b)])]) ⟨⟨ci_row a b c, trivial⟩, fun _ _ hv => su_kn hv⟩ (h.1 hk), fun hk => h.2 hk⟩
  · exact Weak.fail _)).own

end Go.Proofs.Ytjcofjelfaoecaa
