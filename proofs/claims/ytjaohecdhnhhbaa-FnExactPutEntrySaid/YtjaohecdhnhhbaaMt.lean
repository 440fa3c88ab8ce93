/-
  Texts that mark. No conditions.
-/
import Derived.Test.YtjaohecdhnhhbaaVn
import Derived.Test.YtjaohecdhnhhbaaWl
namespace Go.Proofs.Ytjaohecdhnhhbaa
set_option linter.unusedVariables false
set_option linter.unusedSimpArgs false
open Go.RowKit

structure Cmt where
def Cmt.base (c : Cmt) : Mem := []
structure Vmt where
  k : Int
  s : ByteArray
noncomputable abbrev mtRoot : Code := bodyOf Try.f44
def mt_st (c : Cmt) (v : Vmt) : FSt := ⟨[(0, .one (.num .i64 v.k)), (3, .one (.str v.s))], c.base ++ []⟩
def mt_step (c : Cmt) (v : Vmt) : T (Nx Vmt) :=
  .ite (decide (0 < v.1)) (.need (true) (.need (true) (.need (!decide (↑((strOfNums [IntKind.u8.wrap (IntKind.i64.wrap (48 + v.1.tmod 10))]).size + v.2.size) > IntKind.i64.max)) (.need (true) (.leaf (.go { k := IntKind.i64.wrap (v.1.tdiv 10), s := strOfNums [IntKind.u8.wrap (IntKind.i64.wrap (48 + v.1.tmod 10))] ++ v.2 })))))) (.leaf (.out (EX.exit 0) ⟨[(0, AV.one (SV.num IntKind.i64 v.1)), (3, AV.one (SV.str v.2))], c.base ++ []⟩))
theorem mt_round (c : Cmt) (v : Vmt) : roundF Try.prog 20 [] mtRoot [] c.base [0, 2, 3, 5, 7, 198] [0, 3] 0 (mt_st c v) = (mt_step c v).map (nxF (mt_st c)) := by kernel_rfl
def mt_b (v : Vmt) : Bool := decide (0 < v.k)
def mt_f (v : Vmt) : Vmt := { k := IntKind.i64.wrap (v.k.tdiv 10), s := strOfNums [IntKind.u8.wrap (IntKind.i64.wrap (48 + v.k.tmod 10))] ++ v.s }
def mtI (k : Nat) (v : Vmt) : Prop := 0 ≤ v.k ∧ v.k ≤ 16777216 ∧ v.k < (10 : Int) ^ k ∧ v.s.size + k ≤ 20
instance (k : Nat) (v : Vmt) : Decidable (mtI k v) := by unfold mtI; infer_instance
theorem mtI_step (k : Nat) (v : Vmt) (h : mtI (k + 1) v) (hb : mt_b v = true) : mtI k (mt_f v) := by
  obtain ⟨h1, h2, h3, h4⟩ := h
  have e : v.k.tdiv 10 = v.k / 10 := Int.tdiv_eq_ediv_of_nonneg h1
  have hw : IntKind.i64.wrap (v.k.tdiv 10) = v.k / 10 := by rw [e]; exact IntWalk.i64_in _ (by omega)
  rw [Int.pow_succ] at h3
  refine ⟨?_, ?_, ?_, ?_⟩
  · show 0 ≤ IntKind.i64.wrap (v.k.tdiv 10); rw [hw]; omega
  · show IntKind.i64.wrap (v.k.tdiv 10) ≤ 16777216; rw [hw]; omega
  · show IntKind.i64.wrap (v.k.tdiv 10) < (10 : Int) ^ k; rw [hw]
    generalize (10 : Int) ^ k = P at *
    omega
  · show (strOfNums [IntKind.u8.wrap (IntKind.i64.wrap (48 + v.k.tmod 10))] ++ v.s).size + k ≤ 20
    rw [ByteArray.size_append, strOfNums_size]
    simp only [List.length_cons, List.length_nil]
    omega
theorem mtI_end (v : Vmt) (h : mtI 0 v) : mt_b v = false := by
  obtain ⟨h1, h2, h3, h4⟩ := h
  rw [Int.pow_zero] at h3
  exact decide_eq_false (by omega)
theorem str_room {a : ByteArray} {b : ByteArray} (h : a.size + b.size ≤ 1000) : (!decide (((a.size + b.size : Nat) : Int) > IntKind.i64.max)) = true := by
  have hmax : IntKind.i64.max = 9223372036854775807 := by decide
  rw [hmax]
  rw [decide_eq_false (by omega)]; rfl
def mt_ok (c : Cmt) (v : Vmt) : Bool := decide (mtI 10 v)
def mt_R (x : Cmt × Vmt) : T (EX × FSt) := .need (mt_ok x.1 x.2) (.leaf (.normal, mt_st x.1 (whl mt_b mt_f 10 x.2)))
theorem mt_tri (x : Cmt × Vmt) : TriR Try.prog 20 x.1.base (.block 0 (.loop (bodyB mtRoot 0))) (mt_st x.1 x.2) (mt_R x) := by
  obtain ⟨c, v⟩ := x
  refine triR_of mix (root := mtRoot) (by kernel_rfl) (by kernel_rfl) [0, 2, 3, 5, 7, 198] [0, 3] (mt_st c) (mt_step c) (mt_round c) v _ (10 + 1) (fun Φ h => ?_)
  have h0 : mtI 10 v := of_decide_eq_true h.1
  have h1 : Φ (.normal, mt_st c (whl mt_b mt_f 10 v)) := h.2
  refine T_whileI (mt_step c) mt_b mt_f (fun v => (.exit 0, mt_st c v)) mtI mtI_step mtI_end (fun k v hi hb Ψ hΨ => ?_) (fun v hb Ψ hΨ => ?_) (fun v => by simp) 10 v h0 _ (by simpa [blkEx] using h1)
  · unfold mt_step
    refine T.h_ite (fun _ => T.h_need rfl (T.h_need rfl (T.h_need (str_room ?_) (T.h_need rfl (T.h_leaf hΨ))))) (fun hc => absurd (hb.symm.trans hc) (by decide))
    have := hi.2.2.2
    rw [strOfNums_size]
    simp only [List.length_cons, List.length_nil]
    omega
  · unfold mt_step
    exact T.h_ite (fun hc => absurd (hc.symm.trans hb) (by decide)) (fun _ => T.h_leaf hΨ)

def mt_dec (b : Mem) (f : FSt) : Option (Cmt × Vmt) :=
  match getI (findF 0 f.sl), getStr (findF 3 f.sl), id b, f.mem with
  | some q_k, some q_s, [], [] => some ({  }, { k := q_k, s := q_s })
  | _, _, _, _ => none
theorem mt_dec_ok (b : Mem) (f : FSt) (x : Cmt × Vmt) (h : mt_dec b f = some x) : b = x.1.base ∧ FLe b f (mt_st x.1 x.2) := by
  unfold mt_dec at h
  split at h
  · rename_i e0 e1 hb hm
    cases h
    have hb : b = _ := hb
    subst hb
    refine ⟨rfl, fle_of (fun p hp => ?_) (by rw [hm]; exact trivial)⟩
    simp only [List.mem_cons, List.not_mem_nil, or_false] at hp
    rcases hp with rfl | rfl
    · exact getI_rel e0
    · exact getStr_rel e1
  · cases h
noncomputable def mt_sum : SumF Try.prog 20 mtRoot :=
  sumL (pathB mtRoot 0) mt_dec (fun x => x.1.base) (fun x => mt_st x.1 x.2) mt_R mt_dec_ok (by
    intro code hc x
    have hc2 : code = .block 0 (.loop (bodyB mtRoot 0)) := by
      have h : subR mtRoot (pathB mtRoot 0) = some (.block 0 (.loop (bodyB mtRoot 0))) := by kernel_rfl
      rw [h] at hc; cases hc; rfl
    subst hc2
    exact mt_tri x)

noncomputable def k_mt0 : Ctr Try.prog := mkF0 Try.prog mix [] 44 Try.f44 (bodyOf Try.f44) Try.func44 (by kernel_rfl) (by kernel_rfl) [0, 2, 3, 5, 7, 198] 20 (by kernel_rfl) (by kernel_rfl) [mt_sum]
def mkT (k : Int) : ByteArray := ⟨#[109]⟩ ++ (whl mt_b mt_f 10 { k := k, s := ⟨#[]⟩ }).s
theorem mt_start {k : Int} (h : 0 < k ∧ k ≤ 16777216) : mtI 10 { k := k, s := ⟨#[]⟩ } := by
  refine ⟨by show 0 ≤ k; omega, h.2, ?_, by show (⟨#[]⟩ : ByteArray).size + 10 ≤ 20; decide⟩
  show k < (10 : Int) ^ 10
  have : (10 : Int) ^ 10 = 10000000000 := by decide
  omega
theorem mt_size {k : Int} (h : 0 < k ∧ k ≤ 16777216) : (whl mt_b mt_f 10 { k := k, s := ⟨#[]⟩ }).s.size ≤ 20 := by
  obtain ⟨_, j, _, _, _, h4⟩ := whl_end mtI mtI_step mtI_end 10 _ (mt_start h)
  omega
theorem mkT_size {k : Int} (h : 0 < k ∧ k ≤ 16777216) : (mkT k).size ≤ 21 := by
  have := mt_size h
  unfold mkT
  rw [ByteArray.size_append]
  have : (⟨#[109]⟩ : ByteArray).size = 1 := rfl
  omega
def run_mt : List AV → Mem → T Res
  | [.one (.num .i64 k)], [] => .need (decide (0 < k ∧ k ≤ 16777216)) (.leaf (.one (.str (mkT k)), []))
  | _, _ => .fail
theorem mt0_ev (k : Int) : k_mt0.run [.one (.num .i64 k)] [] = .ite (decide (k ≤ 0)) (.leaf (.one (.str ⟨#[109, 48]⟩), [])) (.need (decide (mtI 10 { k := k, s := ⟨#[]⟩ })) (.need (!decide ((((⟨#[109]⟩ : ByteArray).size + (whl mt_b mt_f 10 { k := k, s := ⟨#[]⟩ }).s.size : Nat) : Int) > IntKind.i64.max)) (.leaf (.one (.str (mkT k)), [])))) := by kernel_rfl
noncomputable def k_markText : Ctr Try.prog := (k_mt0.to run_mt (by
  intro args mem _
  unfold run_mt
  split
  · rename_i k _
    constructor
    intro Φ hΦ h
    rw [mt0_ev]
    have hk : 0 < k ∧ k ≤ 16777216 := of_decide_eq_true h.1
    refine T.h_ite (fun hc => absurd (of_decide_eq_true hc) (by omega)) (fun _ => T.h_need (decide_eq_true (mt_start hk)) (T.h_need (str_room ?_) (T.h_leaf h.2)))
    have := mt_size hk
    have : (⟨#[109]⟩ : ByteArray).size = 1 := rfl
    omega
  · exact Weak.fail _)).own

end Go.Proofs.Ytjaohecdhnhhbaa
