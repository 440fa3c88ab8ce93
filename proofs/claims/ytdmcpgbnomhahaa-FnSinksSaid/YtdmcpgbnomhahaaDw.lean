/-
  Numbers drawn out of bytes. No conditions.
-/
import Derived.Test.YtdmcpgbnomhahaaSm
import Derived.Test.YtdmcpgbnomhahaaWq
import Derived.Laws.BitsAllLaws
namespace Go.Proofs.Ytdmcpgbnomhahaa
set_option linter.unusedVariables false
set_option linter.unusedSimpArgs false
open Go.RowKit

/-- A box's numbers that are known as ones that are not. -/
def numC : SV → SV
  | .int k n => .num k n
  | s => s
theorem numC_rel {ρ : Rho} {s : SV} {v : Value} (h : s.rel ρ v) : (numC s).rel ρ v := by cases s <;> exact h
def numB : Blk → Blk
  | .box l => .box (l.map numC)
  | B => B
theorem numB_le (B : Blk) : BlLe B (numB B) := by
  cases B with
  | box l =>
    intro ρ w b o h
    obtain ⟨c, e, fz, h1, h2, _⟩ := h
    refine ⟨c, e, fz, h1, fun i hi j hj => ?_, trivial⟩
    have hs : Blk.sz (numB (.box l)) = Blk.sz (.box l) := by show (l.map numC).length = l.length; simp
    rw [hs] at hj ⊢
    obtain ⟨v, s, a1, a2, a3⟩ := h2 i hi j hj
    have a2 : l[j]? = some s := a2
    refine ⟨v, numC s, a1, ?_, numC_rel a3⟩
    show (l.map numC)[j]? = _
    rw [List.getElem?_map, a2]; rfl
  | _ => exact BlLe.refl _
def Wq.nums {P : Program} {f : FuncId} (W : Wq P f) : Wq P f where
  run := fun args E C => W.run args E (numB C)
  ok := fun args E C ρ w vals b hm h0 h2 hne hown ha o a K Q hh =>
    W.ok args E (numB C) ρ w vals b (hm.le (by
      cases E with
      | none => exact ⟨numB_le C, trivial⟩
      | some q => exact ⟨BlLe.refl _, numB_le C, trivial⟩)) h0 h2 hne hown ha o a K Q hh
def bytesOK (n : Nat) (f : Nat → Int) : Bool := decide (∀ i, i < n → 0 ≤ f i ∧ f i < 256)
theorem u64_in (x : Int) : 0 ≤ IntKind.u64.wrap x ∧ IntKind.u64.wrap x < 18446744073709551616 := by
  have e : IntKind.u64.wrap x = x % 18446744073709551616 := by simp [IntKind.wrap, IntKind.bits, IntKind.signed]
  rw [e]; omega
theorem and255 (x : Int) (h0 : 0 ≤ x) (h1 : x < 18446744073709551616) : 0 ≤ Go.bits .and .u64 x 255 ∧ Go.bits .and .u64 x 255 < 256 := by
  rw [u64_and x 255 h0 h1 (by decide) (by decide)]
  have := Nat.and_le_right (n := x.toNat) (m := (255 : Int).toNat)
  have e : (255 : Int).toNat = 255 := rfl
  rw [e] at this ⊢
  omega
theorem seed255 (z : Int) : 0 ≤ IntKind.i64.wrap (Go.bits .and .u64 ((IntKind.u64.wrap z).fdiv (2 ^ min (Int.toNat 40) IntKind.u64.bits)) 255) ∧ IntKind.i64.wrap (Go.bits .and .u64 ((IntKind.u64.wrap z).fdiv (2 ^ min (Int.toNat 40) IntKind.u64.bits)) 255) < 256 := by
  have h := u64_in z
  have e : (2 : Int) ^ min (Int.toNat 40) IntKind.u64.bits = 1099511627776 := by decide
  rw [e, Int.fdiv_eq_ediv_of_nonneg _ (by decide)]
  have h2 := and255 (IntKind.u64.wrap z / 1099511627776) (by omega) (by omega)
  rw [IntWalk.i64_in _ (by omega)]
  exact h2

noncomputable def w_next0 : Wq Try.prog 110 := mkQ Try.prog mix [] 110 Try.f110 (bodyOf Try.f110) Try.func110 (by kernel_rfl) (by kernel_rfl) [0, 2, 3, 13, 53, 198, 999] 62 (by kernel_rfl) (by kernel_rfl) []
noncomputable def k_next0 : Ctr Try.prog := Ctr.onlyQ w_next0
def run_next : List AV → Option (Nat × List Col) → Blk → T (AV × Blk)
  | [.one (.ptr 2 3 0 0)], some (n, [.num .u8 f]), .box [.su 1 1 0 k false, .num .i64 a, .num .u64 sd] => .need (decide (k = n)) (.need (bytesOK n f) (.need (decide (0 ≤ a ∧ a ≤ 1000)) ((.all fun y => .all fun t => .leaf (.one (.num .i64 ((y % 256 : Nat) : Int)), .box [.su 1 1 0 n false, .num .i64 (a + 1), .num .u64 ((t : Nat) : Int)])))))
  | [.one (.ptr 2 3 0 0)], none, .box [.val (.slice none 0 0), .num .i64 a, .num .u64 sd] => .need (decide (0 ≤ a ∧ a ≤ 1000)) ((.all fun y => .all fun t => .leaf (.one (.num .i64 ((y % 256 : Nat) : Int)), .box [.val (.slice none 0 0), .num .i64 (a + 1), .num .u64 ((t : Nat) : Int)])))
  | _, _, _ => .fail
theorem next_ev (n : Nat) (f : Nat → Int) (a sd : Int) : w_next0.run [.one (.ptr 2 3 0 0)] (some (n, [.num .u8 f])) (.box [.su 1 1 0 n false, .num .i64 a, .num .u64 sd]) =
    .need (bif decide (a < (n : Int)) then decide (0 ≤ a) && decide (a < (n : Int)) else true) (.need (bif decide (a < (n : Int)) then decide (a.toNat + 0 < n) else true) (.ite (decide (IntKind.i64.wrap (a + 1) ≤ (n : Int))) (.leaf (.one (.num .i64 (bif decide (a < (n : Int)) then IntKind.i64.wrap (f (a.toNat + 0)) else 0)), .box [.su 1 1 0 n false, .num .i64 (IntKind.i64.wrap (a + 1)), .num .u64 (IntKind.u64.wrap (IntKind.u64.wrap (IntKind.u64.wrap (sd * 6364136223846793005) + IntKind.u64.wrap (bif decide (a < (n : Int)) then IntKind.i64.wrap (f (a.toNat + 0)) else 0)) + 1442695040888963407))])) (.need true (.leaf (.one (.num .i64 (IntKind.i64.wrap (Go.bits .and .u64 ((IntKind.u64.wrap (IntKind.u64.wrap (IntKind.u64.wrap (sd * 6364136223846793005) + IntKind.u64.wrap (bif decide (a < (n : Int)) then IntKind.i64.wrap (f (a.toNat + 0)) else 0)) + 1442695040888963407)).fdiv (2 ^ min (Int.toNat 40) IntKind.u64.bits)) 255))), .box [.su 1 1 0 n false, .num .i64 (IntKind.i64.wrap (a + 1)), .num .u64 (IntKind.u64.wrap (IntKind.u64.wrap (IntKind.u64.wrap (sd * 6364136223846793005) + IntKind.u64.wrap (bif decide (a < (n : Int)) then IntKind.i64.wrap (f (a.toNat + 0)) else 0)) + 1442695040888963407))]))))) := by kernel_rfl
theorem next_evN (a sd : Int) : w_next0.run [.one (.ptr 2 3 0 0)] none (.box [.val (.slice none 0 0), .num .i64 a, .num .u64 sd]) =
    .ite (decide (a < ((0 : Nat) : Int))) .fail (.ite (decide (IntKind.i64.wrap (a + 1) ≤ ((0 : Nat) : Int))) (.leaf (.one (.int .i64 0), .box [.val (.slice none 0 0), .num .i64 (IntKind.i64.wrap (a + 1)), .num .u64 (IntKind.u64.wrap (IntKind.u64.wrap (IntKind.u64.wrap (sd * 6364136223846793005) + IntKind.u64.wrap (0)) + 1442695040888963407))])) (.need true (.leaf (.one (.num .i64 (IntKind.i64.wrap (Go.bits .and .u64 ((IntKind.u64.wrap (IntKind.u64.wrap (IntKind.u64.wrap (sd * 6364136223846793005) + IntKind.u64.wrap (0)) + 1442695040888963407)).fdiv (2 ^ min (Int.toNat 40) IntKind.u64.bits)) 255))), .box [.val (.slice none 0 0), .num .i64 (IntKind.i64.wrap (a + 1)), .num .u64 (IntKind.u64.wrap (IntKind.u64.wrap (IntKind.u64.wrap (sd * 6364136223846793005) + IntKind.u64.wrap (0)) + 1442695040888963407))])))) := by kernel_rfl
theorem needT' {c x : Bool} (h : c = true → x = true) : (bif c then x else true) = true := by cases c with | true => exact h rfl | false => rfl
theorem all_next {Φ : AV × Blk → Prop} {cell : SV} {a : Int} (h : ∀ y t : Nat, Φ (.one (.num .i64 ((y % 256 : Nat) : Int)), .box [cell, .num .i64 (a + 1), .num .u64 ((t : Nat) : Int)])) (ha : 0 ≤ a ∧ a ≤ 1000) (x z : Int) (h0 : 0 ≤ x) (h1 : x < 256) : Φ (.one (.num .i64 x), .box [cell, .num .i64 (IntKind.i64.wrap (a + 1)), .num .u64 (IntKind.u64.wrap z)]) := by
  have := h x.toNat (IntKind.u64.wrap z).toNat
  have e1 : ((x.toNat % 256 : Nat) : Int) = x := by omega
  have e2 : (((IntKind.u64.wrap z).toNat : Nat) : Int) = IntKind.u64.wrap z := by have := u64_in z; omega
  rw [e1, e2] at this
  rw [IntWalk.i64_in (a + 1) (by omega)]
  exact this
noncomputable def w_next1 : Wq Try.prog 110 := w_next0.re run_next (by
  intro args E C Φ hΦ h
  unfold run_next at h
  split at h
  · rename_i n f k a sd
    have hk : k = n := of_decide_eq_true h.1
    subst hk
    have hb : ∀ i, i < k → 0 ≤ f i ∧ f i < 256 := of_decide_eq_true h.2.1
    have ha : 0 ≤ a ∧ a ≤ 1000 := of_decide_eq_true h.2.2.1
    have hl := h.2.2.2
    rw [next_ev]
    refine T.h_need (needT' fun hc => by have := of_decide_eq_true hc; simp; omega) (T.h_need (needT' fun hc => by have := of_decide_eq_true hc; simp; omega) (T.h_ite (fun hc => T.h_leaf ?_) (fun hc => T.h_need rfl (T.h_leaf ?_))))
    · have hlt : a < (k : Int) := by
        have := of_decide_eq_true hc
        rw [IntWalk.i64_in (a + 1) (by omega)] at this
        omega
      have hf := hb (a.toNat + 0) (by omega)
      refine all_next (Φ := Φ) hl ha _ _ ?_ ?_
      · rw [decide_eq_true hlt, cond_true, IntWalk.i64_in _ (by omega)]; exact hf.1
      · rw [decide_eq_true hlt, cond_true, IntWalk.i64_in _ (by omega)]; exact hf.2
    · exact all_next (Φ := Φ) hl ha _ _ (seed255 _).1 (seed255 _).2
  · rename_i a sd
    have ha : 0 ≤ a ∧ a ≤ 1000 := of_decide_eq_true h.1
    have hl := h.2
    rw [next_evN]
    refine T.h_ite (fun hc => absurd (of_decide_eq_true hc) (by omega)) (fun _ => T.h_ite (fun hc => absurd (of_decide_eq_true hc) (by rw [IntWalk.i64_in (a + 1) (by omega)]; omega)) (fun _ => T.h_need rfl (T.h_leaf ?_)))
    exact all_next (Φ := Φ) hl ha _ _ (seed255 _).1 (seed255 _).2
  · exact h.elim)
noncomputable def k_next : Ctr Try.prog := Ctr.onlyQ w_next1.nums
noncomputable def w_pick0 : Wq Try.prog 93 := mkQ Try.prog mix [k_next] 93 Try.f93 (bodyOf Try.f93) Try.func93 (by kernel_rfl) (by kernel_rfl) [0, 1, 4, 5, 7, 11, 198, 999] 20 (by kernel_rfl) (by kernel_rfl) []
noncomputable def k_pick0 : Ctr Try.prog := Ctr.onlyQ w_pick0
def run_pick : List AV → Option (Nat × List Col) → Blk → T (AV × Blk)
  | [.one (.ptr 2 3 0 0), .one (.int .i64 8)], some (n, [.num .u8 f]), .box [.su 1 1 0 k false, .num .i64 a, .num .u64 sd] => .need (decide (k = n)) (.need (bytesOK n f) (.need (decide (0 ≤ a ∧ a ≤ 1000)) (.all fun y => .all fun t => .leaf (.one (.num .i64 ((y % 8 : Nat) : Int)), .box [.su 1 1 0 n false, .num .i64 (a + 1), .num .u64 ((t : Nat) : Int)]))))
  | [.one (.ptr 2 3 0 0), .one (.int .i64 8)], none, .box [.val (.slice none 0 0), .num .i64 a, .num .u64 sd] => .need (decide (0 ≤ a ∧ a ≤ 1000)) (.all fun y => .all fun t => .leaf (.one (.num .i64 ((y % 8 : Nat) : Int)), .box [.val (.slice none 0 0), .num .i64 (a + 1), .num .u64 ((t : Nat) : Int)]))
  | [.one (.ptr 2 3 0 0), .one (.int .i64 17)], some (n, [.num .u8 f]), .box [.su 1 1 0 k false, .num .i64 a, .num .u64 sd] => .need (decide (k = n)) (.need (bytesOK n f) (.need (decide (0 ≤ a ∧ a ≤ 1000)) (.all fun y => .all fun t => .leaf (.one (.num .i64 ((y % 17 : Nat) : Int)), .box [.su 1 1 0 n false, .num .i64 (a + 1), .num .u64 ((t : Nat) : Int)]))))
  | [.one (.ptr 2 3 0 0), .one (.int .i64 17)], none, .box [.val (.slice none 0 0), .num .i64 a, .num .u64 sd] => .need (decide (0 ≤ a ∧ a ≤ 1000)) (.all fun y => .all fun t => .leaf (.one (.num .i64 ((y % 17 : Nat) : Int)), .box [.val (.slice none 0 0), .num .i64 (a + 1), .num .u64 ((t : Nat) : Int)]))
  | _, _, _ => .fail
theorem pick_ev8 (n : Nat) (f : Nat → Int) (a sd : Int) : w_pick0.run [.one (.ptr 2 3 0 0), .one (.int .i64 8)] (some (n, [.num .u8 f])) (.box [.su 1 1 0 n false, .num .i64 a, .num .u64 sd]) = .need (decide (n = n)) (.need (bytesOK n f) (.need (decide (0 ≤ a ∧ a ≤ 1000)) (.all fun y => .all fun t => .need true (.leaf (.one (.num .i64 (((y % 256 : Nat) : Int).tmod 8)), .box [.su 1 1 0 n false, .num .i64 (a + 1), .num .u64 ((t : Nat) : Int)]))))) := by kernel_rfl
theorem pick_evN8 (a sd : Int) : w_pick0.run [.one (.ptr 2 3 0 0), .one (.int .i64 8)] none (.box [.val (.slice none 0 0), .num .i64 a, .num .u64 sd]) = .need (decide (0 ≤ a ∧ a ≤ 1000)) (.all fun y => .all fun t => .need true (.leaf (.one (.num .i64 (((y % 256 : Nat) : Int).tmod 8)), .box [.val (.slice none 0 0), .num .i64 (a + 1), .num .u64 ((t : Nat) : Int)]))) := by kernel_rfl
theorem pick_ev17 (n : Nat) (f : Nat → Int) (a sd : Int) : w_pick0.run [.one (.ptr 2 3 0 0), .one (.int .i64 17)] (some (n, [.num .u8 f])) (.box [.su 1 1 0 n false, .num .i64 a, .num .u64 sd]) = .need (decide (n = n)) (.need (bytesOK n f) (.need (decide (0 ≤ a ∧ a ≤ 1000)) (.all fun y => .all fun t => .need true (.leaf (.one (.num .i64 (((y % 256 : Nat) : Int).tmod 17)), .box [.su 1 1 0 n false, .num .i64 (a + 1), .num .u64 ((t : Nat) : Int)]))))) := by kernel_rfl
theorem pick_evN17 (a sd : Int) : w_pick0.run [.one (.ptr 2 3 0 0), .one (.int .i64 17)] none (.box [.val (.slice none 0 0), .num .i64 a, .num .u64 sd]) = .need (decide (0 ≤ a ∧ a ≤ 1000)) (.all fun y => .all fun t => .need true (.leaf (.one (.num .i64 (((y % 256 : Nat) : Int).tmod 17)), .box [.val (.slice none 0 0), .num .i64 (a + 1), .num .u64 ((t : Nat) : Int)]))) := by kernel_rfl
theorem tmod_nat (y m : Nat) : ((y : Nat) : Int).tmod (m : Int) = ((y % m : Nat) : Int) := by
  rw [Int.tmod_eq_emod_of_nonneg (Int.natCast_nonneg y)]; simp
noncomputable def w_pick1 : Wq Try.prog 93 := w_pick0.re run_pick (by
  intro args E C Φ hΦ h
  unfold run_pick at h
  split at h
  · rename_i n f k a sd
    have hk : k = n := of_decide_eq_true h.1
    subst hk
    rw [pick_ev8]
    refine T.h_need (decide_eq_true rfl) (T.h_need h.2.1 (T.h_need h.2.2.1 (fun y t => T.h_need rfl (T.h_leaf ?_))))
    have h2 : Φ (.one (.num .i64 (((y % 256) % 8 : Nat) : Int)), .box [.su 1 1 0 k false, .num .i64 (a + 1), .num .u64 ((t : Nat) : Int)]) := h.2.2.2 (y % 256) t
    rw [← tmod_nat] at h2
    exact h2
  · rename_i a sd
    rw [pick_evN8]
    refine T.h_need h.1 (fun y t => T.h_need rfl (T.h_leaf ?_))
    have h2 : Φ (.one (.num .i64 (((y % 256) % 8 : Nat) : Int)), .box [.val (.slice none 0 0), .num .i64 (a + 1), .num .u64 ((t : Nat) : Int)]) := h.2 (y % 256) t
    rw [← tmod_nat] at h2
    exact h2
  · rename_i n f k a sd
    have hk : k = n := of_decide_eq_true h.1
    subst hk
    rw [pick_ev17]
    refine T.h_need (decide_eq_true rfl) (T.h_need h.2.1 (T.h_need h.2.2.1 (fun y t => T.h_need rfl (T.h_leaf ?_))))
    have h2 : Φ (.one (.num .i64 (((y % 256) % 17 : Nat) : Int)), .box [.su 1 1 0 k false, .num .i64 (a + 1), .num .u64 ((t : Nat) : Int)]) := h.2.2.2 (y % 256) t
    rw [← tmod_nat] at h2
    exact h2
  · rename_i a sd
    rw [pick_evN17]
    refine T.h_need h.1 (fun y t => T.h_need rfl (T.h_leaf ?_))
    have h2 : Φ (.one (.num .i64 (((y % 256) % 17 : Nat) : Int)), .box [.val (.slice none 0 0), .num .i64 (a + 1), .num .u64 ((t : Nat) : Int)]) := h.2 (y % 256) t
    rw [← tmod_nat] at h2
    exact h2
  · exact h.elim)
noncomputable def k_pick : Ctr Try.prog := Ctr.onlyQ w_pick1.nums
noncomputable def w_draw0 : Wq Try.prog 61 := mkQ Try.prog mix [k_pick] 61 Try.f61 (bodyOf Try.f61) Try.func61 (by kernel_rfl) (by kernel_rfl) [0, 2, 3, 198, 999] 29 (by kernel_rfl) (by kernel_rfl) []
noncomputable def k_draw0 : Ctr Try.prog := Ctr.onlyQ w_draw0
def dMa (y : Nat) : Nat := fdiv .f32 (fint .f32 (IntKind.i64.wrap (1 + ((y % 8 : Nat) : Int)))) 1073741824
def dRa (y : Nat) : Nat := fdiv .f32 (fint .f32 (IntKind.i64.wrap (1 + ((y % 8 : Nat) : Int)))) 1090519040
def dSp (y : Nat) : Nat := fdiv .f32 (fint .f32 (IntKind.i64.wrap (((y % 17 : Nat) : Int) - 8))) 1115684864
def dSt (y : Nat) : Nat := fdiv .f32 (fint .f32 (IntKind.i64.wrap (((y % 17 : Nat) : Int) - 8))) 1098907648
def run_draw : List AV → Option (Nat × List Col) → Blk → T (AV × Blk)
  | [.one (.ptr 2 3 0 0)], some (n, [.num .u8 f]), .box [.su 1 1 0 k false, .num .i64 a, .num .u64 sd] => .need (decide (k = n)) (.need (bytesOK n f) (.need (decide (0 ≤ a ∧ a ≤ 900)) (.all fun y1 => .all fun y2 => .all fun y3 => .all fun y4 => .all fun t => .leaf (.agg [.fl .f32 (dMa y1), .fl .f32 (dRa y2), .fl .f32 (dSp y3), .fl .f32 (dSt y4)], .box [.su 1 1 0 n false, .num .i64 (a + 1 + 1 + 1 + 1), .num .u64 ((t : Nat) : Int)]))))
  | [.one (.ptr 2 3 0 0)], none, .box [.val (.slice none 0 0), .num .i64 a, .num .u64 sd] => .need (decide (0 ≤ a ∧ a ≤ 900)) (.all fun y1 => .all fun y2 => .all fun y3 => .all fun y4 => .all fun t => .leaf (.agg [.fl .f32 (dMa y1), .fl .f32 (dRa y2), .fl .f32 (dSp y3), .fl .f32 (dSt y4)], .box [.val (.slice none 0 0), .num .i64 (a + 1 + 1 + 1 + 1), .num .u64 ((t : Nat) : Int)]))
  | _, _, _ => .fail
theorem draw_ev (n : Nat) (f : Nat → Int) (a sd : Int) : w_draw0.run [.one (.ptr 2 3 0 0)] (some (n, [.num .u8 f])) (.box [.su 1 1 0 n false, .num .i64 a, .num .u64 sd]) = .need (decide (n = n)) (.need (bytesOK n f) (.need (decide (0 ≤ a ∧ a ≤ 1000)) (.all fun y1 => .all fun t1 => .need (decide (n = n)) (.need (bytesOK n f) (.need (decide (0 ≤ a + 1 ∧ a + 1 ≤ 1000)) (.all fun y2 => .all fun t2 => .need (decide (n = n)) (.need (bytesOK n f) (.need (decide (0 ≤ a + 1 + 1 ∧ a + 1 + 1 ≤ 1000)) (.all fun y3 => .all fun t3 => .need (decide (n = n)) (.need (bytesOK n f) (.need (decide (0 ≤ a + 1 + 1 + 1 ∧ a + 1 + 1 + 1 ≤ 1000)) (.all fun y4 => .all fun t4 => .leaf (.agg [.fl .f32 (dMa y1), .fl .f32 (dRa y2), .fl .f32 (dSp y3), .fl .f32 (dSt y4)], .box [.su 1 1 0 n false, .num .i64 (a + 1 + 1 + 1 + 1), .num .u64 ((t4 : Nat) : Int)]))))))))))))) := by kernel_rfl
theorem draw_evN (a sd : Int) : w_draw0.run [.one (.ptr 2 3 0 0)] none (.box [.val (.slice none 0 0), .num .i64 a, .num .u64 sd]) = .need (decide (0 ≤ a ∧ a ≤ 1000)) (.all fun y1 => .all fun t1 => .need (decide (0 ≤ a + 1 ∧ a + 1 ≤ 1000)) (.all fun y2 => .all fun t2 => .need (decide (0 ≤ a + 1 + 1 ∧ a + 1 + 1 ≤ 1000)) (.all fun y3 => .all fun t3 => .need (decide (0 ≤ a + 1 + 1 + 1 ∧ a + 1 + 1 + 1 ≤ 1000)) (.all fun y4 => .all fun t4 => .leaf (.agg [.fl .f32 (dMa y1), .fl .f32 (dRa y2), .fl .f32 (dSp y3), .fl .f32 (dSt y4)], .box [.val (.slice none 0 0), .num .i64 (a + 1 + 1 + 1 + 1), .num .u64 ((t4 : Nat) : Int)]))))) := by kernel_rfl
set_option maxRecDepth 20000 in
noncomputable def w_draw1 : Wq Try.prog 61 := w_draw0.re run_draw (by
  intro args E C Φ hΦ h
  unfold run_draw at h
  split at h
  · rename_i n f k a sd
    have hk : k = n := of_decide_eq_true h.1
    subst hk
    have hb := h.2.1
    have ha : 0 ≤ a ∧ a ≤ 900 := of_decide_eq_true h.2.2.1
    have hl := h.2.2.2
    rw [draw_ev]
    exact T.h_need (decide_eq_true rfl) (T.h_need hb (T.h_need (decide_eq_true (by omega)) (fun y1 _ => T.h_need (decide_eq_true rfl) (T.h_need hb (T.h_need (decide_eq_true (by omega)) (fun y2 _ => T.h_need (decide_eq_true rfl) (T.h_need hb (T.h_need (decide_eq_true (by omega)) (fun y3 _ => T.h_need (decide_eq_true rfl) (T.h_need hb (T.h_need (decide_eq_true (by omega)) (fun y4 t => T.h_leaf (hl y1 y2 y3 y4 t)))))))))))))
  · rename_i a sd
    have ha : 0 ≤ a ∧ a ≤ 900 := of_decide_eq_true h.1
    have hl := h.2
    rw [draw_evN]
    exact T.h_need (decide_eq_true (by omega)) (fun y1 _ => T.h_need (decide_eq_true (by omega)) (fun y2 _ => T.h_need (decide_eq_true (by omega)) (fun y3 _ => T.h_need (decide_eq_true (by omega)) (fun y4 t => T.h_leaf (hl y1 y2 y3 y4 t)))))
  · exact h.elim)
noncomputable def k_draw : Ctr Try.prog := Ctr.onlyQ w_draw1.nums
noncomputable def k_from0 : Ctr Try.prog := mkF0 Try.prog mix [] 60 Try.f60 (bodyOf Try.f60) Try.func60 (by kernel_rfl) (by kernel_rfl) [0, 2, 198] 6 (by kernel_rfl) (by kernel_rfl) []
noncomputable def k_R80 : Ctr Try.prog := mkF0 Try.prog mix [k_from0, k_draw] 32 Try.f32 (bodyOf Try.f32) Try.func32 (by kernel_rfl) (by kernel_rfl) [0, 2, 3, 198] 8 (by kernel_rfl) (by kernel_rfl) []
noncomputable def k_at0 : Ctr Try.prog := mkF0 Try.prog mix [] 33 Try.f33 (bodyOf Try.f33) Try.func33 (by kernel_rfl) (by kernel_rfl) [0, 1, 2, 6, 14, 198] 22 (by kernel_rfl) (by kernel_rfl) []
noncomputable def k_long0 : Ctr Try.prog := mkF0 Try.prog mix [] 31 Try.f31 (bodyOf Try.f31) Try.func31 (by kernel_rfl) (by kernel_rfl) [0, 1, 4, 198] 13 (by kernel_rfl) (by kernel_rfl) []
noncomputable def k_gap : Ctr Try.prog := mkF0 Try.prog mix [] 36 Try.f36 (bodyOf Try.f36) Try.func36 (by kernel_rfl) (by kernel_rfl) [0, 1, 4, 198] 12 (by kernel_rfl) (by kernel_rfl) []

end Go.Proofs.Ytdmcpgbnomhahaa
