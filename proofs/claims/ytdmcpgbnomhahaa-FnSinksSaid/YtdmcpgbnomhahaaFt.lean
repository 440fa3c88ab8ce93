/-
  Floats as numbers: the size of a word grows with its rung; comparisons; what is finite; what is the same. No conditions.
-/
import Derived.Test.YtdmcpgbnomhahaaCt
namespace Go.Proofs.Ytdmcpgbnomhahaa
set_option linter.unusedVariables false
set_option linter.unusedSimpArgs false

/-- The size of a rung, in units of the least place. -/
def V (f : Ieee.Format) (r : Nat) : Nat := if r < f.binade then r else (f.binade + r % f.binade) * 2 ^ (r / f.binade - 1)

theorem binade_pos (f : Ieee.Format) : 0 < f.binade := Nat.two_pow_pos _

theorem V_succ (f : Ieee.Format) (r : Nat) : V f r < V f (r + 1) := by
  have hB := binade_pos f
  unfold V
  generalize f.binade = B at *
  by_cases h1 : r + 1 < B
  · rw [if_pos (by omega), if_pos h1]; omega
  · by_cases h2 : r < B
    · have : r + 1 = B := by omega
      rw [if_pos h2, if_neg h1, this, Nat.mod_self, Nat.div_self hB]
      simp; omega
    · rw [if_neg h2, if_neg h1]
      have hq : r / B ≥ 1 := (Nat.one_le_div_iff hB).2 (by omega)
      have hm : r % B < B := Nat.mod_lt _ hB
      have hr : r = B * (r / B) + r % B := (Nat.div_add_mod r B).symm
      by_cases h3 : r % B + 1 < B
      · have e1 : (r + 1) / B = r / B := by
          rw [Nat.div_eq_iff hB]
          constructor
          · have := Nat.div_mul_le_self r B; omega
          · rw [Nat.mul_comm] at hr; omega
        have e2 : (r + 1) % B = r % B + 1 := by
          rw [Nat.add_mod, Nat.mod_eq_of_lt (show 1 < B by omega), Nat.mod_eq_of_lt h3]
        rw [e1, e2]
        exact Nat.mul_lt_mul_of_pos_right (by omega) (Nat.two_pow_pos _)
      · have h4 : r % B + 1 = B := by omega
        have e0 : r + 1 = B * (r / B + 1) := by rw [Nat.mul_add, Nat.mul_one]; omega
        have e1 : (r + 1) / B = r / B + 1 := by rw [e0, Nat.mul_div_cancel_left _ hB]
        have e2 : (r + 1) % B = 0 := by rw [e0, Nat.mul_mod_right]
        rw [e1, e2, Nat.add_zero, show r / B + 1 - 1 = (r / B - 1) + 1 by omega, Nat.pow_succ]
        have hp : 0 < 2 ^ (r / B - 1) := Nat.two_pow_pos _
        have : (B + r % B) * 2 ^ (r / B - 1) < (B + B) * 2 ^ (r / B - 1) := Nat.mul_lt_mul_of_pos_right (by omega) hp
        have e3 : B * (2 ^ (r / B - 1) * 2) = (B + B) * 2 ^ (r / B - 1) := by
          rw [Nat.mul_comm (2 ^ (r / B - 1)) 2, ← Nat.mul_assoc, Nat.mul_two]
        rw [e3]; exact this

theorem V_mono (f : Ieee.Format) {r s : Nat} (h : r < s) : V f r < V f s := by
  induction s with
  | zero => omega
  | succ s ih =>
    by_cases hs : r < s
    · exact Nat.lt_trans (ih hs) (V_succ f s)
    · have : r = s := by omega
      subst this; exact V_succ f r

theorem V_le (f : Ieee.Format) {r s : Nat} (h : r ≤ s) : V f r ≤ V f s := by
  rcases Nat.lt_or_eq_of_le h with h | h
  · exact Nat.le_of_lt (V_mono f h)
  · rw [h]; exact Nat.le_refl _

theorem V_inj (f : Ieee.Format) {r s : Nat} (h : V f r = V f s) : r = s := by
  rcases Nat.lt_trichotomy r s with h1 | h1 | h1
  · have := V_mono f h1; omega
  · exact h1
  · have := V_mono f h1; omega

theorem V_zero (f : Ieee.Format) : V f 0 = 0 := by
  unfold V
  rw [if_pos (binade_pos f)]

def rung (f : Ieee.Format) (x : Nat) : Nat := x % f.signWeight
def sgn (f : Ieee.Format) (x : Nat) : Bool := x / f.signWeight % 2 == 1

/-- A word as a number (an infinity as the number behind the greatest one). -/
def sgv (f : Ieee.Format) (x : Nat) : Int := if sgn f x then -(V f (rung f x) : Int) else V f (rung f x)

theorem read_fin (f : Ieee.Format) {x : Nat} (h : rung f x < f.infRung) : ∃ m e, f.read x = .number (sgn f x) m e ∧ f.leastPlace ≤ e ∧ m * 2 ^ (e - f.leastPlace).toNat = V f (rung f x) := by
  unfold Ieee.Format.read V
  show ∃ m e, (if rung f x < f.binade then Ieee.Datum.number (sgn f x) (rung f x) f.leastPlace else if rung f x < f.infRung then .number (sgn f x) (f.binade + rung f x % f.binade) (f.leastPlace + (rung f x / f.binade - 1 : Nat)) else if rung f x = f.infRung then .infinity (sgn f x) else .nan (sgn f x) (rung f x - f.infRung)) = _ ∧ _
  by_cases h1 : rung f x < f.binade
  · rw [if_pos h1, if_pos h1]
    exact ⟨_, _, rfl, Int.le_refl _, by simp⟩
  · rw [if_neg h1, if_pos h, if_neg h1]
    refine ⟨_, _, rfl, by omega, ?_⟩
    rw [show (f.leastPlace + ((rung f x / f.binade - 1 : Nat) : Int) - f.leastPlace).toNat = rung f x / f.binade - 1 by omega]

theorem binade_le_inf (k : FloatKind) : k.format.binade ≤ k.format.infRung := by cases k <;> decide
theorem inf_lt_sw (k : FloatKind) : k.format.infRung < k.format.signWeight := by cases k <;> decide
theorem sw_pos (k : FloatKind) : 0 < k.format.signWeight := by cases k <;> decide
theorem width_sw (k : FloatKind) : 2 ^ k.format.width = 2 * k.format.signWeight := by cases k <;> decide

theorem read_inf (k : FloatKind) {x : Nat} (h : rung k.format x = k.format.infRung) : k.format.read x = .infinity (sgn k.format x) := by
  have hb := binade_le_inf k
  unfold Ieee.Format.read
  show (if rung k.format x < k.format.binade then Ieee.Datum.number (sgn k.format x) (rung k.format x) k.format.leastPlace else if rung k.format x < k.format.infRung then .number (sgn k.format x) (k.format.binade + rung k.format x % k.format.binade) (k.format.leastPlace + (rung k.format x / k.format.binade - 1 : Nat)) else if rung k.format x = k.format.infRung then .infinity (sgn k.format x) else .nan (sgn k.format x) (rung k.format x - k.format.infRung)) = _
  rw [h, if_neg (by omega), if_neg (Nat.lt_irrefl _), if_pos rfl]

theorem read_nan (k : FloatKind) {x : Nat} (h : k.format.infRung < rung k.format x) : k.format.read x = .nan (sgn k.format x) (rung k.format x - k.format.infRung) := by
  have hb := binade_le_inf k
  unfold Ieee.Format.read
  show (if rung k.format x < k.format.binade then Ieee.Datum.number (sgn k.format x) (rung k.format x) k.format.leastPlace else if rung k.format x < k.format.infRung then .number (sgn k.format x) (k.format.binade + rung k.format x % k.format.binade) (k.format.leastPlace + (rung k.format x / k.format.binade - 1 : Nat)) else if rung k.format x = k.format.infRung then .infinity (sgn k.format x) else .nan (sgn k.format x) (rung k.format x - k.format.infRung)) = _
  rw [if_neg (by omega), if_neg (by omega), if_neg (by omega)]

theorem isNan_iff (k : FloatKind) (x : Nat) : isNan k x = decide (k.format.infRung < rung k.format x) := by
  unfold isNan FloatKind.decode
  rcases Nat.lt_trichotomy (rung k.format x) k.format.infRung with h | h | h
  · obtain ⟨m, e, h1, _⟩ := read_fin k.format h
    rw [h1, decide_eq_false (by omega)]; rfl
  · rw [read_inf k h, decide_eq_false (by omega)]; rfl
  · rw [read_nan k h, decide_eq_true h]; rfl

theorem fin_iff (k : FloatKind) (x : Nat) : fin k x = true ↔ rung k.format x < k.format.infRung := by
  unfold fin rung; exact decide_eq_true_iff

/-! ### Comparisons -/

theorem signed_eq (neg : Bool) (m u : Nat) : Ieee.signed neg m u = (if neg then -1 else 1) * ((m * 2 ^ u : Nat) : Int) := by
  unfold Ieee.signed
  rw [Nat.shiftLeft_eq]
  cases neg <;> simp

theorem compare_mul (a b : Int) (c : Nat) (hc : 0 < c) : compare (a * c) (b * c) = compare a b := by
  have hc' : (0 : Int) < c := by omega
  rcases Int.lt_trichotomy a b with h | h | h
  · rw [Int.compare_eq_lt.2 h, Int.compare_eq_lt.2 (Int.mul_lt_mul_of_pos_right h hc')]
  · rw [h, Int.compare_eq_eq.2 rfl, Int.compare_eq_eq.2 rfl]
  · rw [Int.compare_eq_gt.2 h, Int.compare_eq_gt.2 (Int.mul_lt_mul_of_pos_right h hc')]

theorem order_num (p : Int) (s t : Bool) (m n : Nat) (i j : Int) (hi : p ≤ i) (hj : p ≤ j) :
    (Ieee.Datum.number s m i).order (.number t n j) = some (compare ((if s then -1 else 1) * ((m * 2 ^ (i - p).toNat : Nat) : Int)) ((if t then -1 else 1) * ((n * 2 ^ (j - p).toNat : Nat) : Int))) := by
  show some (compare (Ieee.signed s m (i - min i j).toNat) (Ieee.signed t n (j - min i j).toNat)) = _
  rw [signed_eq, signed_eq, ← compare_mul _ _ (2 ^ (min i j - p).toNat) (Nat.two_pow_pos _)]
  congr 2
  · rw [Int.mul_assoc, ← Int.natCast_mul, Nat.mul_assoc, ← Nat.pow_add, show (i - min i j).toNat + (min i j - p).toNat = (i - p).toNat by omega]
  · rw [Int.mul_assoc, ← Int.natCast_mul, Nat.mul_assoc, ← Nat.pow_add, show (j - min i j).toNat + (min i j - p).toNat = (j - p).toNat by omega]

theorem sgv_eq (f : Ieee.Format) (x : Nat) : sgv f x = (if sgn f x then -1 else 1) * (V f (rung f x) : Int) := by
  unfold sgv; split <;> simp

/-- A comparison of two words that are no NaN is that of the numbers. -/
theorem order_sgv (k : FloatKind) {x y : Nat} (hx : isNan k x = false) (hy : isNan k y = false) : k.format.order x y = some (compare (sgv k.format x) (sgv k.format y)) := by
  have hx' : rung k.format x ≤ k.format.infRung := by rw [isNan_iff] at hx; simpa using hx
  have hy' : rung k.format y ≤ k.format.infRung := by rw [isNan_iff] at hy; simpa using hy
  have hpos : 0 < V k.format k.format.infRung := by
    have := V_mono k.format (show 0 < k.format.infRung by cases k <;> decide)
    omega
  unfold Ieee.Format.order
  rcases Nat.lt_or_eq_of_le hx' with h1 | h1
  · obtain ⟨m, e, a1, a2, a3⟩ := read_fin k.format h1
    rcases Nat.lt_or_eq_of_le hy' with h2 | h2
    · obtain ⟨n, e', b1, b2, b3⟩ := read_fin k.format h2
      rw [a1, b1, order_num k.format.leastPlace _ _ _ _ _ _ a2 b2, a3, b3, sgv_eq, sgv_eq]
    · rw [a1, read_inf k h2]
      have hlt := V_mono k.format h1
      show some (if sgn k.format y then Ordering.gt else Ordering.lt) = _
      unfold sgv
      rw [h2]
      cases sgn k.format y <;> cases sgn k.format x <;> simp only [Bool.false_eq_true, ↓reduceIte, Option.some.injEq] <;> symm
      · exact Int.compare_eq_lt.2 (by omega)
      · exact Int.compare_eq_lt.2 (by omega)
      · exact Int.compare_eq_gt.2 (by omega)
      · exact Int.compare_eq_gt.2 (by omega)
  · rcases Nat.lt_or_eq_of_le hy' with h2 | h2
    · obtain ⟨n, e', b1, b2, b3⟩ := read_fin k.format h2
      rw [read_inf k h1, b1]
      have hlt := V_mono k.format h2
      show some (if sgn k.format x then Ordering.lt else Ordering.gt) = _
      unfold sgv
      rw [h1]
      cases sgn k.format y <;> cases sgn k.format x <;> simp only [Bool.false_eq_true, ↓reduceIte, Option.some.injEq] <;> symm
      · exact Int.compare_eq_gt.2 (by omega)
      · exact Int.compare_eq_lt.2 (by omega)
      · exact Int.compare_eq_gt.2 (by omega)
      · exact Int.compare_eq_lt.2 (by omega)
    · rw [read_inf k h1, read_inf k h2]
      show some (compare (sgn k.format y).toNat (sgn k.format x).toNat) = _
      unfold sgv
      rw [h1, h2]
      cases sgn k.format y <;> cases sgn k.format x <;> simp only [Bool.false_eq_true, ↓reduceIte, Option.some.injEq] <;> symm
      · exact Int.compare_eq_eq.2 rfl
      · exact Int.compare_eq_lt.2 (by omega)
      · exact Int.compare_eq_gt.2 (by omega)
      · exact Int.compare_eq_eq.2 rfl

theorem order_none (k : FloatKind) {x y : Nat} (h : isNan k x = true ∨ isNan k y = true) : k.format.order x y = none := by
  unfold Ieee.Format.order
  rcases h with h | h
  · exact order_nan_l _ h
  · exact order_nan_r _ h

theorem ord_dec (a b : Int) : ((some (compare a b) == some Ordering.lt) = decide (a < b)) ∧ ((some (compare a b) == some Ordering.eq) = decide (a = b)) ∧ ((some (compare a b) == some Ordering.gt) = decide (b < a)) := by
  rcases Int.lt_trichotomy a b with h | h | h
  · rw [Int.compare_eq_lt.2 h]; simp only [decide_eq_true h]; refine ⟨rfl, ?_, ?_⟩
    · rw [decide_eq_false (by omega)]; rfl
    · rw [decide_eq_false (by omega)]; rfl
  · rw [Int.compare_eq_eq.2 h]; simp only [decide_eq_true h]; refine ⟨?_, rfl, ?_⟩
    · rw [decide_eq_false (by omega)]; rfl
    · rw [decide_eq_false (by omega)]; rfl
  · rw [Int.compare_eq_gt.2 h]; simp only [decide_eq_true h]; refine ⟨?_, ?_, rfl⟩
    · rw [decide_eq_false (by omega)]; rfl
    · rw [decide_eq_false (by omega)]; rfl

/-- The comparisons in numbers. -/
theorem feq_iff (k : FloatKind) (x y : Nat) : feq k x y = (!isNan k x && !isNan k y && decide (sgv k.format x = sgv k.format y)) := by
  unfold feq
  cases hx : isNan k x <;> cases hy : isNan k y <;> first | (rw [order_sgv k hx hy, (ord_dec _ _).2.1]; simp) | (rw [order_none k (by simp [hx, hy])]; rfl)
theorem flt_iff (k : FloatKind) (x y : Nat) : flt k x y = (!isNan k x && !isNan k y && decide (sgv k.format x < sgv k.format y)) := by
  unfold flt
  cases hx : isNan k x <;> cases hy : isNan k y <;> first | (rw [order_sgv k hx hy, (ord_dec _ _).1]; simp) | (rw [order_none k (by simp [hx, hy])]; rfl)
theorem fgt_iff (k : FloatKind) (x y : Nat) : fgt k x y = (!isNan k x && !isNan k y && decide (sgv k.format y < sgv k.format x)) := by
  unfold fgt
  cases hx : isNan k x <;> cases hy : isNan k y <;> first | (rw [order_sgv k hx hy, (ord_dec _ _).2.2]; simp) | (rw [order_none k (by simp [hx, hy])]; rfl)
theorem fle_iff (k : FloatKind) (x y : Nat) : fle k x y = (!isNan k x && !isNan k y && decide (sgv k.format x ≤ sgv k.format y)) := by
  unfold fle
  cases hx : isNan k x <;> cases hy : isNan k y <;> first
    | (rw [order_sgv k hx hy, (ord_dec _ _).1, (ord_dec _ _).2.1, ← Bool.decide_or]
       simp only [Bool.not_false, Bool.true_and]
       exact decide_eq_decide.2 (by omega))
    | (rw [order_none k (by simp [hx, hy])]; rfl)
theorem fge_iff (k : FloatKind) (x y : Nat) : fge k x y = (!isNan k x && !isNan k y && decide (sgv k.format y ≤ sgv k.format x)) := by
  unfold fge
  cases hx : isNan k x <;> cases hy : isNan k y <;> first
    | (rw [order_sgv k hx hy, (ord_dec _ _).2.2, (ord_dec _ _).2.1, ← Bool.decide_or]
       simp only [Bool.not_false, Bool.true_and]
       exact decide_eq_decide.2 (by omega))
    | (rw [order_none k (by simp [hx, hy])]; rfl)

theorem feq_self (k : FloatKind) (x : Nat) : feq k x x = !isNan k x := by
  rw [feq_iff]; cases isNan k x <;> simp

theorem word_split {k : FloatKind} {x : Nat} (h : x < 2 ^ k.format.width) : x = (if sgn k.format x then k.format.signWeight else 0) + rung k.format x := by
  have hw := width_sw k
  have hp := sw_pos k
  unfold sgn rung
  have h1 := Nat.div_add_mod x k.format.signWeight
  have h2 : x / k.format.signWeight < 2 := by rw [Nat.div_lt_iff_lt_mul hp]; omega
  generalize x / k.format.signWeight = q at *
  have : q = 0 ∨ q = 1 := by omega
  rcases this with rfl | rfl
  · simpa using h1.symm
  · simpa using h1.symm

/-- Two words that are no NaN are one word if they are equal and of one sign. -/
theorem same_word {k : FloatKind} {x y : Nat} (hx : x < 2 ^ k.format.width) (hy : y < 2 ^ k.format.width) (hs : sgn k.format x = sgn k.format y) (h : sgv k.format x = sgv k.format y) : x = y := by
  rw [word_split hx, word_split hy, hs]
  have : V k.format (rung k.format x) = V k.format (rung k.format y) := by
    unfold sgv at h
    rw [hs] at h
    split at h <;> omega
  rw [V_inj k.format this]

/-! ### What is finite -/

theorem fin_not_nan {k : FloatKind} {x : Nat} (h : fin k x = true) : isNan k x = false := by
  rw [isNan_iff]; have := (fin_iff k x).1 h; simp; omega

theorem fsub_self (k : FloatKind) (x : Nat) (h : fin k x = true) : fsub k x x = 0 := by
  obtain ⟨m, e, h1, _, _⟩ := read_fin k.format ((fin_iff k x).1 h)
  unfold fsub farith
  show ((k.format.sub x x).getD (qnan k)) = 0
  unfold Ieee.Format.sub
  rw [h1]
  show (Option.map k.format.write (some (.number (if Ieee.signed (sgn k.format x) m (e - min e e).toNat + Ieee.signed (!sgn k.format x) m (e - min e e).toNat = 0 then sgn k.format x && !sgn k.format x else _) (Ieee.signed (sgn k.format x) m (e - min e e).toNat + Ieee.signed (!sgn k.format x) m (e - min e e).toNat).natAbs (min e e)))).getD (qnan k) = 0
  have h0 : Ieee.signed (sgn k.format x) m (e - min e e).toNat + Ieee.signed (!sgn k.format x) m (e - min e e).toNat = 0 := by
    rw [signed_eq, signed_eq]
    cases sgn k.format x <;> simp <;> omega
  rw [if_pos h0, h0]
  show k.format.nearest (sgn k.format x && !sgn k.format x) (Int.natAbs 0) (min e e) = 0
  unfold Ieee.Format.nearest
  rw [if_pos (by rfl)]
  cases sgn k.format x <;> rfl

theorem fsub_self_not (k : FloatKind) (x : Nat) (h : fin k x = false) : fsub k x x = qnan k := by
  have hge : k.format.infRung ≤ rung k.format x := by
    have := mt (fin_iff k x).2 (by rw [h]; simp)
    omega
  unfold fsub farith
  rcases Nat.lt_or_eq_of_le hge with h1 | h1
  · rw [floatBits_nan_l .sub x (by rw [isNan_iff]; exact decide_eq_true h1)]; rfl
  · show ((k.format.sub x x).getD (qnan k)) = qnan k
    unfold Ieee.Format.sub
    rw [read_inf k h1.symm]
    show (Option.map k.format.write (if sgn k.format x = !sgn k.format x then some (.infinity (sgn k.format x)) else none)).getD (qnan k) = qnan k
    rw [if_neg (by cases sgn k.format x <;> simp)]; rfl

/-- x - x == 0 says that x is finite. -/
theorem fin_sub (k : FloatKind) (x : Nat) : feq k (fsub k x x) 0 = fin k x := by
  cases h : fin k x with
  | true => rw [fsub_self k x h]; cases k <;> decide
  | false => rw [fsub_self_not k x h]; cases k <;> decide

theorem fabs_rung {k : FloatKind} {x : Nat} (h : isNan k x = false) : rung k.format (fabs k x) = rung k.format x ∧ sgn k.format (fabs k x) = false ∧ isNan k (fabs k x) = false := by
  have e : fabs k x = rung k.format x := by unfold fabs; rw [h]; rfl
  have hp := sw_pos k
  have hlt : rung k.format x < k.format.signWeight := Nat.mod_lt _ hp
  have e1 : rung k.format (fabs k x) = rung k.format x := by rw [e]; exact Nat.mod_eq_of_lt hlt
  refine ⟨e1, ?_, ?_⟩
  · rw [e]; unfold sgn; rw [Nat.div_eq_of_lt hlt]; rfl
  · rw [isNan_iff, e1, ← isNan_iff]; exact h

theorem sgv_abs {k : FloatKind} {x : Nat} (h : isNan k x = false) : sgv k.format (fabs k x) = V k.format (rung k.format x) := by
  obtain ⟨h1, h2, _⟩ := fabs_rung h
  unfold sgv; rw [h1, h2]; rfl

/-- The absolute value is greater than the greatest finite one: an infinity. -/
theorem abs_gt_max (x : Nat) : (isNan .f64 x || fgt .f64 (fabs .f64 x) 9218868437227405311) = !fin .f64 x := by
  cases h : isNan .f64 x with
  | true =>
    have : fin .f64 x = false := by
      cases hf : fin .f64 x with
      | true => rw [fin_not_nan hf] at h; cases h
      | false => rfl
    rw [this]; rfl
  | false =>
    rw [fgt_iff, (fabs_rung h).2.2, sgv_abs h]
    have e1 : isNan .f64 9218868437227405311 = false := by decide
    have e2 : sgv FloatKind.f64.format 9218868437227405311 = V FloatKind.f64.format (FloatKind.f64.format.infRung - 1) := by
      have a1 : rung FloatKind.f64.format 9218868437227405311 = FloatKind.f64.format.infRung - 1 := by decide
      have a2 : sgn FloatKind.f64.format 9218868437227405311 = false := by decide
      unfold sgv; rw [a1, a2]; rfl
    rw [e1, e2]
    simp only [Bool.not_false, Bool.true_and, Bool.false_or]
    rw [Bool.eq_iff_iff, decide_eq_true_iff, Bool.not_eq_true']
    constructor
    · intro hlt
      cases hf : fin .f64 x with
      | false => rfl
      | true =>
        have h1 := (fin_iff .f64 x).1 hf
        have h2 := V_le FloatKind.f64.format (show rung FloatKind.f64.format x ≤ FloatKind.f64.format.infRung - 1 by omega)
        omega
    · intro hf
      have h1 : ¬ rung FloatKind.f64.format x < FloatKind.f64.format.infRung := fun hh => by rw [(fin_iff .f64 x).2 hh] at hf; cases hf
      have h0 : 0 < FloatKind.f64.format.infRung := by decide
      have h2 := V_mono FloatKind.f64.format (show FloatKind.f64.format.infRung - 1 < rung FloatKind.f64.format x by omega)
      omega

theorem isNan_qnan' (k : FloatKind) : isNan k (qnan k) = true := nan_qnan k

theorem isInf_of (k : FloatKind) {x : Nat} (h : (k.decode x).isInfinity = false) (hn : isNan k x = false) : fin k x = true := by
  rw [fin_iff]
  rcases Nat.lt_trichotomy (rung k.format x) k.format.infRung with h1 | h1 | h1
  · exact h1
  · have : k.decode x = .infinity (sgn k.format x) := read_inf k h1
    rw [this] at h; cases h
  · rw [isNan_iff, decide_eq_true h1] at hn; cases hn

theorem fin_inf (k : FloatKind) (s : Bool) : fin k (k.encode (.infinity s)) = false := by cases k <;> cases s <;> decide

/-- A 32-bit number is finite as a 64-bit one just if it is. -/
theorem fin_wide (x : Nat) : fin .f64 (fcvt .f32 .f64 x) = fin .f32 x := by
  unfold fcvt
  by_cases hn : isNan .f32 x = true
  · rw [if_pos hn]
    have : fin .f32 x = false := by
      cases hf : fin .f32 x with
      | true => rw [fin_not_nan hf] at hn; cases hn
      | false => rfl
    rw [this]; decide
  · rw [if_neg hn, if_neg (by decide)]
    have hn' : isNan .f32 x = false := by simpa using hn
    cases hf : fin .f32 x with
    | true =>
      obtain ⟨m, e, h1, _⟩ := read_fin FloatKind.f32.format ((fin_iff .f32 x).1 hf)
      have h1' : FloatKind.f32.decode x = .number (sgn FloatKind.f32.format x) m e := h1
      have hfit := cvtFits_wide x
      unfold cvtFits at hfit
      rw [h1'] at hfit ⊢
      refine isInf_of .f64 (by simpa using hfit) (encode_not .f64 rfl)
    | false =>
      have h1 : rung FloatKind.f32.format x = FloatKind.f32.format.infRung := by
        have a1 : ¬ rung FloatKind.f32.format x < FloatKind.f32.format.infRung := fun hh => by rw [(fin_iff .f32 x).2 hh] at hf; cases hf
        have a2 : rung FloatKind.f32.format x ≤ FloatKind.f32.format.infRung := by rw [isNan_iff] at hn'; simpa using hn'
        omega
      have h2 : FloatKind.f32.decode x = .infinity (sgn FloatKind.f32.format x) := read_inf .f32 h1
      rw [h2]; exact fin_inf .f64 _

/-! ### Signs, words -/

theorem sgn_word (k : FloatKind) (neg : Bool) {r : Nat} (h : r < k.format.signWeight) : sgn k.format (k.format.word neg r) = neg := by
  have hp := sw_pos k
  unfold sgn Ieee.Format.word
  cases neg
  · rw [if_neg (by simp), Nat.div_eq_of_lt h]; rfl
  · rw [if_pos rfl, Nat.add_div_left _ hp, Nat.div_eq_of_lt h]; rfl

theorem nearest_word (k : FloatKind) (neg : Bool) (m : Nat) (e : Int) : ∃ r, r ≤ k.format.infRung ∧ k.format.nearest neg m e = k.format.word neg r := by
  unfold Ieee.Format.nearest
  dsimp only
  split
  · exact ⟨0, Nat.zero_le _, rfl⟩
  · exact ⟨_, Nat.min_le_right .., rfl⟩

theorem sgn_nearest (k : FloatKind) (neg : Bool) (m : Nat) (e : Int) : sgn k.format (k.format.nearest neg m e) = neg := by
  obtain ⟨r, h1, h2⟩ := nearest_word k neg m e
  rw [h2]; exact sgn_word k neg (Nat.lt_of_le_of_lt h1 (inf_lt_sw k))

theorem sgn_cvt {s k : FloatKind} {x : Nat} (hn : isNan s x = false) (hsk : s ≠ k) : sgn k.format (fcvt s k x) = sgn s.format x := by
  unfold fcvt
  rw [hn, if_neg (by simp), if_neg hsk]
  rcases Nat.lt_or_eq_of_le (show rung s.format x ≤ s.format.infRung by rw [isNan_iff] at hn; simpa using hn) with h | h
  · obtain ⟨m, e, h1, _⟩ := read_fin s.format h
    have h1' : s.decode x = .number (sgn s.format x) m e := h1
    rw [h1']; exact sgn_nearest k _ m e
  · have h1 : s.decode x = .infinity (sgn s.format x) := read_inf s h
    rw [h1]; exact sgn_word k _ (inf_lt_sw k)

theorem isNan_cvt {s k : FloatKind} (x : Nat) : isNan k (fcvt s k x) = isNan s x := by
  unfold fcvt
  cases hn : isNan s x with
  | true => simp [nan_qnan]
  | false =>
    simp only [Bool.false_eq_true, if_false]
    split
    · rename_i h; subst h; exact hn
    · refine encode_not k ?_
      exact hn

theorem can_cvt {s k : FloatKind} {x : Nat} (h : Can s x) : Can k (fcvt s k x) := by
  unfold fcvt
  by_cases hn : isNan s x = true
  · rw [if_pos hn]; exact ⟨by cases k <;> decide, canon_nan (nan_qnan k)⟩
  · rw [if_neg hn]
    split
    · rename_i hk; subst hk; exact h
    · have hn' : (s.decode x).isNaN = false := by simpa [isNan] using hn
      exact (encode_flIs k hn').can

/-- The sign of a word of 64 bits, as a whole number's. -/
theorem wrap_neg {x : Nat} (h : x < 2 ^ 64) : decide (IntKind.i64.wrap (x : Int) < 0) = sgn FloatKind.f64.format x := by
  have hw : FloatKind.f64.format.signWeight = 2 ^ 63 := by decide
  unfold sgn
  rw [hw, IntKind.wrap_i64]
  by_cases hx : x < 2 ^ 63
  · rw [Nat.div_eq_of_lt hx, decide_eq_false (by omega)]; rfl
  · have : x / 2 ^ 63 = 1 := by omega
    rw [this, decide_eq_true (by omega)]; rfl

theorem can_nan {k : FloatKind} {x : Nat} (h : Can k x) (hn : isNan k x = true) : x = qnan k := by rw [← h.2, canon_nan hn]

/-- SAME: two words of values are one word. -/
theorem same_dec {x y : Nat} (hx : Can .f32 x) (hy : Can .f32 y) (hnx : isNan .f32 x = false) (hny : isNan .f32 y = false) :
    (feq .f32 x y && (sgn FloatKind.f32.format x == sgn FloatKind.f32.format y)) = decide (x = y) := by
  rw [Bool.eq_iff_iff, Bool.and_eq_true, decide_eq_true_iff, feq_iff, hnx, hny]
  constructor
  · rintro ⟨h1, h2⟩
    exact same_word hx.1 hy.1 (by simpa using h2) (by simpa using h1)
  · rintro rfl
    simp

end Go.Proofs.Ytdmcpgbnomhahaa
