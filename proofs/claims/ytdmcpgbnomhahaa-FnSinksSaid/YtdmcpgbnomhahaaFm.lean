/-
  Rounding: the nearest word grows with the number; bounds of sums, products, quotients, roots, narrowed numbers. No conditions.
-/
import Derived.Test.YtdmcpgbnomhahaaFt
namespace Go.Proofs.Ytdmcpgbnomhahaa
set_option linter.unusedVariables false
set_option linter.unusedSimpArgs false

/-! ### Powers of two -/

theorem tp (n : Nat) : 0 < 2 ^ n := Nat.two_pow_pos n

theorem shift_le {m n a a' c c' : Nat} (h : a + c' = c + a') : (m * 2 ^ a ≤ n * 2 ^ a') ↔ (m * 2 ^ c ≤ n * 2 ^ c') := by
  have e1 : m * 2 ^ a * 2 ^ c' = m * 2 ^ c * 2 ^ a' := by rw [Nat.mul_assoc, Nat.mul_assoc, ← Nat.pow_add, ← Nat.pow_add, h]
  have e2 : n * 2 ^ a' * 2 ^ c' = n * 2 ^ c' * 2 ^ a' := by rw [Nat.mul_assoc, Nat.mul_assoc, Nat.mul_comm (2 ^ a')]
  constructor
  · intro hh
    have := Nat.mul_le_mul_right (2 ^ c') hh
    rw [e1, e2] at this
    exact Nat.le_of_mul_le_mul_right this (tp _)
  · intro hh
    have := Nat.mul_le_mul_right (2 ^ a') hh
    rw [← e1, ← e2] at this
    exact Nat.le_of_mul_le_mul_right this (tp _)

/-- m * 2 ^ p ≤ n * 2 ^ q. -/
def dle (m : Nat) (p : Int) (n : Nat) (q : Int) : Prop := m * 2 ^ (p - min p q).toNat ≤ n * 2 ^ (q - min p q).toNat

theorem dle_iff {m n : Nat} {p q : Int} (b : Int) (hp : b ≤ p) (hq : b ≤ q) : dle m p n q ↔ m * 2 ^ (p - b).toNat ≤ n * 2 ^ (q - b).toNat :=
  shift_le (by omega)

theorem dle_same {m n : Nat} {p : Int} : dle m p n p ↔ m ≤ n := by
  rw [dle_iff p (Int.le_refl _) (Int.le_refl _)]; simp

theorem dle_refl (m : Nat) (p : Int) : dle m p m p := dle_same.2 (Nat.le_refl _)

theorem dle_up {m : Nat} {p b : Int} (h : b ≤ p) : dle (m * 2 ^ (p - b).toNat) b m p ∧ dle m p (m * 2 ^ (p - b).toNat) b := by
  constructor
  · rw [dle_iff b (Int.le_refl _) h]; simp
  · rw [dle_iff b h (Int.le_refl _)]; simp

theorem dle_trans {m n r : Nat} {p q s : Int} (h : dle m p n q) (k : dle n q r s) : dle m p r s := by
  have hb1 : min (min p q) s ≤ p := by omega
  have hb2 : min (min p q) s ≤ q := by omega
  have hb3 : min (min p q) s ≤ s := by omega
  rw [dle_iff _ hb1 hb2] at h
  rw [dle_iff _ hb2 hb3] at k
  rw [dle_iff _ hb1 hb3]
  exact Nat.le_trans h k

theorem dle_log {m n : Nat} {p q : Int} (hm : m ≠ 0) (hn : n ≠ 0) (h : dle m p n q) : p + m.log2 ≤ q + n.log2 := by
  unfold dle at h
  have h1 : 2 ^ m.log2 ≤ m := Nat.log2_self_le hm
  have h2 : n < 2 ^ (n.log2 + 1) := Nat.lt_log2_self
  have h3 : 2 ^ (m.log2 + (p - min p q).toNat) < 2 ^ (n.log2 + 1 + (q - min p q).toNat) := by
    rw [Nat.pow_add, Nat.pow_add]
    exact Nat.lt_of_le_of_lt (Nat.le_trans (Nat.mul_le_mul_right _ h1) h) (Nat.mul_lt_mul_of_pos_right h2 (tp _))
  have h4 := (Nat.pow_lt_pow_iff_right (by omega : 1 < 2)).1 h3
  omega

/-! ### Half to even -/

theorem cut_spec (neg : Bool) (n d : Nat) : 2 * (Ieee.Toward.even.cut neg n d * 2 ^ d) ≤ 2 * n + 2 ^ d ∧ 2 * n ≤ 2 * (Ieee.Toward.even.cut neg n d * 2 ^ d) + 2 ^ d ∧
    (2 * (Ieee.Toward.even.cut neg n d * 2 ^ d) = 2 * n + 2 ^ d → Ieee.Toward.even.cut neg n d % 2 = 0) ∧ (2 * n = 2 * (Ieee.Toward.even.cut neg n d * 2 ^ d) + 2 ^ d → Ieee.Toward.even.cut neg n d % 2 = 0) := by
  unfold Ieee.Toward.cut
  simp only [Nat.one_shiftLeft]
  by_cases hd : d ≤ n.log2 + 2
  · rw [Nat.min_eq_left hd]
    have hg : 0 < 2 ^ d := tp d
    generalize 2 ^ d = g at *
    have hn : n = n / g * g + n % g := by rw [Nat.mul_comm]; exact (Nat.div_add_mod n g).symm
    have hr : n % g < g := Nat.mod_lt _ hg
    generalize n / g = low at *
    generalize n % g = rest at *
    have hA : (low + 1) * g = low * g + g := by rw [Nat.add_mul, Nat.one_mul]
    generalize hAA : low * g = A at *
    by_cases h1 : g < 2 * rest
    · have e : (decide (g < 2 * rest) || (g == 2 * rest && low % 2 == 1)).toNat = 1 := by simp [h1]
      rw [e, hA]
      refine ⟨by omega, by omega, fun h => by omega, fun h => by omega⟩
    · by_cases h2 : g = 2 * rest
      · by_cases h3 : low % 2 = 1
        · have e : (decide (g < 2 * rest) || (g == 2 * rest && low % 2 == 1)).toNat = 1 := by simp [h2, h3]
          rw [e, hA]
          refine ⟨by omega, by omega, fun h => by omega, fun h => by omega⟩
        · have e : (decide (g < 2 * rest) || (g == 2 * rest && low % 2 == 1)).toNat = 0 := by simp [h2, h3]
          rw [e, Nat.add_zero, hAA]
          refine ⟨by omega, by omega, fun h => by omega, fun h => by omega⟩
      · have e : (decide (g < 2 * rest) || (g == 2 * rest && low % 2 == 1)).toNat = 0 := by simp [h2, h1]
        rw [e, Nat.add_zero, hAA]
        refine ⟨by omega, by omega, fun h => by omega, fun h => by omega⟩
  · have hle : n.log2 + 2 ≤ d := by omega
    rw [Nat.min_eq_right hle]
    have h2 : n < 2 ^ (n.log2 + 1) := Nat.lt_log2_self
    have h3 : 2 ^ (n.log2 + 2) = 2 * 2 ^ (n.log2 + 1) := by rw [Nat.pow_succ 2 (n.log2 + 1)]; omega
    have h4 : 2 ^ (n.log2 + 2) ≤ 2 ^ d := Nat.pow_le_pow_right (by omega) hle
    have h0 : n / 2 ^ (n.log2 + 2) = 0 := Nat.div_eq_of_lt (by omega)
    have h5 : n % 2 ^ (n.log2 + 2) = n := Nat.mod_eq_of_lt (by omega)
    rw [h0, h5]
    have e : (decide (2 ^ (n.log2 + 2) < 2 * n) || (2 ^ (n.log2 + 2) == 2 * n && 0 % 2 == 1)).toNat = 0 := by
      have : ¬ 2 ^ (n.log2 + 2) < 2 * n := by omega
      simp [this]
    rw [e]
    refine ⟨by omega, by omega, fun h => rfl, fun h => rfl⟩

theorem cut_mono (s t : Bool) {n d n' d' : Nat} (h : n * 2 ^ d' ≤ n' * 2 ^ d) : Ieee.Toward.even.cut s n d ≤ Ieee.Toward.even.cut t n' d' := by
  obtain ⟨a1, _, a3, _⟩ := cut_spec s n d
  obtain ⟨_, b2, _, b4⟩ := cut_spec t n' d'
  generalize Ieee.Toward.even.cut s n d = c at *
  generalize Ieee.Toward.even.cut t n' d' = c' at *
  rcases Nat.lt_or_ge c' c with hlt | hge
  · exfalso
    have hd := tp d
    have hd' := tp d'
    generalize 2 ^ d = u at *
    generalize 2 ^ d' = v at *
    -- times v, times u
    have k1 : 2 * (c * u) * v ≤ (2 * n + u) * v := Nat.mul_le_mul_right v a1
    have k2 : 2 * n' * u ≤ (2 * (c' * v) + v) * u := Nat.mul_le_mul_right u b2
    have e1 : 2 * (c * u) * v = 2 * (c * (u * v)) := by rw [Nat.mul_assoc, Nat.mul_assoc]
    have e2 : (2 * n + u) * v = 2 * (n * v) + u * v := by rw [Nat.add_mul, Nat.mul_assoc]
    have e3 : 2 * n' * u = 2 * (n' * u) := Nat.mul_assoc ..
    have e4 : (2 * (c' * v) + v) * u = 2 * (c' * (u * v)) + u * v := by rw [Nat.add_mul, Nat.mul_assoc, Nat.mul_assoc, Nat.mul_comm v u]
    rw [e1, e2] at k1
    rw [e3, e4] at k2
    have e5 : (c' + 1) * (u * v) ≤ c * (u * v) := Nat.mul_le_mul_right _ hlt
    rw [Nat.add_mul, Nat.one_mul] at e5
    -- all are equal
    have q1 : c * (u * v) = c' * (u * v) + u * v := by omega
    have q2 : 2 * (c * (u * v)) = 2 * (n * v) + u * v := by omega
    have q3 : 2 * (n' * u) = 2 * (c' * (u * v)) + u * v := by omega
    have p1 : c = c' + 1 := by
      have : c * (u * v) = (c' + 1) * (u * v) := by rw [Nat.add_mul, Nat.one_mul]; exact q1
      exact Nat.eq_of_mul_eq_mul_right (Nat.mul_pos hd hd') this
    have p2 : c % 2 = 0 := a3 (by
      have : 2 * (c * u) * v = (2 * n + u) * v := by rw [e1, e2]; exact q2
      exact Nat.eq_of_mul_eq_mul_right hd' this)
    have p3 : c' % 2 = 0 := b4 (by
      have : 2 * n' * u = (2 * (c' * v) + v) * u := by rw [e3, e4]; exact q3
      exact Nat.eq_of_mul_eq_mul_right hd this)
    omega
  · exact hge

theorem cut_zero (s : Bool) (n : Nat) : Ieee.Toward.even.cut s n 0 = n := by
  unfold Ieee.Toward.cut
  simp [Nat.mod_one]

/-! ### The nearest rung -/

def rungOf (f : Ieee.Format) (m : Nat) (p : Int) : Nat :=
  if m = 0 then 0 else
  let last := max (p + m.log2 - f.fractionBits) f.leastPlace
  min ((last - f.leastPlace).toNat * f.binade + Ieee.Toward.even.cut false (m <<< (p - last).toNat) (last - p).toNat) f.infRung

theorem cut_sign (s t : Bool) (n d : Nat) : Ieee.Toward.even.cut s n d = Ieee.Toward.even.cut t n d := Nat.le_antisymm (cut_mono s t (Nat.le_refl _)) (cut_mono t s (Nat.le_refl _))

theorem nearest_eq (f : Ieee.Format) (s : Bool) (m : Nat) (p : Int) : f.nearest s m p = f.word s (rungOf f m p) := by
  unfold Ieee.Format.nearest rungOf
  by_cases h : m = 0
  · rw [if_pos h, if_pos h]
  · rw [if_neg h, if_neg h]
    dsimp only
    rw [cut_sign s false]

theorem rungOf_le (f : Ieee.Format) (m : Nat) (p : Int) : rungOf f m p ≤ f.infRung := by
  unfold rungOf
  split
  · exact Nat.zero_le _
  · exact Nat.min_le_right ..

theorem rung_mono (f : Ieee.Format) {m n : Nat} {p q : Int} (h : dle m p n q) : rungOf f m p ≤ rungOf f n q := by
  unfold rungOf
  by_cases hm : m = 0
  · rw [if_pos hm]; exact Nat.zero_le _
  · have hn : n ≠ 0 := by
      intro h0
      subst h0
      unfold dle at h
      rw [Nat.zero_mul] at h
      have := Nat.mul_pos (Nat.pos_of_ne_zero hm) (tp (p - min p q).toNat)
      omega
    rw [if_neg hm, if_neg hn]
    dsimp only
    have hlog := dle_log hm hn h
    have hl : max (p + m.log2 - f.fractionBits) f.leastPlace ≤ max (q + n.log2 - f.fractionBits) f.leastPlace := by omega
    have hl1 : p + m.log2 - f.fractionBits ≤ max (p + m.log2 - f.fractionBits) f.leastPlace := by omega
    have hl2 : f.leastPlace ≤ max (p + m.log2 - f.fractionBits) f.leastPlace := by omega
    have hl3 : f.leastPlace < max (q + n.log2 - f.fractionBits) f.leastPlace → max (q + n.log2 - f.fractionBits) f.leastPlace = q + n.log2 - f.fractionBits := by omega
    generalize max (p + m.log2 - f.fractionBits) f.leastPlace = a at *
    generalize max (q + n.log2 - f.fractionBits) f.leastPlace = b at *
    have key : (a - f.leastPlace).toNat * f.binade + Ieee.Toward.even.cut false (m <<< (p - a).toNat) (a - p).toNat ≤ (b - f.leastPlace).toNat * f.binade + Ieee.Toward.even.cut false (n <<< (q - b).toNat) (b - q).toNat := by
      rw [Nat.shiftLeft_eq, Nat.shiftLeft_eq]
      rcases Int.lt_or_eq_of_le hl with hlt | heq
      · -- another binade
        have h1 : Ieee.Toward.even.cut false (m * 2 ^ (p - a).toNat) (a - p).toNat ≤ 2 * f.binade := by
          have e : Ieee.Toward.even.cut false (2 * f.binade) 0 = 2 * f.binade := cut_zero _ _
          rw [← e]
          refine cut_mono _ _ ?_
          have hm2 : m < 2 ^ (m.log2 + 1) := Nat.lt_log2_self
          unfold Ieee.Format.binade
          rw [Nat.pow_zero, Nat.mul_one, show 2 * 2 ^ f.fractionBits = 2 ^ (f.fractionBits + 1) by rw [Nat.pow_succ]; omega, ← Nat.pow_add]
          have := Nat.mul_lt_mul_of_pos_right hm2 (tp (p - a).toNat)
          rw [← Nat.pow_add] at this
          exact Nat.le_of_lt (Nat.lt_of_lt_of_le this (Nat.pow_le_pow_right (by omega) (by omega)))
        have h2 : f.binade ≤ Ieee.Toward.even.cut false (n * 2 ^ (q - b).toNat) (b - q).toNat := by
          have e : Ieee.Toward.even.cut false f.binade 0 = f.binade := cut_zero _ _
          rw [← e]
          refine cut_mono _ _ ?_
          have hn2 : 2 ^ n.log2 ≤ n := Nat.log2_self_le hn
          have hb := hl3 (by omega)
          unfold Ieee.Format.binade
          rw [Nat.pow_zero, Nat.mul_one, ← Nat.pow_add]
          have := Nat.mul_le_mul_right (2 ^ (q - b).toNat) hn2
          rw [← Nat.pow_add] at this
          exact Nat.le_trans (Nat.pow_le_pow_right (by omega) (by omega)) this
        have h3 : ((a - f.leastPlace).toNat + 1) * f.binade ≤ (b - f.leastPlace).toNat * f.binade := Nat.mul_le_mul_right _ (by omega)
        rw [Nat.add_mul, Nat.one_mul] at h3
        omega
      · subst heq
        refine Nat.add_le_add_left (cut_mono _ _ ?_) _
        rw [Nat.mul_assoc, Nat.mul_assoc, ← Nat.pow_add, ← Nat.pow_add]
        unfold dle at h
        exact (shift_le (by omega)).1 h
    exact Nat.le_min.2 ⟨Nat.le_trans (Nat.min_le_left ..) key, Nat.min_le_right ..⟩

theorem rung_same (f : Ieee.Format) {m n : Nat} {p q : Int} (h : dle m p n q) (k : dle n q m p) : rungOf f m p = rungOf f n q := Nat.le_antisymm (rung_mono f h) (rung_mono f k)

/-- A rung's own number rounds to it. -/
theorem rung_V (f : Ieee.Format) {r : Nat} (h : r ≤ f.infRung) : rungOf f (V f r) f.leastPlace = r := by
  have hB := binade_pos f
  have hBe : f.binade = 2 ^ f.fractionBits := rfl
  unfold V
  by_cases h1 : r < f.binade
  · rw [if_pos h1]
    unfold rungOf
    by_cases h0 : r = 0
    · rw [if_pos h0, h0]
    · rw [if_neg h0]
      dsimp only
      have hl : r.log2 < f.fractionBits := (Nat.log2_lt h0).2 (by rw [← hBe]; exact h1)
      rw [show max (f.leastPlace + r.log2 - f.fractionBits) f.leastPlace = f.leastPlace by omega, Int.sub_self, Int.toNat_zero, Nat.zero_mul, Nat.zero_add, cut_zero]
      rw [Nat.shiftLeft_zero]
      exact Nat.min_eq_left h
  · rw [if_neg h1]
    have hm : r % f.binade < f.binade := Nat.mod_lt _ hB
    have hq : 1 ≤ r / f.binade := (Nat.one_le_div_iff hB).2 (by omega)
    have hr : r = r / f.binade * f.binade + r % f.binade := by rw [Nat.mul_comm]; exact (Nat.div_add_mod r f.binade).symm
    have e : rungOf f ((f.binade + r % f.binade) * 2 ^ (r / f.binade - 1)) f.leastPlace = rungOf f (f.binade + r % f.binade) (f.leastPlace + ((r / f.binade - 1 : Nat) : Int)) := by
      have hd := dle_up (m := f.binade + r % f.binade) (p := f.leastPlace + ((r / f.binade - 1 : Nat) : Int)) (b := f.leastPlace) (by omega)
      rw [show (f.leastPlace + ((r / f.binade - 1 : Nat) : Int) - f.leastPlace).toNat = r / f.binade - 1 by omega] at hd
      exact rung_same f hd.1 hd.2
    rw [e]
    unfold rungOf
    rw [if_neg (by omega)]
    dsimp only
    have hl : (f.binade + r % f.binade).log2 = f.fractionBits := by
      refine (Nat.log2_eq_iff (by omega)).2 ⟨by omega, ?_⟩
      rw [Nat.pow_succ]; omega
    rw [hl, show max (f.leastPlace + ((r / f.binade - 1 : Nat) : Int) + f.fractionBits - f.fractionBits) f.leastPlace = f.leastPlace + ((r / f.binade - 1 : Nat) : Int) by omega, Int.sub_self, Int.toNat_zero, cut_zero, Nat.shiftLeft_zero,
      show (f.leastPlace + ((r / f.binade - 1 : Nat) : Int) - f.leastPlace).toNat = r / f.binade - 1 by omega]
    have : (r / f.binade - 1) * f.binade + (f.binade + r % f.binade) = r := by
      rw [Nat.sub_mul, Nat.one_mul]
      have : 1 * f.binade ≤ r / f.binade * f.binade := Nat.mul_le_mul_right _ hq
      omega
    rw [this]
    exact Nat.min_eq_left h

/-- A number that is not greater than a rung's rounds to no greater one; and so below. -/
theorem rungOf_le_of (f : Ieee.Format) {m : Nat} {p : Int} {r : Nat} (hr : r ≤ f.infRung) (h : dle m p (V f r) f.leastPlace) : rungOf f m p ≤ r := by
  have := rung_mono f h
  rwa [rung_V f hr] at this
theorem rungOf_ge_of (f : Ieee.Format) {m : Nat} {p : Int} {r : Nat} (hr : r ≤ f.infRung) (h : dle (V f r) f.leastPlace m p) : r ≤ rungOf f m p := by
  have := rung_mono f h
  rwa [rung_V f hr] at this

end Go.Proofs.Ytdmcpgbnomhahaa
