/-
  Floats up to the bits of a NaN: every NaN is one value. The model's operations on floats, said of such values. No conditions.
-/
import Derived.WalkLawsBesides
import Derived.IntWalk
namespace Go.Proofs.Ytdmcpgbnomhahaa
set_option linter.unusedVariables false
set_option linter.unusedSimpArgs false

/-- The NaN that stands for all. -/
def qnan : FloatKind → Nat
  | .f32 => 2143289344
  | .f64 => 9221120237041090560

def isNan (k : FloatKind) (b : Nat) : Bool := (k.decode b).isNaN

/-- The bits, every NaN being one. -/
def canon (k : FloatKind) (b : Nat) : Nat := if isNan k b then qnan k else b

theorem nan_qnan (k : FloatKind) : isNan k (qnan k) = true := by cases k <;> decide

theorem canon_nan {k : FloatKind} {b : Nat} (h : isNan k b = true) : canon k b = qnan k := by simp [canon, h]
theorem canon_not {k : FloatKind} {b : Nat} (h : isNan k b = false) : canon k b = b := by simp [canon, h]
theorem canon_canon (k : FloatKind) (b : Nat) : canon k (canon k b) = canon k b := by
  by_cases h : isNan k b = true
  · rw [canon_nan h, canon_nan (nan_qnan k)]
  · have h' : isNan k b = false := by simpa using h
    rw [canon_not h', canon_not h']
theorem isNan_canon (k : FloatKind) (b : Nat) : isNan k (canon k b) = isNan k b := by
  by_cases h : isNan k b = true
  · rw [canon_nan h, nan_qnan, h]
  · have h' : isNan k b = false := by simpa using h
    rw [canon_not h']

/-- Two words that stand for the same: the same word, or both NaN. -/
theorem canon_cases {k : FloatKind} {b c : Nat} (h : canon k b = c) : (isNan k b = true ∧ isNan k c = true ∧ c = qnan k) ∨ (isNan k b = false ∧ b = c) := by
  by_cases hb : isNan k b = true
  · rw [canon_nan hb] at h; subst h; exact .inl ⟨hb, nan_qnan k, rfl⟩
  · have hb' : isNan k b = false := by simpa using hb
    rw [canon_not hb'] at h; exact .inr ⟨hb', h⟩

theorem decode_nan {k : FloatKind} {b : Nat} (h : isNan k b = true) : ∃ s f, k.format.read b = .nan s f := by
  unfold isNan FloatKind.decode Ieee.Datum.isNaN at h
  split at h
  · rename_i s f e; exact ⟨s, f, e⟩
  · cases h

/-! ### What is written is no NaN -/

theorem read_word_not {f : Ieee.Format} (neg : Bool) {r : Nat} (h : r ≤ f.infRung) : (f.read (f.word neg r)).isNaN = false := by
  have hi := f.infRung_lt
  have hr : (f.word neg r) % f.signWeight = r := by
    unfold Ieee.Format.word
    split
    · rw [Nat.add_mod_left]; exact Nat.mod_eq_of_lt (by omega)
    · exact Nat.mod_eq_of_lt (by omega)
  unfold Ieee.Format.read
  simp only [hr]
  split
  · rfl
  · split
    · rfl
    · rw [if_pos (by omega)]; rfl

theorem nearest_not (f : Ieee.Format) (neg : Bool) (m : Nat) (p : Int) : (f.read (f.nearest neg m p)).isNaN = false := by
  unfold Ieee.Format.nearest
  dsimp only
  split
  · exact read_word_not neg (Nat.zero_le _)
  · exact read_word_not neg (Nat.min_le_right ..)

theorem write_not (f : Ieee.Format) {d : Ieee.Datum} (h : d.isNaN = false) : (f.read (f.write d)).isNaN = false := by
  cases d with
  | number s m e => exact nearest_not f s m e
  | infinity s => exact read_word_not s (Nat.le_refl _)
  | nan s t => cases h

theorem encode_not (k : FloatKind) {d : Ieee.Datum} (h : d.isNaN = false) : isNan k (k.encode d) = false := write_not k.format h

theorem sum_not {d e r : Ieee.Datum} (h : d.sum e = some r) : r.isNaN = false := by
  cases d <;> cases e <;> simp only [Ieee.Datum.sum, reduceCtorEq] at h
  · simp only [Option.some.injEq] at h; subst h; rfl
  · simp only [Option.some.injEq] at h; subst h; rfl
  · simp only [Option.some.injEq] at h; subst h; rfl
  · split at h
    · simp only [Option.some.injEq] at h; subst h; rfl
    · cases h

theorem product_not {d e r : Ieee.Datum} (h : d.product e = some r) : r.isNaN = false := by
  cases d <;> cases e <;> simp only [Ieee.Datum.product, reduceCtorEq] at h
  · simp only [Option.some.injEq] at h; subst h; rfl
  · split at h
    · cases h
    · simp only [Option.some.injEq] at h; subst h; rfl
  · split at h
    · cases h
    · simp only [Option.some.injEq] at h; subst h; rfl
  · simp only [Option.some.injEq] at h; subst h; rfl

theorem quotient_not {n : Nat} {d e r : Ieee.Datum} (h : d.quotient n e = some r) : r.isNaN = false := by
  cases d <;> cases e <;> simp only [Ieee.Datum.quotient, reduceCtorEq] at h
  · split at h
    · split at h
      · cases h
      · simp only [Option.some.injEq] at h; subst h; rfl
    · simp only [Option.some.injEq] at h; subst h; rfl
  · simp only [Option.some.injEq] at h; subst h; rfl
  · simp only [Option.some.injEq] at h; subst h; rfl

theorem root_not {n : Nat} {d r : Ieee.Datum} (h : d.root n = some r) : r.isNaN = false := by
  cases d <;> simp only [Ieee.Datum.root, reduceCtorEq] at h
  · split at h
    · simp only [Option.some.injEq] at h; subst h; rfl
    · split at h
      · cases h
      · simp only [Option.some.injEq] at h; subst h; rfl
  · split at h
    · cases h
    · simp only [Option.some.injEq] at h; subst h; rfl

/-! ### The operations -/

/-- '+', '-', '*', '/' on values. -/
def farith (op : BinOp) (k : FloatKind) (x y : Nat) : Nat := (floatBits op k x y).getD (qnan k)

def fadd (k : FloatKind) (x y : Nat) : Nat := farith .add k x y
def fsub (k : FloatKind) (x y : Nat) : Nat := farith .sub k x y
def fmul (k : FloatKind) (x y : Nat) : Nat := farith .mul k x y
def fdiv (k : FloatKind) (x y : Nat) : Nat := farith .quo k x y
def feq (k : FloatKind) (x y : Nat) : Bool := k.format.order x y == some .eq
def flt (k : FloatKind) (x y : Nat) : Bool := k.format.order x y == some .lt
def fle (k : FloatKind) (x y : Nat) : Bool := k.format.order x y == some .lt || k.format.order x y == some .eq
def fgt (k : FloatKind) (x y : Nat) : Bool := k.format.order x y == some .gt
def fge (k : FloatKind) (x y : Nat) : Bool := k.format.order x y == some .gt || k.format.order x y == some .eq
def fneg (k : FloatKind) (x : Nat) : Nat := if isNan k x then qnan k else Op.negFloat k x
def fsqrt (x : Nat) : Nat := (FloatKind.f64.format.sqrt x).getD (qnan .f64)

theorem sum_nan_l {d : Ieee.Datum} (e : Ieee.Datum) (h : d.isNaN = true) : d.sum e = none := by
  cases d <;> simp_all [Ieee.Datum.isNaN, Ieee.Datum.sum]
theorem sum_nan_r (d : Ieee.Datum) {e : Ieee.Datum} (h : e.isNaN = true) : d.sum e = none := by
  cases e <;> cases d <;> simp_all [Ieee.Datum.isNaN, Ieee.Datum.sum]
theorem product_nan_l {d : Ieee.Datum} (e : Ieee.Datum) (h : d.isNaN = true) : d.product e = none := by
  cases d <;> simp_all [Ieee.Datum.isNaN, Ieee.Datum.product]
theorem product_nan_r (d : Ieee.Datum) {e : Ieee.Datum} (h : e.isNaN = true) : d.product e = none := by
  cases e <;> cases d <;> simp_all [Ieee.Datum.isNaN, Ieee.Datum.product]
theorem quotient_nan_l (n : Nat) {d : Ieee.Datum} (e : Ieee.Datum) (h : d.isNaN = true) : d.quotient n e = none := by
  cases d <;> simp_all [Ieee.Datum.isNaN, Ieee.Datum.quotient]
theorem quotient_nan_r (n : Nat) (d : Ieee.Datum) {e : Ieee.Datum} (h : e.isNaN = true) : d.quotient n e = none := by
  cases e <;> cases d <;> simp_all [Ieee.Datum.isNaN, Ieee.Datum.quotient]
theorem opposite_nan (d : Ieee.Datum) : d.opposite.isNaN = d.isNaN := by cases d <;> rfl
theorem root_nan (n : Nat) {d : Ieee.Datum} (h : d.isNaN = true) : d.root n = none := by
  cases d <;> simp_all [Ieee.Datum.isNaN, Ieee.Datum.root]
theorem order_nan_l {d : Ieee.Datum} (e : Ieee.Datum) (h : d.isNaN = true) : d.order e = none := by
  cases d <;> simp_all [Ieee.Datum.isNaN, Ieee.Datum.order]
theorem order_nan_r (d : Ieee.Datum) {e : Ieee.Datum} (h : e.isNaN = true) : d.order e = none := by
  cases e <;> cases d <;> simp_all [Ieee.Datum.isNaN, Ieee.Datum.order]

theorem floatBits_nan_l (op : BinOp) {k : FloatKind} {x : Nat} (y : Nat) (h : isNan k x = true) : floatBits op k x y = none := by
  have h' : (k.format.read x).isNaN = true := h
  cases op <;> simp only [floatBits]
  · unfold Ieee.Format.add; rw [sum_nan_l _ h']; rfl
  · unfold Ieee.Format.sub; rw [sum_nan_l _ h']; rfl
  · unfold Ieee.Format.mul; rw [product_nan_l _ h']; rfl
  · unfold Ieee.Format.div; rw [quotient_nan_l _ _ h']; rfl
theorem floatBits_nan_r (op : BinOp) {k : FloatKind} (x : Nat) {y : Nat} (h : isNan k y = true) : floatBits op k x y = none := by
  have h' : (k.format.read y).isNaN = true := h
  cases op <;> simp only [floatBits]
  · unfold Ieee.Format.add; rw [sum_nan_r _ h']; rfl
  · unfold Ieee.Format.sub; rw [sum_nan_r _ (by rw [opposite_nan]; exact h')]; rfl
  · unfold Ieee.Format.mul; rw [product_nan_r _ h']; rfl
  · unfold Ieee.Format.div; rw [quotient_nan_r _ _ h']; rfl

theorem floatBits_not {op : BinOp} {k : FloatKind} {x y r : Nat} (h : floatBits op k x y = some r) : isNan k r = false := by
  have key : ∀ (d : Option Ieee.Datum), (∀ e, d = some e → e.isNaN = false) → d.map k.format.write = some r → isNan k r = false := by
    intro d hd hm
    cases d with
    | none => cases hm
    | some e => simp only [Option.map_some, Option.some.injEq] at hm; subst hm; exact write_not k.format (hd e rfl)
  cases op <;> simp only [floatBits, reduceCtorEq] at h
  · exact key _ (fun e he => sum_not he) h
  · exact key _ (fun e he => sum_not he) h
  · exact key _ (fun e he => product_not he) h
  · exact key _ (fun e he => quotient_not he) h

/-- An operation sees only what a word stands for. -/
theorem floatBits_canon (op : BinOp) (k : FloatKind) (x y : Nat) : floatBits op k (canon k x) (canon k y) = floatBits op k x y := by
  by_cases hx : isNan k x = true
  · rw [floatBits_nan_l op _ hx, floatBits_nan_l op _ (by rw [isNan_canon]; exact hx)]
  · by_cases hy : isNan k y = true
    · rw [floatBits_nan_r op _ hy, floatBits_nan_r op _ (by rw [isNan_canon]; exact hy)]
    · rw [canon_not (by simpa using hx), canon_not (by simpa using hy)]

theorem order_canon (k : FloatKind) (x y : Nat) : k.format.order (canon k x) (canon k y) = k.format.order x y := by
  unfold Ieee.Format.order
  by_cases hx : isNan k x = true
  · have h1 : (k.format.read x).isNaN = true := hx
    have h2 : (k.format.read (canon k x)).isNaN = true := by have h := isNan_canon k x; rw [hx] at h; exact h
    rw [order_nan_l _ h1, order_nan_l _ h2]
  · by_cases hy : isNan k y = true
    · have h1 : (k.format.read y).isNaN = true := hy
      have h2 : (k.format.read (canon k y)).isNaN = true := by have h := isNan_canon k y; rw [hy] at h; exact h
      rw [order_nan_r _ h1, order_nan_r _ h2]
    · rw [canon_not (by simpa using hx), canon_not (by simpa using hy)]

theorem sqrt_canon (x : Nat) : FloatKind.f64.format.sqrt (canon .f64 x) = FloatKind.f64.format.sqrt x := by
  unfold Ieee.Format.sqrt
  by_cases hx : isNan .f64 x = true
  · have h1 : (FloatKind.f64.format.read x).isNaN = true := hx
    have h2 : (FloatKind.f64.format.read (canon .f64 x)).isNaN = true := by have h := isNan_canon .f64 x; rw [hx] at h; exact h
    rw [root_nan _ h1, root_nan _ h2]
  · rw [canon_not (by simpa using hx)]

/-- The NaN that the tape gives. -/
theorem cut_nan (k : FloatKind) (q : Question) (hq : q = .nanConv k 0 ∨ (∃ b, q = .nanConv k b) ∨ ∃ x y, q = .nanBits k x y) (t : Nat) : isNan k (q.cut t) = true ∧ q.cut t < 2 ^ k.format.width := by
  have key32 : ∀ t : Nat, isNan .f32 ((t % 2) * 2 ^ 31 + 0x7f800000 + 1 + (t / 2) % (2 ^ 23 - 1)) = true ∧ (t % 2) * 2 ^ 31 + 0x7f800000 + 1 + (t / 2) % (2 ^ 23 - 1) < 2 ^ 32 := by
    intro t
    have h1 : t % 2 < 2 := Nat.mod_lt _ (by decide)
    have h2 : (t / 2) % (2 ^ 23 - 1) < 2 ^ 23 - 1 := Nat.mod_lt _ (by decide)
    generalize t % 2 = a at *
    generalize (t / 2) % (2 ^ 23 - 1) = c at *
    refine ⟨?_, by omega⟩
    unfold isNan FloatKind.decode Ieee.Format.read
    have e1 : FloatKind.f32.format.signWeight = 2 ^ 31 := by decide
    have e2 : FloatKind.f32.format.binade = 2 ^ 23 := by decide
    have e3 : FloatKind.f32.format.infRung = 0x7f800000 := by decide
    have hr : (a * 2 ^ 31 + 0x7f800000 + 1 + c) % 2 ^ 31 = 0x7f800000 + 1 + c := by omega
    simp only [e1, e2, e3, hr]
    rw [if_neg (by omega), if_neg (by omega), if_neg (by omega)]
    rfl
  have key64 : ∀ t : Nat, isNan .f64 ((t % 2) * 2 ^ 63 + 0x7ff0000000000000 + 1 + (t / 2) % (2 ^ 52 - 1)) = true ∧ (t % 2) * 2 ^ 63 + 0x7ff0000000000000 + 1 + (t / 2) % (2 ^ 52 - 1) < 2 ^ 64 := by
    intro t
    have h1 : t % 2 < 2 := Nat.mod_lt _ (by decide)
    have h2 : (t / 2) % (2 ^ 52 - 1) < 2 ^ 52 - 1 := Nat.mod_lt _ (by decide)
    generalize t % 2 = a at *
    generalize (t / 2) % (2 ^ 52 - 1) = c at *
    refine ⟨?_, by omega⟩
    unfold isNan FloatKind.decode Ieee.Format.read
    have e1 : FloatKind.f64.format.signWeight = 2 ^ 63 := by decide
    have e2 : FloatKind.f64.format.binade = 2 ^ 52 := by decide
    have e3 : FloatKind.f64.format.infRung = 0x7ff0000000000000 := by decide
    have hr : (a * 2 ^ 63 + 0x7ff0000000000000 + 1 + c) % 2 ^ 63 = 0x7ff0000000000000 + 1 + c := by omega
    simp only [e1, e2, e3, hr]
    rw [if_neg (by omega), if_neg (by omega), if_neg (by omega)]
    rfl
  cases k
  · rcases hq with rfl | ⟨b, rfl⟩ | ⟨x, y, rfl⟩ <;> exact key32 t
  · rcases hq with rfl | ⟨b, rfl⟩ | ⟨x, y, rfl⟩ <;> exact key64 t

/-- A float's word: it fits, and stands for 'x'. -/
def FlIs (k : FloatKind) (b x : Nat) : Prop := b < 2 ^ k.format.width ∧ canon k b = x

theorem FlIs.canon_eq {k : FloatKind} {b x : Nat} (h : FlIs k b x) : canon k x = x := by
  have := h.2; rw [← this]; exact canon_canon k b

theorem FlIs.not {k : FloatKind} {b x : Nat} (h : FlIs k b x) (hx : isNan k x = false) : b = x := by
  rcases canon_cases h.2 with ⟨_, h2, _⟩ | ⟨_, h2⟩
  · rw [hx] at h2; cases h2
  · exact h2

theorem FlIs.isNan_eq {k : FloatKind} {b x : Nat} (h : FlIs k b x) : isNan k b = isNan k x := by
  rw [← h.2, isNan_canon]

theorem flIs_of_not {k : FloatKind} {b : Nat} (h : isNan k b = false) (hb : b < 2 ^ k.format.width) : FlIs k b b := ⟨hb, canon_not h⟩

section
variable {P : Program} (w : World)

/-- '+', '-', '*', '/': SOME word that stands for the result, in a world that has drawn once at most. -/
theorem run_farith {op : BinOp} (ho : op = .add ∨ op = .sub ∨ op = .mul ∨ op = .quo) (t : TypeId) {k : FloatKind} {a b x y : Nat} (ha : FlIs k a x) (hb : FlIs k b y) :
    ∃ r w', (binOp op t (.float k a) (.float k b)).run P w = .ok (.float k r) w' ∧ FlIs k r (farith op k x y) ∧ (w' = w ∨ w' = w.drew) := by
  have hc : floatBits op k x y = floatBits op k a b := by rw [← ha.2, ← hb.2, floatBits_canon]
  cases hf : floatBits op k a b with
  | some r =>
    refine ⟨r, w, run_float_arith w op t k a b r hf, ?_, .inl rfl⟩
    have hn := floatBits_not hf
    have hw := floatBits_wf hf
    refine ⟨?_, ?_⟩
    · cases k
      · have : r < 2 ^ 32 := by simpa [Lit.wf] using hw
        exact this
      · have : r < 2 ^ 64 := by simpa [Lit.wf] using hw
        exact this
    · rw [canon_not hn]; simp [farith, hc, hf]
  | none =>
    refine ⟨(Question.nanBits k a b).cut (w.tape w.drawn (.nanBits k a b)), w.drew, ?_, ?_, .inr rfl⟩
    · have : (binOp op t (.float k a) (.float k b)) = Op.floatArith op k a b := by
        rcases ho with rfl | rfl | rfl | rfl <;> simp [binOp]
      rw [this]
      rcases ho with rfl | rfl | rfl | rfl <;> simp only [floatBits] at hf <;> simp [Op.floatArith, hf, Question.forced]
    · have h := cut_nan k (.nanBits k a b) (.inr (.inr ⟨_, _, rfl⟩)) (w.tape w.drawn (.nanBits k a b))
      refine ⟨h.2, ?_⟩
      rw [canon_nan h.1]; simp [farith, hc, hf]

theorem flCmp {k : FloatKind} {a b x y : Nat} (ha : FlIs k a x) (hb : FlIs k b y) : k.format.order a b = k.format.order x y := by
  rw [← ha.2, ← hb.2, order_canon]
end

theorem negFloat_lt (k : FloatKind) {b : Nat} (h : b < 2 ^ k.format.width) : Op.negFloat k b < 2 ^ k.format.width := by
  unfold Op.negFloat
  apply Nat.xor_lt_two_pow h
  cases k <;> decide

theorem negFloat_mod (k : FloatKind) (b : Nat) : Op.negFloat k b % k.format.signWeight = b % k.format.signWeight := by
  unfold Op.negFloat Ieee.Format.signWeight
  rw [Nat.xor_mod_two_pow, Nat.mod_self, Nat.xor_zero]

theorem isNan_of_rung {k : FloatKind} {b c : Nat} (h : b % k.format.signWeight = c % k.format.signWeight) : isNan k b = isNan k c := by
  unfold isNan FloatKind.decode Ieee.Format.read Ieee.Datum.isNaN
  simp only [h]
  by_cases h1 : c % k.format.signWeight < k.format.binade
  · simp only [if_pos h1]
  · simp only [if_neg h1]
    by_cases h2 : c % k.format.signWeight < k.format.infRung
    · simp only [if_pos h2]
    · simp only [if_neg h2]
      by_cases h3 : c % k.format.signWeight = k.format.infRung
      · simp only [if_pos h3]
      · simp only [if_neg h3]

theorem isNan_negFloat (k : FloatKind) (b : Nat) : isNan k (Op.negFloat k b) = isNan k b := isNan_of_rung (negFloat_mod k b)

theorem flIs_neg {k : FloatKind} {b x : Nat} (h : FlIs k b x) : FlIs k (Op.negFloat k b) (fneg k x) := by
  refine ⟨negFloat_lt k h.1, ?_⟩
  unfold fneg
  by_cases hn : isNan k b = true
  · rw [canon_nan (by rw [isNan_negFloat]; exact hn), if_pos (by rw [← h.isNan_eq]; exact hn)]
  · have hn' : isNan k b = false := by simpa using hn
    rw [canon_not (by rw [isNan_negFloat]; exact hn'), if_neg (by rw [← h.isNan_eq]; exact hn)]
    have : b = x := h.not (by rw [← h.isNan_eq]; exact hn')
    rw [this]

/-! ### From one width to the other -/

/-- 'float64(x)', 'float32(x)': the nearest one; a NaN stays one. -/
def fcvt (s k : FloatKind) (x : Nat) : Nat := if isNan s x then qnan k else if s = k then x else k.encode (s.decode x)

/-- A finite number keeps finite (else the language leaves the result open). -/
def cvtFits (s k : FloatKind) (x : Nat) : Bool :=
  s == k || match s.decode x with
  | .number n m e => !(k.decode (k.encode (.number n m e))).isInfinity
  | _ => true

theorem encode_flIs (k : FloatKind) {d : Ieee.Datum} (h : d.isNaN = false) : FlIs k (k.encode d) (k.encode d) :=
  flIs_of_not (encode_not k h) (k.format.write_lt d)

theorem run_fcvt {P : Program} (w : World) {s k : FloatKind} {b x : Nat} (hb : FlIs s b x) (hfit : cvtFits s k x = true) :
    ∃ r w', (Conv.floatToFloat s b k).run P w = .ok (.float k r) w' ∧ FlIs k r (fcvt s k x) ∧ (w' = w ∨ w' = w.drew) := by
  unfold Conv.floatToFloat fcvt
  by_cases hk : s = k
  · subst hk
    refine ⟨b, w, by simp, ?_, .inl rfl⟩
    by_cases hn : isNan s x = true
    · rw [if_pos hn]; refine ⟨hb.1, ?_⟩; rw [canon_nan (by rw [hb.isNan_eq]; exact hn)]
    · rw [if_neg hn, if_pos rfl]; exact hb
  · by_cases hn : isNan s b = true
    · obtain ⟨sg, f, hd⟩ := decode_nan hn
      have h := cut_nan k (.nanConv k b) (.inr (.inl ⟨_, rfl⟩)) (w.tape w.drawn (.nanConv k b))
      have hd' : s.decode b = .nan sg f := hd
      refine ⟨(Question.nanConv k b).cut (w.tape w.drawn (.nanConv k b)), w.drew, ?_, ⟨h.2, ?_⟩, .inr rfl⟩
      · simp [hk, hd', Question.forced]
      · rw [canon_nan h.1, if_pos (by rw [← hb.isNan_eq]; exact hn)]
    · have hn' : isNan s b = false := by simpa using hn
      have hx : b = x := hb.not (by rw [← hb.isNan_eq]; exact hn')
      subst hx
      rw [if_neg hn, if_neg hk, if_neg hk]
      unfold cvtFits at hfit
      cases hd : s.decode b with
      | nan sg f => unfold isNan at hn'; rw [hd] at hn'; cases hn'
      | infinity sg => exact ⟨_, w, by simp, encode_flIs k rfl, .inl rfl⟩
      | number sg m e =>
        simp only [hd] at hfit
        have hfit' : ((k.decode (k.encode (.number sg m e))).isInfinity) = false := by
          have : (s == k) = false := by simpa using hk
          simpa [this] using hfit
        refine ⟨_, w, ?_, encode_flIs k rfl, .inl rfl⟩
        simp [hfit']

theorem read_single (x : Nat) {s : Bool} {m : Nat} {e : Int} (h : FloatKind.f32.decode x = .number s m e) : m < 2 ^ 24 ∧ -149 ≤ e ∧ e ≤ 104 := by
  unfold FloatKind.decode Ieee.Format.read at h
  have e1 : FloatKind.f32.format.signWeight = 2 ^ 31 := by decide
  have e2 : FloatKind.f32.format.binade = 2 ^ 23 := by decide
  have e3 : FloatKind.f32.format.infRung = 0x7f800000 := by decide
  have e4 : FloatKind.f32.format.leastPlace = -149 := by decide
  simp only [e1, e2, e3, e4] at h
  split at h
  · simp only [Ieee.Datum.number.injEq] at h
    obtain ⟨_, h1, h2⟩ := h
    omega
  · split at h
    · simp only [Ieee.Datum.number.injEq] at h
      obtain ⟨_, h1, h2⟩ := h
      generalize x % 2 ^ 31 = r at *
      omega
    · split at h <;> cases h

theorem min_lt_big (A B : Nat) (h4 : A ≤ 1150 * 2 ^ 52) (hk : B < 2 ^ 53) : min (A + B) 0x7ff0000000000000 < 0x7ff0000000000000 := by
  have h5 := Nat.min_le_left (A + B) 0x7ff0000000000000
  have h6 : A + B < 0x7ff0000000000000 := by
    have : 1150 * 2 ^ 52 + 2 ^ 53 ≤ 0x7ff0000000000000 := by decide
    omega
  exact Nat.lt_of_le_of_lt h5 h6

/-- The nearest word of a number that has room. -/
theorem nearest_double_fin (neg : Bool) {m : Nat} {e : Int} (hm : m < 2 ^ 24) (he : -149 ≤ e) (he' : e ≤ 104) : ((Ieee.double.read (Ieee.double.nearest neg m e)).isInfinity) = false := by
  have e1 : Ieee.double.signWeight = 2 ^ 63 := by decide
  have e2 : Ieee.double.binade = 2 ^ 52 := by decide
  have e3 : Ieee.double.infRung = 0x7ff0000000000000 := by decide
  have e4 : Ieee.double.leastPlace = -1074 := by decide
  have e5 : Ieee.double.fractionBits = 52 := rfl
  have key : ∃ r, r < 0x7ff0000000000000 ∧ Ieee.double.nearest neg m e = Ieee.double.word neg r := by
    unfold Ieee.Format.nearest
    by_cases h0 : m = 0
    · exact ⟨0, by decide, by rw [if_pos h0]⟩
    · rw [if_neg h0]
      have hl : m.log2 < 24 := (Nat.log2_lt h0).2 hm
      have hm2 : m < 2 ^ (m.log2 + 1) := Nat.lt_log2_self
      simp only [e2, e3, e4, e5]
      have hlast : max (e + m.log2 - (52 : Nat)) (-1074 : Int) = e + m.log2 - 52 := by omega
      rw [hlast]
      have hd : (e + m.log2 - 52 - e).toNat = 0 := by omega
      have hs : (e - (e + m.log2 - 52)).toNat = 52 - m.log2 := by omega
      rw [hd, hs]
      have hcut : ∀ n, Ieee.Toward.even.cut neg n 0 = n := by
        intro n
        unfold Ieee.Toward.cut
        simp [Nat.mod_one]
      rw [hcut, Nat.shiftLeft_eq]
      have hk : m * 2 ^ (52 - m.log2) < 2 ^ 53 := by
        have : m * 2 ^ (52 - m.log2) < 2 ^ (m.log2 + 1) * 2 ^ (52 - m.log2) := Nat.mul_lt_mul_of_pos_right hm2 (Nat.two_pow_pos _)
        rw [← Nat.pow_add, show m.log2 + 1 + (52 - m.log2) = 53 by omega] at this
        exact this
      refine ⟨_, ?_, rfl⟩
      have h3 : (e + m.log2 - 52 - -1074).toNat ≤ 1150 := by omega
      exact min_lt_big _ _ (Nat.mul_le_mul_right _ h3) hk
  obtain ⟨r, hr, hn⟩ := key
  rw [hn]
  have hmod : (Ieee.double.word neg r) % Ieee.double.signWeight = r := by
    unfold Ieee.Format.word
    rw [e1]
    split <;> omega
  unfold Ieee.Format.read
  simp only [hmod, e2, e3]
  split
  · rfl
  · first | rfl | (rw [if_pos hr]; rfl)

theorem cvtFits_wide (x : Nat) : cvtFits .f32 .f64 x = true := by
  unfold cvtFits
  cases h : FloatKind.f32.decode x with
  | nan s f => simp
  | infinity s => simp
  | number s m e =>
    obtain ⟨h1, h2, h3⟩ := read_single x h
    have := nearest_double_fin s h1 h2 h3
    have h4 : (FloatKind.f64.decode (FloatKind.f64.encode (.number s m e))).isInfinity = false := this
    simp [h4]

/-! ### Whole numbers -/

def fint (k : FloatKind) (n : Int) : Nat := k.nearest n

theorem flIs_int (k : FloatKind) (n : Int) : FlIs k (k.nearest n) (fint k n) := encode_flIs k rfl

/-- 'int64(x)' where it is told. -/
def ftoi (s : FloatKind) (k : IntKind) (x : Nat) : Option Int := floatToIntVal s x k

theorem floatToIntVal_canon (s : FloatKind) (k : IntKind) (b : Nat) : floatToIntVal s (canon s b) k = floatToIntVal s b k := by
  by_cases hn : isNan s b = true
  · obtain ⟨sg, f, hd⟩ := decode_nan hn
    obtain ⟨sg', f', hd'⟩ := decode_nan (nan_qnan s)
    rw [canon_nan hn]
    have e1 : s.decode b = .nan sg f := hd
    have e2 : s.decode (qnan s) = .nan sg' f' := hd'
    simp [floatToIntVal, e1, e2, Ieee.Datum.toInt, Ieee.Datum.integral]
  · rw [canon_not (by simpa using hn)]

/-! ### Without the sign -/

def fabs (k : FloatKind) (x : Nat) : Nat := if isNan k x then qnan k else x % k.format.signWeight

theorem flIs_abs64 {b x : Nat} (h : FlIs .f64 b x) : FlIs .f64 (b % 2 ^ 63) (fabs .f64 x) := by
  have hw : FloatKind.f64.format.signWeight = 2 ^ 63 := by decide
  have hlt : b % 2 ^ 63 < 2 ^ FloatKind.f64.format.width := by
    have h1 : b % 2 ^ 63 < 2 ^ 63 := Nat.mod_lt _ (by decide)
    have h2 : (2 : Nat) ^ 63 ≤ 2 ^ FloatKind.f64.format.width := by decide
    omega
  have hn : isNan .f64 (b % 2 ^ 63) = isNan .f64 b := isNan_of_rung (by rw [hw]; simp)
  refine ⟨hlt, ?_⟩
  unfold fabs
  by_cases hb : isNan .f64 b = true
  · rw [canon_nan (by rw [hn]; exact hb), if_pos (by rw [← h.isNan_eq]; exact hb)]
  · have hb' : isNan .f64 b = false := by simpa using hb
    rw [canon_not (by rw [hn]; exact hb'), if_neg (by rw [← h.isNan_eq]; exact hb), hw, h.not (by rw [← h.isNan_eq]; exact hb')]

theorem andNot_sign {b : Nat} (h : b < 2 ^ FloatKind.f64.format.width) : Go.bits .andNot .u64 b 9223372036854775808 = ((b % 2 ^ 63 : Nat) : Int) := by
  have hb : b < 2 ^ 64 := h
  unfold Go.bits
  have e : (BitVec.ofInt 64 (b : Int) &&& ~~~(BitVec.ofInt 64 9223372036854775808)).toNat = b % 2 ^ 63 := by
    have e1 : BitVec.ofInt 64 (b : Int) = BitVec.ofNat 64 b := by simp
    have e2 : ~~~(BitVec.ofInt 64 9223372036854775808) = BitVec.ofNat 64 (2 ^ 63 - 1) := by decide
    rw [e1, e2]
    simp only [BitVec.toNat_and, BitVec.toNat_ofNat]
    rw [Nat.mod_eq_of_lt hb, Nat.mod_eq_of_lt (by decide : 2 ^ 63 - 1 < 2 ^ 64), Nat.and_two_pow_sub_one_eq_mod]
  show IntKind.u64.wrap ((BitVec.ofInt IntKind.u64.bits (b : Int) &&& ~~~(BitVec.ofInt IntKind.u64.bits 9223372036854775808)).toNat) = _
  rw [show IntKind.u64.bits = 64 from rfl, e]
  have : b % 2 ^ 63 < 2 ^ 63 := Nat.mod_lt _ (by decide)
  exact IntWalk.u64_in _ (by omega)

end Go.Proofs.Ytdmcpgbnomhahaa
