/-
  The symbolic walk, its operations: what each is reckoned to give, and that the model gives just that. No conditions.
-/
import Derived.Test.YtdmcpgbnomhahaaEv
namespace Go.Proofs.Ytdmcpgbnomhahaa
set_option linter.unusedVariables false
set_option linter.unusedSimpArgs false
open Go.RowKit

/-! ### Operands, slots -/

def ofVal : Value → AV
  | .float k b => if b < 2 ^ k.format.width then .one (.fl k (canon k b)) else .any
  | .int k n => .one (.int k n)
  | .bool b => .one (.tt b)
  | .string s => .one (.str s)
  | .agg _ => .any
  | .tuple _ => .any
  | v => .one (.val v)

theorem ofVal_ok (ρ : Rho) (v : Value) : (ofVal v).rel ρ v := by
  cases v <;> simp only [ofVal]
  case float k b =>
    split
    · exact ⟨b, rfl, by assumption, rfl⟩
    · trivial
  all_goals first | trivial | exact ⟨rfl, rfl⟩ | rfl

def evOpd (sl : List AV) : Operand → AV
  | .tmp t => sl.getD t .und
  | .const v => ofVal v
  | .global _ => .any
  | .func f => .one (.fn f [])

def SlotsOK (ρ : Rho) (sl : List AV) (tmps : Array Value) : Prop := sl.length = tmps.size ∧ ∀ t, (sl.getD t .und).rel ρ (tmps.getD t undef)

theorem evOpd_ok {ρ : Rho} {sl : List AV} {a : Act} (h : SlotsOK ρ sl a.tmps) (x : Operand) : (evOpd sl x).rel ρ (a.eval x) := by
  cases x with
  | tmp t => exact h.2 t
  | const v => exact ofVal_ok ρ v
  | global g => trivial
  | func f => exact ⟨#[], rfl, trivial⟩

theorem SlotsOK.mono {ρ ρ' : Rho} (hle : ρ.le ρ') {sl : List AV} {tmps : Array Value} (h : SlotsOK ρ sl tmps) : SlotsOK ρ' sl tmps :=
  ⟨h.1, fun t => AV.rel_mono hle (h.2 t)⟩

def putSl (sl : List AV) (dst : Option Tmp) (r : AV) : List AV := match dst with | some d => sl.set d r | none => sl

theorem SlotsOK.put {ρ : Rho} {sl : List AV} {a : Act} (h : SlotsOK ρ sl a.tmps) (dst : Option Tmp) {r : AV} {v : Value} (hr : r.rel ρ v) : SlotsOK ρ (putSl sl dst r) (a.put dst v).tmps := by
  cases dst with
  | none => exact h
  | some d =>
    refine ⟨by simp [putSl, Act.put, h.1], fun t => ?_⟩
    have e1 : (sl.set d r).getD t .und = if d = t ∧ t < sl.length then r else sl.getD t .und := by
      simp only [List.getD, List.getElem?_set]
      by_cases hd : d = t
      · subst hd
        by_cases hl : d < sl.length
        · simp [hl]
        · simp [hl]
      · simp [hd]
    have e2 : (a.tmps.setIfInBounds d v).getD t undef = if d = t ∧ t < a.tmps.size then v else a.tmps.getD t undef := by
      simp only [Array.getD_eq_getD_getElem?, Array.getElem?_setIfInBounds]
      by_cases hd : d = t
      · subst hd
        by_cases hl : d < a.tmps.size
        · simp [hl]
        · simp [hl]
      · simp [hd]
    show ((sl.set d r).getD t .und).rel ρ ((a.tmps.setIfInBounds d v).getD t undef)
    rw [e1, e2, h.1]
    split
    · exact hr
    · exact h.2 t

/-! ### What an operation without calls gives -/

def SemOK (P : Program) (ρ : Rho) (w : World) (N : Nat) (m : Sem Value) (t : T (AV × Mem)) : Prop :=
  ∀ next : Value → World → Prop, (t.holds fun r => ∀ ρ' w' v, New ρ ρ' w w' N r.2 → r.1.rel ρ' v → next v w') → ∃ v w', m.run P w = .ok v w' ∧ next v w'

def pureT (t : T AV) : T (AV × Mem) := t.map fun r => (r, [])

def PureOK (P : Program) (ρ : Rho) (w : World) (m : Sem Value) (t : T AV) : Prop :=
  ∀ next : Value → World → Prop, (t.holds fun r => ∀ w' v, (w' = w ∨ w' = w.drew) → r.rel ρ v → next v w') → ∃ v w', m.run P w = .ok v w' ∧ next v w'

theorem PureOK.sem {P : Program} {ρ : Rho} {w : World} {N : Nat} {m : Sem Value} {t : T AV} (hd : ∀ id, N ≤ id → ρ id = none) (h : PureOK P ρ w m t) : SemOK P ρ w N m (pureT t) := by
  intro next ht
  refine h next (T.holds_mono (T.holds_map ht) fun r hr w' v hw hv => hr ρ w' v (New.refl ρ w w' N hd ?_) hv)
  rcases hw with rfl | rfl
  · exact Below.refl _ _
  · exact (Below.refl _ _).drew

theorem PureOK.leaf {P : Program} {ρ : Rho} {w : World} {m : Sem Value} {r : AV} {v : Value} (hr : m.run P w = .ok v w) (hv : r.rel ρ v) : PureOK P ρ w m (.leaf r) :=
  fun _ h => ⟨v, w, hr, h w v (.inl rfl) hv⟩
theorem PureOK.leaf' {P : Program} {ρ : Rho} {w : World} {m : Sem Value} {r : AV} (h : ∃ v w', m.run P w = .ok v w' ∧ r.rel ρ v ∧ (w' = w ∨ w' = w.drew)) : PureOK P ρ w m (.leaf r) :=
  fun _ hn => let ⟨v, w', h1, h2, h3⟩ := h; ⟨v, w', h1, hn w' v h3 h2⟩
theorem PureOK.fail {P : Program} {ρ : Rho} {w : World} {m : Sem Value} : PureOK P ρ w m .fail := fun _ h => h.elim
theorem PureOK.need {P : Program} {ρ : Rho} {w : World} {m : Sem Value} {c : Bool} {t : T AV} (h : c = true → PureOK P ρ w m t) : PureOK P ρ w m (.need c t) := fun n hn => h hn.1 n hn.2
theorem PureOK.ite {P : Program} {ρ : Rho} {w : World} {m : Sem Value} {c : Bool} {t e : T AV} (h : c = true → PureOK P ρ w m t) (k : c = false → PureOK P ρ w m e) : PureOK P ρ w m (.ite c t e) := by
  intro n hn
  cases hc : c with
  | true => exact h hc n (hn.1 hc)
  | false => exact k hc n (hn.2 hc)

/-- The same, and nothing is drawn. -/
def StillOK (P : Program) (ρ : Rho) (w : World) (m : Sem Value) (t : T AV) : Prop :=
  ∀ next : Value → Prop, (t.holds fun r => ∀ v, r.rel ρ v → next v) → ∃ v, m.run P w = .ok v w ∧ next v

theorem StillOK.pure {P : Program} {ρ : Rho} {w : World} {m : Sem Value} {t : T AV} (h : StillOK P ρ w m t) : PureOK P ρ w m t := fun next hn =>
  let ⟨v, h1, h2⟩ := h (fun v => next v w) (T.holds_mono hn fun _ hr v hv => hr w v (.inl rfl) hv)
  ⟨v, w, h1, h2⟩
theorem StillOK.leaf {P : Program} {ρ : Rho} {w : World} {m : Sem Value} {r : AV} {v : Value} (hr : m.run P w = .ok v w) (hv : r.rel ρ v) : StillOK P ρ w m (.leaf r) :=
  fun _ h => ⟨v, hr, h v hv⟩
theorem StillOK.fail {P : Program} {ρ : Rho} {w : World} {m : Sem Value} : StillOK P ρ w m .fail := fun _ h => h.elim
theorem StillOK.need {P : Program} {ρ : Rho} {w : World} {m : Sem Value} {c : Bool} {t : T AV} (h : c = true → StillOK P ρ w m t) : StillOK P ρ w m (.need c t) := fun n hn => h hn.1 n hn.2

/-- An operation that hands back a value, from what it is as a computation. -/
theorem wp_val {P : Program} {o : Oper} {a : Act} {w w' : World} {v : Value} {m : Sem Value} {K : Act → World → Prop} {Q : Exit → Act → World → Prop}
    (he : execOp a.eval o = (do let u ← m; pure (.value u))) (hr : m.run P w = .ok v w') (hk : K (a.put o.dst v) w') : o.wp P a w K Q := by
  unfold Oper.wp
  rw [he, Sem.run_bind, hr]
  exact hk

/-! ### Arithmetic -/

def SV.int? : SV → Option (IntKind × Int × Bool)
  | .int k n => some (k, n, true)
  | .num k n => some (k, n, false)
  | _ => none
def SV.bool? : SV → Option (Bool × Bool)
  | .tt b => some (b, true)
  | .bo b => some (b, false)
  | _ => none
def mkInt (known : Bool) (k : IntKind) (n : Int) : SV := match known with | true => .int k n | false => .num k n
def mkBool (known : Bool) (b : Bool) : SV := match known with | true => .tt b | false => .bo b

/-- Known numbers are compared so that a number 'k + 17' is seen to be over 16. -/
def ltI : Int → Int → Bool
  | .ofNat a, .ofNat b => Nat.ble (a + 1) b
  | .negSucc a, .negSucc b => Nat.ble (b + 1) a
  | .negSucc _, .ofNat _ => true
  | .ofNat _, .negSucc _ => false

theorem ltI_eq (n m : Int) : ltI n m = decide (n < m) := by
  cases n with
  | ofNat a =>
    cases m with
    | ofNat b => unfold ltI; rw [Bool.eq_iff_iff, Nat.ble_eq, decide_eq_true_iff]; simp only [Int.ofNat_eq_natCast]; omega
    | negSucc b => unfold ltI; symm; rw [decide_eq_false_iff_not]; simp only [Int.ofNat_eq_natCast]; omega
  | negSucc a =>
    cases m with
    | ofNat b => unfold ltI; symm; rw [decide_eq_true_iff]; simp only [Int.ofNat_eq_natCast]; omega
    | negSucc b => unfold ltI; rw [Bool.eq_iff_iff, Nat.ble_eq, decide_eq_true_iff]; omega

def mkLt (known : Bool) (n m : Int) : SV := match known with | true => .tt (ltI n m) | false => .bo (decide (n < m))
def mkLe (known : Bool) (n m : Int) : SV := match known with | true => .tt (!ltI m n) | false => .bo (decide (n ≤ m))

theorem mkLt_rel {ρ : Rho} {kn : Bool} {n m : Int} : (mkLt kn n m).rel ρ (.bool (decide (n < m))) := by
  cases kn with
  | true => show Value.bool _ = Value.bool _; rw [ltI_eq]
  | false => rfl
theorem mkLe_rel {ρ : Rho} {kn : Bool} {n m : Int} : (mkLe kn n m).rel ρ (.bool (decide (n ≤ m))) := by
  cases kn with
  | true =>
    show Value.bool _ = Value.bool _
    rw [ltI_eq]
    congr 1
    by_cases h : n ≤ m
    · rw [decide_eq_true h, decide_eq_false (by omega)]; rfl
    · rw [decide_eq_false h, decide_eq_true (by omega)]; rfl
  | false => rfl

theorem mkInt_rel {ρ : Rho} {kn : Bool} {k : IntKind} {n : Int} : (mkInt kn k n).rel ρ (.int k n) := by cases kn <;> rfl
theorem mkBool_rel {ρ : Rho} {kn b : Bool} : (mkBool kn b).rel ρ (.bool b) := by cases kn <;> rfl
theorem int?_rel {ρ : Rho} {s : SV} {k : IntKind} {n : Int} {kn : Bool} {v : Value} (h : s.int? = some (k, n, kn)) (hr : s.rel ρ v) : v = .int k n := by
  cases s <;> simp [SV.int?] at h
  · obtain ⟨rfl, rfl, rfl⟩ := h; exact hr
  · obtain ⟨rfl, rfl, rfl⟩ := h; exact hr
theorem bool?_rel {ρ : Rho} {s : SV} {b kn : Bool} {v : Value} (h : s.bool? = some (b, kn)) (hr : s.rel ρ v) : v = .bool b := by
  cases s <;> simp [SV.bool?] at h
  · obtain ⟨rfl, rfl⟩ := h; exact hr
  · obtain ⟨rfl, rfl⟩ := h; exact hr

def evFloat (op : BinOp) (k : FloatKind) (x y : Nat) : T AV :=
  match op with
  | .add => .leaf (.one (.fl k (fadd k x y)))
  | .sub => .leaf (.one (.fl k (fsub k x y)))
  | .mul => .leaf (.one (.fl k (fmul k x y)))
  | .quo => .leaf (.one (.fl k (fdiv k x y)))
  | .eql => .leaf (.one (.bo (feq k x y)))
  | .neq => .leaf (.one (.bo (!feq k x y)))
  | .lss => .leaf (.one (.bo (flt k x y)))
  | .leq => .leaf (.one (.bo (fle k x y)))
  | .gtr => .leaf (.one (.bo (fgt k x y)))
  | .geq => .leaf (.one (.bo (fge k x y)))
  | _ => .fail

def evInt (op : BinOp) (k : IntKind) (n m : Int) (kn : Bool) : T AV :=
  match op with
  | .add => .leaf (.one (mkInt kn k (k.wrap (n + m))))
  | .sub => .leaf (.one (mkInt kn k (k.wrap (n - m))))
  | .mul => .leaf (.one (mkInt kn k (k.wrap (n * m))))
  | .quo => .need (!decide (m = 0)) (.leaf (.one (mkInt kn k (k.wrap (n.tdiv m)))))
  | .rem => .need (!decide (m = 0)) (.leaf (.one (mkInt kn k (n.tmod m))))
  | .and => .leaf (.one (mkInt kn k (Go.bits .and k n m)))
  | .or => .leaf (.one (mkInt kn k (Go.bits .or k n m)))
  | .xor => .leaf (.one (mkInt kn k (Go.bits .xor k n m)))
  | .andNot => .leaf (.one (mkInt kn k (Go.bits .andNot k n m)))
  | .eql => .leaf (.one (mkBool kn (decide (n = m))))
  | .neq => .leaf (.one (mkBool kn (!decide (n = m))))
  | .lss => .leaf (.one (mkLt kn n m))
  | .leq => .leaf (.one (mkLe kn n m))
  | .gtr => .leaf (.one (mkLt kn m n))
  | .geq => .leaf (.one (mkLe kn m n))
  | _ => .fail

def evShift (op : BinOp) (k : IntKind) (n m : Int) (kn : Bool) : T AV :=
  match op with
  | .shl => .need (decide (0 ≤ m)) (.leaf (.one (mkInt kn k (k.wrap (n * 2 ^ (min m.toNat k.bits))))))
  | .shr => .need (decide (0 ≤ m)) (.leaf (.one (mkInt kn k (n.fdiv (2 ^ (min m.toNat k.bits))))))
  | _ => .fail

def evStr (op : BinOp) (s u : ByteArray) : T AV :=
  match op with
  | .add => .need (!decide (((s.size + u.size : Nat) : Int) > IntKind.i64.max)) (.leaf (.one (.str (s ++ u))))
  | .eql => .leaf (.one (.bo (s.toList == u.toList)))
  | .neq => .leaf (.one (.bo (!(s.toList == u.toList))))
  | .lss => .leaf (.one (.bo (Op.bytesLess s.toList u.toList)))
  | .leq => .leaf (.one (.bo (Op.bytesLess s.toList u.toList || s.toList == u.toList)))
  | .gtr => .leaf (.one (.bo (!(Op.bytesLess s.toList u.toList || s.toList == u.toList))))
  | .geq => .leaf (.one (.bo (!Op.bytesLess s.toList u.toList)))
  | _ => .fail

def evBool (op : BinOp) (x y kn : Bool) : T AV :=
  match op with
  | .eql => .leaf (.one (mkBool kn (x == y)))
  | .neq => .leaf (.one (mkBool kn (x != y)))
  | _ => .fail

/-- The bits without the sign. -/
def evBitOp (op : BinOp) (k : FloatKind) (x : Nat) (q : IntKind) (n : Int) : T AV :=
  match op with
  | .andNot => if q = .u64 ∧ k = .f64 ∧ n = 9223372036854775808 then .leaf (.one (.bt .f64 (fabs .f64 x))) else .fail
  | _ => .fail

def evBin (P : Program) (op : BinOp) (t : TypeId) (a b : SV) : T AV :=
  match a, b with
  | .fl k x, .fl k' y => if k = k' then evFloat op k x y else .fail
  | .str s, .str u => evStr op s u
  | .bt k x, .int q n => evBitOp op k x q n
  | a, b =>
    match a.int?, b.int? with
    | some (k, n, kn), some (k', m, km) =>
      match op with
      | .shl => evShift .shl k n m (kn && km)
      | .shr => evShift .shr k n m (kn && km)
      | op => if k = k' then evInt op k n m (kn && km) else .fail
    | _, _ =>
      match a.bool?, b.bool?, P.underlying t with
      | some (x, kx), some (y, ky), some .bool => evBool op x y (kx && ky)
      | _, _, _ => .fail

theorem evFloat_ok {P : Program} {ρ : Rho} {w : World} (op : BinOp) (t : TypeId) {k : FloatKind} {a b x y : Nat} (ha : FlIs k a x) (hb : FlIs k b y) :
    PureOK P ρ w (binOp op t (.float k a) (.float k b)) (evFloat op k x y) := by
  have hc := flCmp ha hb
  cases op <;> simp only [evFloat] <;> first | exact .fail | skip
  case add => obtain ⟨r, w', h1, h2, h3⟩ := run_farith (P := P) w (op := .add) (.inl rfl) t ha hb; exact .leaf' ⟨_, _, h1, ⟨r, rfl, h2⟩, h3⟩
  case sub => obtain ⟨r, w', h1, h2, h3⟩ := run_farith (P := P) w (op := .sub) (.inr (.inl rfl)) t ha hb; exact .leaf' ⟨_, _, h1, ⟨r, rfl, h2⟩, h3⟩
  case mul => obtain ⟨r, w', h1, h2, h3⟩ := run_farith (P := P) w (op := .mul) (.inr (.inr (.inl rfl))) t ha hb; exact .leaf' ⟨_, _, h1, ⟨r, rfl, h2⟩, h3⟩
  case quo => obtain ⟨r, w', h1, h2, h3⟩ := run_farith (P := P) w (op := .quo) (.inr (.inr (.inr rfl))) t ha hb; exact .leaf' ⟨_, _, h1, ⟨r, rfl, h2⟩, h3⟩
  case eql => exact .leaf (by rw [binOp_float_cmp_eql]; rfl) (by show _ = _; unfold feq; rw [hc])
  case neq => exact .leaf (by rw [binOp_float_cmp_neq]; rfl) (by show _ = _; unfold feq; rw [hc]; rfl)
  case lss => exact .leaf (by rw [binOp_float_cmp_lss]; rfl) (by show _ = _; unfold flt; rw [hc])
  case leq => exact .leaf (by rw [binOp_float_cmp_leq]; rfl) (by show _ = _; unfold fle; rw [hc])
  case gtr => exact .leaf (by rw [binOp_float_cmp_gtr]; rfl) (by show _ = _; unfold fgt; rw [hc])
  case geq => exact .leaf (by rw [binOp_float_cmp_geq]; rfl) (by show _ = _; unfold fge; rw [hc])

theorem evInt_ok {P : Program} {ρ : Rho} {w : World} (op : BinOp) (t : TypeId) (k : IntKind) (n m : Int) (kn : Bool) :
    PureOK P ρ w (binOp op t (.int k n) (.int k m)) (evInt op k n m kn) := by
  cases op <;> simp only [evInt] <;> first | exact .fail | skip
  case add => exact .leaf (by rw [binOp_add]; rfl) mkInt_rel
  case sub => exact .leaf (by rw [binOp_sub]; rfl) mkInt_rel
  case mul => exact .leaf (by rw [binOp_mul]; rfl) mkInt_rel
  case quo => exact .need fun h => .leaf (by rw [binOp_quo]; have : m ≠ 0 := by simpa using h
                                             simp [Op.intDiv, this]) mkInt_rel
  case rem => exact .need fun h => .leaf (by rw [binOp_rem]; have : m ≠ 0 := by simpa using h
                                             simp [Op.intDiv, this]) mkInt_rel
  case and => exact .leaf (by rw [binOp_and]; rfl) mkInt_rel
  case or => exact .leaf (by rw [binOp_or]; rfl) mkInt_rel
  case xor => exact .leaf (by rw [binOp_xor]; rfl) mkInt_rel
  case andNot => exact .leaf (by rw [binOp_andNot]; rfl) mkInt_rel
  case eql => exact .leaf (by rw [binOp_eql]; rfl) mkBool_rel
  case neq => exact .leaf (by rw [binOp_neq]; rfl) mkBool_rel
  case lss => exact .leaf (by rw [binOp_lss]; rfl) mkLt_rel
  case leq => exact .leaf (by rw [binOp_leq]; rfl) mkLe_rel
  case gtr => exact .leaf (by rw [binOp_gtr]; rfl) mkLt_rel
  case geq => exact .leaf (by rw [binOp_geq]; rfl) mkLe_rel

theorem evShift_ok {P : Program} {ρ : Rho} {w : World} (op : BinOp) (ho : op = .shl ∨ op = .shr) (t : TypeId) (k k' : IntKind) (n m : Int) (kn : Bool) :
    PureOK P ρ w (binOp op t (.int k n) (.int k' m)) (evShift op k n m kn) := by
  rcases ho with rfl | rfl
  · refine .need fun h => .leaf ?_ mkInt_rel
    have h' : ¬ m < 0 := by have : 0 ≤ m := by simpa using h
                            omega
    rw [binOp_shl]; simp [Op.shift, h']
  · refine .need fun h => .leaf ?_ mkInt_rel
    have h' : ¬ m < 0 := by have : 0 ≤ m := by simpa using h
                            omega
    rw [binOp_shr]; simp [Op.shift, h']

theorem binOp_str (op : BinOp) (t : TypeId) (s u : ByteArray) : binOp op t (.string s) (.string u) = Op.stringOp op s u := by
  cases op <;> rfl

theorem evStr_ok {P : Program} {ρ : Rho} {w : World} (op : BinOp) (t : TypeId) (s u : ByteArray) :
    PureOK P ρ w (binOp op t (.string s) (.string u)) (evStr op s u) := by
  rw [binOp_str]
  cases op <;> simp only [evStr] <;> first | exact .fail | skip
  case add =>
    refine .need fun h => .leaf ?_ rfl
    have h' : ¬ (((s.size + u.size : Nat) : Int) > IntKind.i64.max) := by simpa using h
    show Sem.run P (if _ then _ else _) w = _
    rw [if_neg h']; rfl
  all_goals exact .leaf rfl rfl

theorem evBool_ok {P : Program} {ρ : Rho} {w : World} (op : BinOp) (t : TypeId) (ht : P.underlying t = some .bool) (x y kn : Bool) :
    PureOK P ρ w (binOp op t (.bool x) (.bool y)) (evBool op x y kn) := by
  cases op <;> simp only [evBool] <;> first | exact .fail | skip
  · exact .leaf (run_eql_bool w t x y ht) mkBool_rel
  · refine .leaf ?_ mkBool_rel
    have h := run_eql_bool w t x y ht
    have e1 : binOp .eql t (.bool x) (.bool y) = (do pure (.bool (← Op.equal t (.bool x) (.bool y)))) := rfl
    have e2 : binOp .neq t (.bool x) (.bool y) = (do pure (.bool (!(← Op.equal t (.bool x) (.bool y))))) := rfl
    rw [e1, Sem.run_bind] at h
    rw [e2, Sem.run_bind]
    generalize (Op.equal t (.bool x) (.bool y)).run P w = r at *
    cases r with
    | ok b w1 =>
      simp only [Result.andThen, Sem.run_pure, Result.ok.injEq, Value.bool.injEq] at h ⊢
      obtain ⟨rfl, rfl⟩ := h
      exact ⟨rfl, rfl⟩
    | halt _ _ => cases h

theorem evBitOp_ok {P : Program} {ρ : Rho} {w : World} (op : BinOp) (t : TypeId) {k : FloatKind} {b x : Nat} (hb : FlIs k b x) (q : IntKind) (n : Int) :
    PureOK P ρ w (binOp op t (.int (bitKind k) b) (.int q n)) (evBitOp op k x q n) := by
  cases op <;> simp only [evBitOp] <;> try exact .fail
  split <;> try exact .fail
  rename_i h
  obtain ⟨rfl, rfl, rfl⟩ := h
  refine .leaf (v := .int .u64 ((b % 2 ^ 63 : Nat) : Int)) ?_ ⟨b % 2 ^ 63, rfl, flIs_abs64 hb⟩
  have h1 : (binOp .andNot t (.int (bitKind .f64) b) (.int .u64 9223372036854775808)).run P w = .ok (.int .u64 (Go.bits .andNot .u64 b 9223372036854775808)) w := by
    show (binOp .andNot t (.int .u64 b) (.int .u64 9223372036854775808)).run P w = _
    rw [binOp_andNot]; rfl
  rw [h1, andNot_sign hb.1]

theorem evBin_ok {P : Program} {ρ : Rho} {w : World} (op : BinOp) (t : TypeId) {a b : SV} {u v : Value} (ha : a.rel ρ u) (hb : b.rel ρ v) :
    PureOK P ρ w (binOp op t u v) (evBin P op t a b) := by
  unfold evBin
  split
  · rename_i k x k' y
    obtain ⟨p, rfl, hp⟩ := ha
    obtain ⟨q, rfl, hq⟩ := hb
    split
    · rename_i hk; subst hk; exact evFloat_ok op t hp hq
    · exact .fail
  · cases ha; cases hb; exact evStr_ok op t _ _
  · obtain ⟨p, rfl, hp⟩ := ha
    cases hb; exact evBitOp_ok op t hp _ _
  · split
    · rename_i k n kn k' m km h1 h2
      have e1 := int?_rel h1 ha; have e2 := int?_rel h2 hb; subst e1; subst e2
      split
      · exact evShift_ok .shl (.inl rfl) t k k' n m _
      · exact evShift_ok .shr (.inr rfl) t k k' n m _
      · split
        · rename_i hk; subst hk; exact evInt_ok op t k n m _
        · exact .fail
    · split
      · rename_i h1 h2 ht
        have e1 := bool?_rel h1 ha; have e2 := bool?_rel h2 hb; subst e1; subst e2
        exact evBool_ok op t ht _ _ _
      · exact .fail

theorem eqGuard_one (op : BinOp) (t : TypeId) (x y : Operand) {u v : Value} (hu : u.oneCell' = true) (hi : u ≠ .nilIface) : eqGuard op t x y u v = pure () := by
  cases u <;> first | (cases op <;> rfl) | (simp [Value.oneCell'] at hu; done) | exact (hi rfl).elim

/-! ### The other operations of one computation -/

def evUn (op : UnOp) : SV → T AV
  | .fl k x => match op with | .neg => .leaf (.one (.fl k (fneg k x))) | _ => .fail
  | .int k n => match op with | .neg => .leaf (.one (.int k (k.wrap (0 - n)))) | _ => .fail
  | .num k n => match op with | .neg => .leaf (.one (.num k (k.wrap (0 - n)))) | _ => .fail
  | .tt b => match op with | .not => .leaf (.one (.tt (!b))) | _ => .fail
  | .bo b => match op with | .not => .leaf (.one (.bo (!b))) | _ => .fail
  | _ => .fail

theorem evUn_ok {P : Program} {ρ : Rho} {w : World} (op : UnOp) {a : SV} {u : Value} (ha : a.rel ρ u) : PureOK P ρ w (Op.unary op u) (evUn op a) := by
  cases a <;> simp only [evUn] <;> try exact .fail
  case fl k x =>
    obtain ⟨b, rfl, hb⟩ := ha
    cases op <;> first | exact .fail | exact .leaf rfl ⟨_, rfl, flIs_neg hb⟩
  case int k n => cases ha; cases op <;> first | exact .fail | exact .leaf rfl rfl
  case num k n => cases ha; cases op <;> first | exact .fail | exact .leaf rfl rfl
  case tt b => cases ha; cases op <;> first | exact .fail | exact .leaf rfl rfl
  case bo b => cases ha; cases op <;> first | exact .fail | exact .leaf rfl rfl

def evConv (P : Program) (src dst : TypeId) (a : SV) : T AV :=
  match P.underlying src, P.underlying dst, a with
  | some _, some (.int k), .int _ n => .leaf (.one (.int k (k.wrap n)))
  | some _, some (.int k), .num _ n => .leaf (.one (.num k (k.wrap n)))
  | some _, some (.float k), .int _ n => .leaf (.one (.fl k (fint k n)))
  | some _, some (.float k), .num _ n => .leaf (.one (.fl k (fint k n)))
  | some _, some (.int k), .fl s x => .need (ftoi s k x).isSome (.leaf (.one (.num k ((ftoi s k x).getD 0))))
  | some _, some (.int k), .bt q x => .need (!isNan q x) (.leaf (.one (.num k (k.wrap x))))
  | some _, some (.float k), .fl s x =>
    match s, k with
    | .f32, .f64 => .leaf (.one (.fl .f64 (fcvt .f32 .f64 x)))
    | .f32, .f32 => .leaf (.one (.fl .f32 (fcvt .f32 .f32 x)))
    | .f64, .f64 => .leaf (.one (.fl .f64 (fcvt .f64 .f64 x)))
    | .f64, .f32 => .need (cvtFits .f64 .f32 x) (.leaf (.one (.fl .f32 (fcvt .f64 .f32 x))))
  | _, _, _ => .fail

theorem convert_int {P : Program} {w : World} {src dst : TypeId} {d : TypeDesc} {k : IntKind} (hs : P.underlying src = some d) (hd : P.underlying dst = some (.int k)) (q : IntKind) (n : Int) :
    (convert src dst (.int q n)).run P w = .ok (.int k (k.wrap n)) w := by
  cases d <;> simp [convert, run_underlying hs, run_underlying hd, Conv.intToInt]
theorem convert_int_float {P : Program} {w : World} {src dst : TypeId} {d : TypeDesc} {k : FloatKind} (hs : P.underlying src = some d) (hd : P.underlying dst = some (.float k)) (q : IntKind) (n : Int) :
    (convert src dst (.int q n)).run P w = .ok (.float k (k.nearest n)) w := by
  cases d <;> simp [convert, run_underlying hs, run_underlying hd, Conv.intToFloat]
theorem convert_float {P : Program} {w : World} {src dst : TypeId} {d : TypeDesc} {k : FloatKind} (hs : P.underlying src = some d) (hd : P.underlying dst = some (.float k)) (s : FloatKind) (b : Nat) :
    (convert src dst (.float s b)).run P w = (Conv.floatToFloat s b k).run P w := by
  cases d <;> simp [convert, run_underlying hs, run_underlying hd]

theorem evConv_ok {P : Program} {ρ : Rho} {w : World} (src dst : TypeId) {a : SV} {u : Value} (ha : a.rel ρ u) : PureOK P ρ w (convert src dst u) (evConv P src dst a) := by
  unfold evConv
  split
  · rename_i d k q n hs hd; cases ha; exact .leaf (convert_int hs hd q n) rfl
  · rename_i d k q n hs hd; cases ha; exact .leaf (convert_int hs hd q n) rfl
  · rename_i d k q n hs hd; cases ha; exact .leaf (convert_int_float hs hd q n) ⟨_, rfl, flIs_int k n⟩
  · rename_i d k q n hs hd; cases ha; exact .leaf (convert_int_float hs hd q n) ⟨_, rfl, flIs_int k n⟩
  · rename_i d k s x hs hd
    obtain ⟨b, rfl, hb⟩ := ha
    refine .need fun h => ?_
    obtain ⟨n, hn⟩ := Option.isSome_iff_exists.1 h
    have hn' : floatToIntVal s b k = some n := by rw [← hn]; unfold ftoi; rw [← hb.2, floatToIntVal_canon]
    exact .leaf (run_convert_float_int w src dst s k b n (by rw [hs]; rfl) hd hn') (by rw [hn]; rfl)
  · rename_i d k q x hs hd
    obtain ⟨b, rfl, hb⟩ := ha
    refine .need fun h => ?_
    have hbx := hb.not (by simpa using h)
    subst hbx
    exact .leaf (convert_int hs hd _ _) rfl
  · rename_i d k s x hs hd
    obtain ⟨b, rfl, hb⟩ := ha
    split
    · have hf : cvtFits .f32 .f64 x = true := cvtFits_wide x
      obtain ⟨r, w', h1, h2, h3⟩ := run_fcvt (P := P) w hb hf
      exact .leaf' ⟨_, _, (convert_float hs hd _ b).trans h1, ⟨r, rfl, h2⟩, h3⟩
    · obtain ⟨r, w', h1, h2, h3⟩ := run_fcvt (P := P) w hb (k := .f32) (by simp [cvtFits])
      exact .leaf' ⟨_, _, (convert_float hs hd _ b).trans h1, ⟨r, rfl, h2⟩, h3⟩
    · obtain ⟨r, w', h1, h2, h3⟩ := run_fcvt (P := P) w hb (k := .f64) (by simp [cvtFits])
      exact .leaf' ⟨_, _, (convert_float hs hd _ b).trans h1, ⟨r, rfl, h2⟩, h3⟩
    · refine .need fun hf => ?_
      obtain ⟨r, w', h1, h2, h3⟩ := run_fcvt (P := P) w hb hf
      exact .leaf' ⟨_, _, (convert_float hs hd _ b).trans h1, ⟨r, rfl, h2⟩, h3⟩
  · exact .fail

/-! ### Cells of a value, types -/

def AV.cells : AV → Option (List SV)
  | .one s => some [s]
  | .agg l => some l
  | _ => none

theorem AV.cells_ok {ρ : Rho} {r : AV} {l : List SV} {v : Value} (h : r.cells = some l) (hr : r.rel ρ v) : RelL ρ l v.cells.toList := by
  cases r <;> simp [AV.cells] at h
  · subst h; rw [SV.rel_cells hr]; exact ⟨hr, trivial⟩
  · subst h; obtain ⟨cs, rfl, hc⟩ := hr; exact hc

def isAggD : TypeDesc → Bool
  | .struct _ => true
  | .array _ _ => true
  | _ => false

theorem run_isAgg {P : Program} {w : World} {t : TypeId} {d : TypeDesc} (h : P.underlying t = some d) : (isAgg t).run P w = .ok (isAggD d) w := by
  unfold isAgg
  rw [Sem.run_bind, run_underlying h]
  cases d <;> rfl

theorem run_typeInfo' {P : Program} {w : World} {t : TypeId} {i : TypeInfo} (h : P.info? t = some i) : (typeInfo t).run P w = .ok i w := by
  simp [typeInfo, h]
theorem run_sizeOf' {P : Program} {w : World} {t : TypeId} {i : TypeInfo} (h : P.info? t = some i) : (sizeOf t).run P w = .ok i.size w := by
  simp [sizeOf, run_typeInfo' h]
theorem run_zero' {P : Program} {w : World} {t : TypeId} {i : TypeInfo} {z : Value} (h : P.info? t = some i) (hz : i.zero = some z) : (zeroValue t).run P w = .ok z w := by
  simp [zeroValue, run_typeInfo' h, hz]

/-- A zero value's cells. -/
def zeroCells (P : Program) (t : TypeId) : Option (List SV) :=
  match P.info? t with
  | some i =>
    match i.zero with
    | some z => go z.cells.toList
    | none => none
  | none => none
where
  go : List Value → Option (List SV)
    | [] => some []
    | v :: r => match ofVal v, go r with
      | .one s, some l => some (s :: l)
      | _, _ => none

theorem zeroGo_ok {ρ : Rho} : ∀ {l : List Value} {r : List SV}, zeroCells.go l = some r → RelL ρ r l
  | [], r, h => by cases h; trivial
  | v :: l, r, h => by
    unfold zeroCells.go at h
    split at h
    · rename_i s l' h1 h2
      cases h
      refine ⟨?_, zeroGo_ok h2⟩
      have := ofVal_ok ρ v
      rw [h1] at this; exact this
    · cases h

theorem zeroCells_ok {P : Program} {ρ : Rho} {w : World} {t : TypeId} {r : List SV} (h : zeroCells P t = some r) : ∃ z, (zeroValue t).run P w = .ok z w ∧ RelL ρ r z.cells.toList := by
  unfold zeroCells at h
  split at h
  · rename_i i hi
    split at h
    · rename_i z hz; exact ⟨z, run_zero' hi hz, zeroGo_ok h⟩
    · cases h
  · cases h

/-! ### Memory: new blocks -/

/-- A new row of cells, known as a block. -/
theorem new_row {ρ : Rho} {w : World} {mem : Mem} (hm : MemOK ρ w mem) (cells : Array Value) (e : TypeId) (B : Blk)
    (hB : ∀ ρ', ρ.le ρ' → ∀ i, i < B.n → ∀ j, j < B.sz → ∃ v s, cells[i * B.sz + j]? = some v ∧ (B.get i)[j]? = some s ∧ s.rel ρ' v) (hx : ∀ ρ o c e fz, B.ext ρ o c e fz) :
    ∃ ρ', New ρ ρ' w (w.alloc (.cells cells e)) mem.length [some B] ∧ ρ' mem.length = some (w.heap.size, 0) := by
  let ρ' : Rho := fun id => if id = mem.length then some (w.heap.size, 0) else ρ id
  have hle : ρ.le ρ' := by
    intro id p h
    show (if _ then _ else _) = _
    by_cases hid : id = mem.length
    · subst hid; rw [hm.dom _ (Nat.le_refl _)] at h; cases h
    · rw [if_neg hid]; exact h
  refine ⟨ρ', ⟨fun id h => if_neg (by omega), fun id h => ?_, (Below.refl _ _).alloc (Nat.le_refl _) _, fun i C h => ?_, fun i j b o b' o' hij hi hj => ?_⟩, if_pos rfl⟩
  · show (if _ then _ else _) = _
    simp at h
    rw [if_neg (by omega)]; exact hm.dom id (by omega)
  · cases i with
    | zero =>
      simp at h; subst h
      refine ⟨w.heap.size, if_pos rfl, Nat.le_refl _, ⟨cells, e, (0, 0), heap_alloc_new w _, fun i hi j hj => ?_, hx _ _ _ _ _⟩, .mk0 (heap_alloc_new w _)⟩
      rw [Nat.zero_add]
      exact hB ρ' hle i hi j hj
    | succ i => simp at h
  · obtain ⟨B1, h1⟩ := hi
    obtain ⟨B2, h2⟩ := hj
    cases i <;> cases j <;> simp at h1 h2 hij

/-! ### box, alloc -/

def evBox (mem : Mem) (l : List SV) : T (AV × Mem) := .leaf (.one (.ptr mem.length l.length 0 0), [some (.box l)])

theorem newVar_ok {P : Program} {ρ : Rho} {w : World} {mem : Mem} (hm : MemOK ρ w mem) (t : TypeId) {v : Value} {l : List SV} (hl : RelL ρ l v.cells.toList) :
    SemOK P ρ w mem.length (do pure (.pointer (some (← newVar t v)))) (evBox mem l) := by
  intro next h
  obtain ⟨ρ', hn, hρ⟩ := new_row hm v.cells t (.box l) (fun ρ' hle i hi j hj => by
    have hi0 : i = 0 := by have : i < 1 := hi
                           omega
    subst hi0
    have hj' : j < l.length := hj
    obtain ⟨s, hs⟩ : ∃ s, l[j]? = some s := ⟨l[j], by simp [hj']⟩
    obtain ⟨u, hu, hr⟩ := hl.get j s hs
    refine ⟨u, s, ?_, hs, SV.rel_mono hle hr⟩
    rw [Nat.zero_mul, Nat.zero_add]; simpa using hu) (fun _ _ _ _ _ => trivial)
  refine ⟨_, _, ?_, h ρ' _ _ hn ⟨w.heap.size, 0, hρ, rfl⟩⟩
  simp [newVar, newRow]

/-! ### load, store -/

/-- The element is there. -/
def needI {α : Type} (B : Blk) (i : Nat) (t : T α) : T α :=
  match B with
  | .box _ => if i = 0 then t else .fail
  | .row n _ _ => .need (decide (i < n)) t
  | .cols n _ => .need (decide (i < n)) t
  | .grow n _ _ _ => .need (decide (i < n)) t

theorem needI_holds {α : Type} {B : Blk} {i : Nat} {t : T α} {Φ : α → Prop} (h : (needI B i t).holds Φ) : i < B.n ∧ t.holds Φ := by
  unfold needI at h
  split at h
  · split at h
    · rename_i hi; exact ⟨by subst hi; exact Nat.one_pos, h⟩
    · exact h.elim
  · exact ⟨of_decide_eq_true h.1, h.2⟩
  · exact ⟨of_decide_eq_true h.1, h.2⟩
  · exact ⟨of_decide_eq_true h.1, h.2⟩

theorem StillOK.needI {P : Program} {ρ : Rho} {w : World} {m : Sem Value} {B : Blk} {i : Nat} {t : T AV} (h : i < B.n → StillOK P ρ w m t) : StillOK P ρ w m (needI B i t) :=
  fun n hn => let ⟨h1, h2⟩ := needI_holds hn; h h1 n h2


def evLoad (P : Program) (mem : Mem) (t : TypeId) (p : SV) : T AV :=
  match p with
  | .ptr id sz i j =>
    match mem[id]? with
    | some (some B) =>
      if B.sz = sz then
        match P.info? t, P.underlying t with
        | some ti, some d =>
          if isAggD d then
            if j + ti.size ≤ sz then
              if (((B.get i).drop j).take ti.size).length = ti.size then needI B i (.leaf (.agg (((B.get i).drop j).take ti.size))) else .fail
            else .fail
          else
            if j < sz then
              match (B.get i)[j]? with
              | some s => needI B i (.leaf (.one s))
              | none => .fail
            else .fail
        | _, _ => .fail
      else .fail
    | _ => .fail
  | _ => .fail

theorem add_lit (b o n : Nat) : Addr.add ⟨b, o, none⟩ n = ⟨b, o + n, none⟩ := Addr.add_lit b o n

theorem evLoad_ok {P : Program} {ρ : Rho} {w : World} {mem : Mem} (hm : MemOK ρ w mem) (t : TypeId) {p : SV} {u : Value} (hp : p.rel ρ u) :
    StillOK P ρ w (Instr.loadAt t u) (evLoad P mem t p) := by
  unfold evLoad
  split <;> try exact .fail
  rename_i id sz i j
  split <;> try exact .fail
  rename_i B hB
  split <;> try exact .fail
  rename_i hsz
  split <;> try exact .fail
  rename_i ti d hti hd
  obtain ⟨b, o, hρ, rfl⟩ := hp
  obtain ⟨b', o', hρ', c, e, fz, hheap, hcell, _⟩ := hm.blk id B hB
  rw [hρ] at hρ'; cases hρ'
  have hrd : ∀ n, w.cell? ⟨b, n, none⟩ = c[n]? := fun n => cell_of_row w b n c e fz hheap
  have hrun : (Instr.loadAt t (.pointer (some ⟨b, o + (i * sz + j), none⟩))).run P w = (loadVar t ⟨b, o + (i * sz + j), none⟩).run P w := by
    simp [Instr.loadAt, Instr.sureAddr]
  split
  · rename_i hagg
    split <;> try exact .fail
    rename_i hjs
    split <;> try exact .fail
    rename_i hlen
    refine .needI fun hi' => ?_
    -- the cells
    have hex : ∀ k, k < ti.size → ∃ v s, c[o + (i * sz + j) + k]? = some v ∧ (B.get i)[j + k]? = some s ∧ s.rel ρ v := by
      intro k hk
      obtain ⟨v, s, h1, h2, h3⟩ := hcell i hi' (j + k) (by omega)
      refine ⟨v, s, ?_, h2, h3⟩
      rw [← h1]; congr 1; rw [hsz]; omega
    let f : Nat → Value := fun k => (c[o + (i * sz + j) + k]?).getD undef
    have hl := run_loadCells (P := P) w ⟨b, o + (i * sz + j), none⟩ ti.size f (fun k hk => by
      obtain ⟨v, s, h1, _⟩ := hex k hk
      rw [add_lit, hrd, h1]; show _ = some ((c[_]?).getD undef); rw [h1]; rfl)
    refine .leaf (v := .agg ((List.range ti.size).map f).toArray) ?_ ⟨_, rfl, ?_⟩
    · rw [hrun]
      simp [loadVar, run_isAgg hd, hagg, run_sizeOf' hti, hl]
    · refine RelL.mk (by simpa using hlen) fun k s v h1 h2 => ?_
      have hk : k < ti.size := by
        have := (List.getElem?_eq_some_iff.1 h1).1
        omega
      obtain ⟨v', s', a1, a2, a3⟩ := hex k hk
      have e1 : s = s' := by
        rw [List.getElem?_take, if_pos hk, List.getElem?_drop, a2] at h1
        cases h1; rfl
      have e2 : v = v' := by
        simp [hk, f, a1] at h2
        exact h2.symm
      subst e1; subst e2; exact a3
  · rename_i hagg
    split <;> try exact .fail
    rename_i hjs
    split <;> try exact .fail
    rename_i s hs
    refine .needI fun hi' => ?_
    obtain ⟨v, s', h1, h2, h3⟩ := hcell i hi' j (by omega)
    rw [hs] at h2; cases h2
    refine .leaf (v := v) ?_ h3
    rw [hrun]
    have hagg' : isAggD d = false := by simpa using hagg
    have h1' : c[o + (i * sz + j)]? = some v := by rw [← hsz]; exact h1
    simp [loadVar, run_isAgg hd, hagg', hrd, h1']

end Go.Proofs.Ytdmcpgbnomhahaa
