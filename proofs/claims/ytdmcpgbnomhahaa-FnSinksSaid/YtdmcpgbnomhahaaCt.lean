/-
  Contracts: of functions without a body; in other words; small laws on the values of floats. No conditions.
-/
import Derived.Test.YtdmcpgbnomhahaaSh
namespace Go.Proofs.Ytdmcpgbnomhahaa
set_option linter.unusedVariables false
set_option linter.unusedSimpArgs false
open Go.RowKit

/-! ### Memory that says less -/

/-- The same block, or one that says less. -/
def BlLe (B C : Blk) : Prop := ∀ ρ w b o, BlkAt ρ w b o B → BlkAt ρ w b o C

theorem BlLe.refl (B : Blk) : BlLe B B := fun _ _ _ _ h => h

def MemLe : Mem → Mem → Prop
  | [], [] => True
  | _ :: l, none :: m => MemLe l m
  | some B :: l, some C :: m => BlLe B C ∧ MemLe l m
  | _, _ => False

theorem BlLe.mk {B C : Blk} (h0 : C.n ≤ B.n) (h1 : C.sz = B.sz) (h2 : ∀ i, i < C.n → ∀ j, j < C.sz → ∃ s t, (B.get i)[j]? = some s ∧ (C.get i)[j]? = some t ∧ ∀ ρ v, s.rel ρ v → t.rel ρ v) (hx : ∀ ρ o c e fz, C.ext ρ o c e fz := by intro _ _ _ _ _; trivial) : BlLe B C := by
  intro ρ w b o hb
  obtain ⟨c, e, fz, k1, k2, _⟩ := hb
  refine ⟨c, e, fz, k1, fun i hi j hj => ?_, hx _ _ _ _ _⟩
  obtain ⟨s, t, k3, k4, k5⟩ := h2 i hi j hj
  obtain ⟨v, s', a1, a2, a3⟩ := k2 i (Nat.lt_of_lt_of_le hi h0) j (by rw [← h1]; exact hj)
  rw [k3] at a2; cases a2
  exact ⟨v, t, by rw [h1]; exact a1, k4, k5 ρ v a3⟩

theorem MemLe.refl : ∀ (m : Mem), MemLe m m
  | [] => trivial
  | none :: m => MemLe.refl m
  | some B :: m => ⟨BlLe.refl B, MemLe.refl m⟩

theorem MemLe.length : ∀ {l m : Mem}, MemLe l m → l.length = m.length
  | [], [], _ => rfl
  | none :: _, none :: _, h => congrArg (· + 1) (MemLe.length h)
  | some _ :: l, none :: m, h => congrArg (· + 1) (MemLe.length (l := l) (m := m) h)
  | some _ :: _, some _ :: _, h => congrArg (· + 1) (MemLe.length h.2)

theorem MemLe.get : ∀ {l m : Mem}, MemLe l m → ∀ (id : Nat) (C : Blk), m[id]? = some (some C) → ∃ B, l[id]? = some (some B) ∧ BlLe B C
  | [], [], _, id, C, h => by simp at h
  | x :: l, none :: m, h, 0, C, e => by simp at e
  | none :: l, none :: m, h, id + 1, C, e => by simpa using MemLe.get (l := l) (m := m) h id C (by simpa using e)
  | some _ :: l, none :: m, h, id + 1, C, e => by simpa using MemLe.get (l := l) (m := m) h id C (by simpa using e)
  | some B :: l, some C :: m, h, 0, D, e => by simp at e; subst e; exact ⟨B, rfl, h.1⟩
  | some B :: l, some C :: m, h, id + 1, D, e => by simpa using MemLe.get h.2 id D (by simpa using e)

theorem MemLe.trans : ∀ {l m r : Mem}, MemLe l m → MemLe m r → MemLe l r
  | [], [], [], _, _ => trivial
  | none :: l, none :: m, none :: r, h, k => MemLe.trans (l := l) (m := m) (r := r) h k
  | some _ :: l, none :: m, none :: r, h, k => MemLe.trans (l := l) (m := m) (r := r) h k
  | some _ :: l, some _ :: m, none :: r, h, k => MemLe.trans (l := l) (m := m) (r := r) h.2 k
  | some _ :: _, some _ :: _, some _ :: _, h, k => ⟨fun ρ w b o hb => k.1 ρ w b o (h.1 ρ w b o hb), MemLe.trans h.2 k.2⟩

theorem New.le2 {ρ ρ' : Rho} {w w' : World} {N : Nat} {new new' : Mem} (h : New ρ ρ' w w' N new) (hl : MemLe new new') : New ρ ρ' w w' N new' := by
  have hlen := hl.length
  refine ⟨h.keep, fun id hid => h.dom id (by omega), h.below, fun i B hB => ?_, fun i j b o b' o' hij hi hj h1 h2 => ?_⟩
  · obtain ⟨C, hC, hle⟩ := hl.get i B hB
    obtain ⟨b, k1, k2, k3, k4⟩ := h.blk i C hC
    exact ⟨b, k1, k2, hle _ _ _ _ k3, k4⟩
  · obtain ⟨B1, hB1⟩ := hi
    obtain ⟨B2, hB2⟩ := hj
    obtain ⟨C1, hC1, _⟩ := hl.get i B1 hB1
    obtain ⟨C2, hC2, _⟩ := hl.get j B2 hB2
    exact h.inj i j b o b' o' hij ⟨C1, hC1⟩ ⟨C2, hC2⟩ h1 h2

/-- The second result says at most what the first one says. -/
def le2 (r s : Res) : Prop := MemLe r.2 s.2 ∧ ∀ ρ v, r.1.rel ρ v → s.1.rel ρ v

structure Weak (t' t : T Res) : Prop where
  out : ∀ Φ : Res → Prop, (∀ r s, le2 r s → Φ s → Φ r) → t'.holds Φ → t.holds Φ

theorem Weak.refl (t : T Res) : Weak t t := ⟨fun _ _ h => h⟩
theorem Weak.fail (t : T Res) : Weak .fail t := ⟨fun _ _ h => h.elim⟩
theorem Weak.of_eq {t' t : T Res} (h : t = t') : Weak t' t := h ▸ Weak.refl t

/-- The same contract in other words. -/
def Ctr.of {P : Program} (C : Ctr P) (run : List AV → Mem → T Res) (h : ∀ args mem, Weak (run args mem) (C.run args mem)) : Ctr P where
  f := C.f
  run := run
  ok := fun args mem ρ w vals hm ha o a K Q hh =>
    C.ok args mem ρ w vals hm ha o a K Q ((h args mem).out _ (fun r s hrs hs ρ' w' v hn hv => hs ρ' w' v (hn.le2 hrs.1) (hrs.2 ρ' v hv)) hh)

/-- Values that are a float's. -/
def Can (k : FloatKind) (x : Nat) : Prop := x < 2 ^ k.format.width ∧ canon k x = x

theorem FlIs.can {k : FloatKind} {b x : Nat} (h : FlIs k b x) : Can k x := by
  refine ⟨?_, h.canon_eq⟩
  rw [← h.2]
  unfold canon
  split
  · cases k <;> decide
  · exact h.1

/-- Arguments that some values are. -/
def Fine (args : List AV) : Prop := ∃ ρ vals, RelA ρ args vals

theorem Fine.tail {s : AV} {l : List AV} (h : Fine (s :: l)) : Fine l := by
  obtain ⟨ρ, vals, h⟩ := h
  cases vals with
  | nil => exact h.elim
  | cons v vs => exact ⟨ρ, vs, h.2⟩

theorem Fine.fl {k : FloatKind} {x : Nat} {l : List AV} (h : Fine (.one (.fl k x) :: l)) : Can k x := by
  obtain ⟨ρ, vals, h⟩ := h
  cases vals with
  | nil => exact h.elim
  | cons v vs => obtain ⟨⟨b, _, hb⟩, _⟩ := h; exact hb.can

theorem RelL.can {ρ : Rho} : ∀ {l : List SV} {vs : List Value}, RelL ρ l vs → ∀ k x, SV.fl k x ∈ l → Can k x
  | [], [], _, k, x, h => by cases h
  | s :: l, v :: vs, ⟨h1, h2⟩, k, x, h => by
    cases h with
    | head => obtain ⟨b, _, hb⟩ := h1; exact hb.can
    | tail _ h => exact RelL.can h2 k x h

theorem Fine.agg {l : List SV} {r : List AV} (h : Fine (.agg l :: r)) {k : FloatKind} {x : Nat} (hx : SV.fl k x ∈ l) : Can k x := by
  obtain ⟨ρ, vals, h⟩ := h
  cases vals with
  | nil => exact h.elim
  | cons v vs => obtain ⟨⟨cs, _, hc⟩, _⟩ := h; exact hc.can k x hx

/-- The same contract in other words, for values that may come. -/
def Ctr.to {P : Program} (C : Ctr P) (run : List AV → Mem → T Res) (h : ∀ args mem, Fine args → Weak (run args mem) (C.run args mem)) : Ctr P where
  f := C.f
  run := run
  ok := fun args mem ρ w vals hm ha o a K Q hh =>
    C.ok args mem ρ w vals hm ha o a K Q ((h args mem ⟨ρ, _, ha⟩).out _ (fun r s hrs hs ρ' w' v hn hv => hs ρ' w' v (hn.le2 hrs.1) (hrs.2 ρ' v hv)) hh)

/-- One float in, ... -/
def runF (k : FloatKind) (g : Nat → T AV) : List AV → Mem → T Res
  | [.one (.fl k' x)], _ => if k' = k then pureT (g x) else .fail
  | _, _ => .fail

def runFF (k : FloatKind) (g : Nat → Nat → T AV) : List AV → Mem → T Res
  | [.one (.fl k1 x), .one (.fl k2 y)], _ => if k1 = k ∧ k2 = k then pureT (g x y) else .fail
  | _, _ => .fail

theorem weak_F {P : Program} {C : Ctr P} {k : FloatKind} {g : Nat → T AV} (h : ∀ x mem, Can k x → Weak (pureT (g x)) (C.run [.one (.fl k x)] mem)) (args : List AV) (mem : Mem) (hf : Fine args) : Weak (runF k g args mem) (C.run args mem) := by
  unfold runF
  split
  · rename_i k' x
    split
    · rename_i hk; subst hk; exact h x mem hf.fl
    · exact Weak.fail _
  · exact Weak.fail _

theorem weak_FF {P : Program} {C : Ctr P} {k : FloatKind} {g : Nat → Nat → T AV} (h : ∀ x y mem, Can k x → Can k y → Weak (pureT (g x y)) (C.run [.one (.fl k x), .one (.fl k y)] mem)) (args : List AV) (mem : Mem) (hf : Fine args) : Weak (runFF k g args mem) (C.run args mem) := by
  unfold runFF
  split
  · rename_i k1 x k2 y
    split
    · rename_i hk; obtain ⟨rfl, rfl⟩ := hk; exact h x y mem hf.fl hf.tail.fl
    · exact Weak.fail _
  · exact Weak.fail _

theorem le2_bo {b c : Bool} {m : Mem} (h : b = c) : le2 (.one (.bo b), m) (.one (.bo c), m) := ⟨MemLe.refl _, fun _ _ hv => by rw [← h]; exact hv⟩
theorem le2_tb {b c : Bool} {m : Mem} (h : b = c) : le2 (.one (.bo b), m) (.one (.tt c), m) := ⟨MemLe.refl _, fun _ _ hv => by rw [← h]; exact hv⟩
theorem le2_bt {b c : Bool} {m : Mem} (h : b = c) : le2 (.one (.tt b), m) (.one (.bo c), m) := ⟨MemLe.refl _, fun _ _ hv => by rw [← h]; exact hv⟩
theorem le2_fl {k : FloatKind} {x y : Nat} {m : Mem} (h : x = y) : le2 (.one (.fl k x), m) (.one (.fl k y), m) := ⟨MemLe.refl _, fun _ _ hv => by rw [← h]; exact hv⟩
theorem le2_in {k : IntKind} {x y : Int} {m : Mem} (h : x = y) : le2 (.one (.num k x), m) (.one (.num k y), m) := ⟨MemLe.refl _, fun _ _ hv => by rw [← h]; exact hv⟩
theorem le2_ii {k : IntKind} {x y : Int} {m : Mem} (h : x = y) : le2 (.one (.int k x), m) (.one (.num k y), m) := ⟨MemLe.refl _, fun _ _ hv => by rw [← h]; exact hv⟩

/-- A function without a body, by what the model's table has for it. -/
def extCtr {P : Program} {f : FuncId} {fn : Func} {e : Array Value → Sem Value} (hf : P.funcs[f]? = some fn) (hname : (fn.name == "runtime.NumGoroutine") = false) (hb : fn.body.isNone = true) (hn : Extern.findNext fn = none)
    (he : Extern.find fn = some e) (run : List AV → T AV) (hok : ∀ ρ w args (vals : Array Value), RelA ρ args vals.toList → PureOK P ρ w (e vals) (run args)) : Ctr P where
  f := f
  run := fun args _ => pureT (run args)
  ok := by
    intro args mem ρ w vals hm ha o a K Q h
    rw [run_callFunc_extern hf hname hb hn he]
    obtain ⟨v, w', h1, h2⟩ := (hok ρ w args vals ha).sem (N := mem.length) hm.dom (fun v w' => K (a.put o.dst v) w') h
    rw [h1]
    exact h2

def bitsRun (k : FloatKind) : List AV → T AV
  | [.one (.fl k' x)] => if k' = k then .leaf (.one (.bt k x)) else .fail
  | _ => .fail
def fromRun (k : FloatKind) : List AV → T AV
  | [.one (.bt k' x)] => if k' = k then .leaf (.one (.fl k x)) else .fail
  | _ => .fail
def sqrtRun : List AV → T AV
  | [.one (.fl .f64 x)] => .leaf (.one (.fl .f64 (fsqrt x)))
  | _ => .fail

theorem one_val {ρ : Rho} {s : AV} {vals : Array Value} (h : RelA ρ [s] vals.toList) : ∃ v, vals = #[v] ∧ s.rel ρ v := by
  cases hv : vals.toList with
  | nil => rw [hv] at h; exact h.elim
  | cons v l =>
    rw [hv] at h
    obtain ⟨h1, h2⟩ := h
    cases l with
    | nil => exact ⟨v, Array.ext' (by simpa using hv), h1⟩
    | cons u l => exact h2.elim

theorem float32bits_ok {P : Program} (ρ : Rho) (w : World) (args : List AV) (vals : Array Value) (h : RelA ρ args vals.toList) : PureOK P ρ w (Extern.MathFloatBits.float32bits vals) (bitsRun .f32 args) := by
  unfold bitsRun
  split <;> try exact .fail
  split <;> try exact .fail
  rename_i hk; subst hk
  obtain ⟨v, rfl, b, rfl, hb⟩ := one_val h
  exact .leaf rfl ⟨b, rfl, hb⟩
theorem float64bits_ok {P : Program} (ρ : Rho) (w : World) (args : List AV) (vals : Array Value) (h : RelA ρ args vals.toList) : PureOK P ρ w (Extern.MathFloatBits.float64bits vals) (bitsRun .f64 args) := by
  unfold bitsRun
  split <;> try exact .fail
  split <;> try exact .fail
  rename_i hk; subst hk
  obtain ⟨v, rfl, b, rfl, hb⟩ := one_val h
  exact .leaf rfl ⟨b, rfl, hb⟩
theorem float32frombits_ok {P : Program} (ρ : Rho) (w : World) (args : List AV) (vals : Array Value) (h : RelA ρ args vals.toList) : PureOK P ρ w (Extern.MathFloatBits.float32frombits vals) (fromRun .f32 args) := by
  unfold fromRun
  split <;> try exact .fail
  split <;> try exact .fail
  rename_i hk; subst hk
  obtain ⟨v, rfl, b, rfl, hb⟩ := one_val h
  exact .leaf rfl ⟨b, rfl, hb⟩
theorem float64frombits_ok {P : Program} (ρ : Rho) (w : World) (args : List AV) (vals : Array Value) (h : RelA ρ args vals.toList) : PureOK P ρ w (Extern.MathFloatBits.float64frombits vals) (fromRun .f64 args) := by
  unfold fromRun
  split <;> try exact .fail
  split <;> try exact .fail
  rename_i hk; subst hk
  obtain ⟨v, rfl, b, rfl, hb⟩ := one_val h
  exact .leaf rfl ⟨b, rfl, hb⟩

theorem sqrt_run (b : Nat) : Extern.MathSqrt.sqrt #[.float .f64 b] = (match FloatKind.f64.format.sqrt b with
    | some r => pure (.float .f64 r)
    | none => do pure (.float .f64 (← choose (.nanBits .f64 b b)))) := rfl

theorem flIs_sqrt {P : Program} {w : World} {b x : Nat} (hb : FlIs .f64 b x) : ∃ r w', (Extern.MathSqrt.sqrt #[.float .f64 b]).run P w = .ok (.float .f64 r) w' ∧ FlIs .f64 r (fsqrt x) ∧ (w' = w ∨ w' = w.drew) := by
  have hx : FloatKind.f64.format.sqrt x = FloatKind.f64.format.sqrt b := by rw [← hb.2, sqrt_canon]
  cases hs : FloatKind.f64.format.sqrt b with
  | some r =>
    have hn : isNan .f64 r = false := by
      unfold Ieee.Format.sqrt at hs
      cases hd : (FloatKind.f64.format.read b).root (FloatKind.f64.format.fractionBits + 2) with
      | none => rw [hd] at hs; cases hs
      | some d =>
        rw [hd] at hs
        simp only [Option.map_some, Option.some.injEq] at hs
        subst hs
        exact write_not _ (root_not hd)
    refine ⟨r, w, by rw [sqrt_run, hs]; rfl, ⟨FloatKind.f64.format.sqrt_lt hs, ?_⟩, .inl rfl⟩
    rw [canon_not hn]; simp [fsqrt, hx, hs]
  | none =>
    have h := cut_nan .f64 (.nanBits .f64 b b) (.inr (.inr ⟨_, _, rfl⟩)) (w.tape w.drawn (.nanBits .f64 b b))
    refine ⟨_, w.drew, by rw [sqrt_run, hs]; simp [Question.forced], ⟨h.2, ?_⟩, .inr rfl⟩
    rw [canon_nan h.1]; simp [fsqrt, hx, hs]

theorem sqrt_ok {P : Program} (ρ : Rho) (w : World) (args : List AV) (vals : Array Value) (h : RelA ρ args vals.toList) : PureOK P ρ w (Extern.MathSqrt.sqrt vals) (sqrtRun args) := by
  unfold sqrtRun
  split <;> try exact .fail
  obtain ⟨v, rfl, b, rfl, hb⟩ := one_val h
  obtain ⟨r, w', h1, h2, h3⟩ := flIs_sqrt (P := P) (w := w) hb
  exact .leaf' ⟨_, _, h1, ⟨r, rfl, h2⟩, h3⟩

/-! ### What floats are -/

/-- A finite number: no infinity, no NaN. -/
def fin (k : FloatKind) (x : Nat) : Bool := decide (x % k.format.signWeight < k.format.infRung)

noncomputable def bodyOf (fn : Func) : Code := fn.body.getD .skip

end Go.Proofs.Ytdmcpgbnomhahaa
