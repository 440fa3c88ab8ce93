/-
  The frame of a statement: arguments opened by their types' shapes; a call by a contract; the row. No conditions.
-/
import Derived.Test.YtdmcpgbnomhahaaCt
import Derived.Carry
import Derived.ProofKit
import Derived.OpenShut
import Derived.Lib.SmallJoins
namespace Go.Proofs.Ytdmcpgbnomhahaa
set_option linter.unusedVariables false
set_option linter.unusedSimpArgs false
open Go.RowKit Go.ChangeShapes Go.WideShapes

/-! ### A call by a contract -/

/-- It answers true. -/
structure Yes {P : Program} (C : Ctr P) (args : List AV) (mem : Mem) : Prop where
  out : (C.run args mem).holds fun r => r.1 = .one (.tt true) ∨ r.1 = .one (.bo true)

theorem calls_of_ctr {P : Program} (C : Ctr P) {f : FuncId} (hC : C.f = f) {fn : Func} {root : Code} (hf : P.funcs[f]? = some fn) (hname : (fn.name == "runtime.NumGoroutine") = false) (hb : fn.body = some root)
    {args : List AV} {mem : Mem} {ρ : Rho} {w : World} {vals : Array Value} (hm : MemOK ρ w mem) (ha : RelA ρ args vals.toList) (h0 : Yes C args mem) :
    Calls P f vals w fun e w' => e = .returned (.bool true) ∧ Below w.heap.size w w' := by
  subst hC
  have h := h0.out
  have hcall : (callFunc C.f vals).run P w = .ok (.enter C.f vals) w := by
    have h1 : fn.name ≠ "runtime.NumGoroutine" := by simpa using hname
    simp [callFunc, hf, h1, hb]
  have key := C.ok args mem ρ w vals hm ha { (default : Oper) with dst := some 0 } { tmps := #[undef], defers := [] }
    (fun a' w' => a'.tmps = #[.bool true] ∧ Below w.heap.size w w') (fun _ _ _ => False) (T.holds_mono h fun r hr ρ' w' v hn hv => by
      refine ⟨?_, hn.below⟩
      have hv' : v = .bool true := by
        rcases hr with hr | hr <;> (rw [hr] at hv; exact hv)
      subst hv'
      rfl)
  rw [hcall] at key
  have key' : Calls P C.f vals w _ := key
  refine key'.mono fun e w' he => ?_
  cases e with
  | returned v =>
    obtain ⟨h1, h2⟩ := he
    refine ⟨?_, h2⟩
    have : v = .bool true := by simpa [Act.put] using h1
    rw [this]
  | panicked chain => exact he.elim
  | outgrown => exact absurd he (by simp [LetsOut])

theorem memOK_nil (w : World) : MemOK (fun _ => none) w [] := ⟨fun _ _ => rfl, fun id B h => by simp at h⟩

/-! ### Shapes -/

/-- One cell's kind. -/
inductive LK where
  | fl (k : FloatKind)
  | num (k : IntKind)
  | bo
  | str
  | sl (e : TypeId)

def flatFs (P : Program) (go : TypeId → Option (List LK)) : Nat → List Field → Option (List LK)
  | _, [] => some []
  | off, f :: fs =>
    if f.offset = off then
      match go f.type with
      | some ks => if P.cellsOf f.type = ks.length then (flatFs P go (off + ks.length) fs).map (ks ++ ·) else none
      | none => none
    else none

def flat (P : Program) : Nat → TypeId → Option (List LK)
  | 0, _ => none
  | n + 1, t =>
    match P.underlying t with
    | some .bool => some [.bo]
    | some (.int k) => some [.num k]
    | some (.float k) => some [.fl k]
    | some .string => some [.str]
    | some (.slice e) => some [.sl e]
    | some (.struct fs) =>
      match flatFs P (flat P n) 0 fs.toList with
      | some ks => if P.cellsOf t = ks.length then some ks else none
      | none => none
    | _ => none

section
variable {H : Type} {enc : TypeId × Value → H} {P : Program} {w : World} {base : Nat} {spare : Nat → Bool} {held : Bool}

/-- What one cell of a kind holds. -/
def LK.ok (enc : TypeId × Value → H) (P : Program) (w : World) (base : Nat) (spare : Nat → Bool) (held : Bool) : LK → Value → Prop
  | .fl k, v => ∃ b, v = .float k b ∧ (Lit.float k b).wf = true
  | .num k, v => ∃ n, v = .int k n ∧ (Lit.int k n).wf = true
  | .bo, v => ∃ b, v = .bool b
  | .str, v => ∃ s, v = .string s ∧ s.size ≤ maxLen
  | .sl e, v => ∃ t fuel x, P.underlying t = some (.slice e) ∧ DataW.trod enc P w base spare held fuel t [v] = some x

def KRel (enc : TypeId × Value → H) (P : Program) (w : World) (base : Nat) (spare : Nat → Bool) (held : Bool) : List LK → List Value → Prop
  | [], [] => True
  | k :: ks, v :: vs => k.ok enc P w base spare held v ∧ KRel enc P w base spare held ks vs
  | _, _ => False

theorem KRel.length : ∀ {ks : List LK} {vs : List Value}, KRel enc P w base spare held ks vs → vs.length = ks.length
  | [], [], _ => rfl
  | _ :: _, _ :: _, ⟨_, h⟩ => congrArg (· + 1) (KRel.length h)

theorem KRel.append : ∀ {ks ls : List LK} {vs us : List Value}, KRel enc P w base spare held ks vs → KRel enc P w base spare held ls us → KRel enc P w base spare held (ks ++ ls) (vs ++ us)
  | [], _, [], _, _, h => h
  | _ :: _, _, _ :: _, _, ⟨h1, h2⟩, h => ⟨h1, KRel.append h2 h⟩

theorem flatFs_rel {go : TypeId → Option (List LK)} {n : Nat} {cs : List Value} (hgo : ∀ t ks ds x, go t = some ks → DataW.trod enc P w base spare held n t ds = some x → KRel enc P w base spare held ks ds) :
    ∀ (fs : List Field) (off : Nat) (ks : List LK), flatFs P go off fs = some ks → (∀ (i : Nat) (f : Field), fs[i]? = some f → ∃ y, DataW.trod enc P w base spare held n f.type ((cs.drop f.offset).take (P.cellsOf f.type)) = some y) →
      KRel enc P w base spare held ks ((cs.drop off).take ks.length)
  | [], off, ks, h, _ => by
    simp [flatFs] at h
    subst h
    simp [KRel]
  | f :: fs, off, ks, h, hh => by
    unfold flatFs at h
    split at h
    · rename_i hoff
      split at h
      · rename_i k1 hk1
        split at h
        · rename_i hlen
          cases hr : flatFs P go (off + k1.length) fs with
          | none => rw [hr] at h; cases h
          | some k2 =>
            rw [hr] at h
            simp only [Option.map_some, Option.some.injEq] at h
            subst h
            obtain ⟨y, hy⟩ := hh 0 f rfl
            have r1 := hgo _ _ _ _ hk1 hy
            have r2 := flatFs_rel hgo fs _ _ hr (fun i g hg => hh (i + 1) g (by simpa using hg))
            rw [hoff, hlen] at r1
            have e : (cs.drop off).take (k1 ++ k2).length = (cs.drop off).take k1.length ++ (cs.drop (off + k1.length)).take k2.length := by
              rw [List.length_append, List.take_add, List.drop_drop]
            rw [e]
            exact KRel.append r1 r2
        · cases h
      · cases h
    · cases h

theorem flat_rel : ∀ (n : Nat) (t : TypeId) (ks : List LK), flat P n t = some ks → ∀ (fuel : Nat) (cs : List Value) (x : DataW H × List MemPlace), DataW.trod enc P w base spare held fuel t cs = some x → KRel enc P w base spare held ks cs
  | 0, t, ks, h => by cases h
  | n + 1, t, ks, h => by
    intro fuel cs x hx
    unfold flat at h
    split at h
    · -- bool
      rename_i ht
      cases h
      cases fuel with
      | zero => simp [DataW.trod] at hx
      | succ m =>
        unfold DataW.trod at hx
        rw [ht] at hx
        split at hx <;> simp_all [KRel, LK.ok]
    · rename_i k ht
      cases h
      cases fuel with
      | zero => simp [DataW.trod] at hx
      | succ m =>
        unfold DataW.trod at hx
        rw [ht] at hx
        split at hx <;> simp_all
        obtain ⟨⟨rfl, hw⟩, _⟩ := hx
        exact ⟨⟨_, rfl, hw⟩, trivial⟩
    · rename_i k ht
      cases h
      cases fuel with
      | zero => simp [DataW.trod] at hx
      | succ m =>
        unfold DataW.trod at hx
        rw [ht] at hx
        split at hx <;> simp_all
        obtain ⟨⟨rfl, hw⟩, _⟩ := hx
        exact ⟨⟨_, rfl, hw⟩, trivial⟩
    · rename_i ht
      cases h
      cases fuel with
      | zero => simp [DataW.trod] at hx
      | succ m =>
        unfold DataW.trod at hx
        rw [ht] at hx
        split at hx <;> simp_all
        exact ⟨⟨_, rfl, hx.1⟩, trivial⟩
    · rename_i e ht
      cases h
      rcases Go.Deep.open_slice ht hx with ⟨hcs, _⟩ | ⟨a', len', cap', m, n', D, Pl, hcs, _⟩ <;> (subst hcs; exact ⟨⟨t, fuel, x, ht, hx⟩, trivial⟩)
    · rename_i fs ht
      split at h
      · rename_i ks' hks
        split at h
        · rename_i hlen
          cases h
          obtain ⟨xs, m, rfl, rfl, hl, hxl, hf⟩ := DataW.trod_struct ht hx
          have r := flatFs_rel (cs := cs) (n := m) (fun t ks ds x h1 h2 => flat_rel n t ks h1 m ds x h2) fs.toList 0 ks hks (fun i f hfi => by
            have hlt : i < xs.length := by
              have := (List.getElem?_eq_some_iff.1 hfi).1
              rw [hxl]; simpa using this
            exact ⟨xs[i], by rw [hf i f (by simpa using hfi)]; simp [hlt]⟩)
          rw [List.drop_zero, ← hlen, ← hl, List.take_length] at r
          exact r
        · cases h
      · cases h
    · cases h

end

/-- Values by their kinds: the floats up to their NaNs. -/
def Sh : List LK → List SV → Prop
  | [], ss => ss = []
  | .fl k :: ks, ss => ∃ x ss', ss = .fl k x :: ss' ∧ Can k x ∧ Sh ks ss'
  | .num k :: ks, ss => ∃ n ss', ss = .num k n :: ss' ∧ (Lit.int k n).wf = true ∧ Sh ks ss'
  | .bo :: ks, ss => ∃ b ss', ss = .bo b :: ss' ∧ Sh ks ss'
  | .str :: ks, ss => ∃ s ss', ss = .str s :: ss' ∧ s.size ≤ maxLen ∧ Sh ks ss'
  | .sl _ :: _, _ => False

def plain : List LK → Bool
  | [] => true
  | .sl _ :: _ => false
  | _ :: ks => plain ks

theorem flIs_wf {k : FloatKind} {b : Nat} (h : (Lit.float k b).wf = true) : FlIs k b (canon k b) := by
  refine ⟨?_, rfl⟩
  cases k <;> (simp [Lit.wf] at h; exact h)

section
variable {H : Type} {enc : TypeId × Value → H} {P : Program} {w : World} {base : Nat} {spare : Nat → Bool} {held : Bool}

theorem sh_of {ρ : Rho} : ∀ {ks : List LK} {vs : List Value}, plain ks = true → KRel enc P w base spare held ks vs → ∃ ss, RelL ρ ss vs ∧ Sh ks ss
  | [], [], _, _ => ⟨[], trivial, rfl⟩
  | .fl k :: ks, v :: vs, hp, ⟨⟨b, hb, hw⟩, h2⟩ => by
    obtain ⟨ss, r, h⟩ := sh_of (ρ := ρ) (ks := ks) hp h2
    exact ⟨.fl k (canon k b) :: ss, ⟨⟨b, hb, flIs_wf hw⟩, r⟩, _, _, rfl, (flIs_wf hw).can, h⟩
  | .num k :: ks, v :: vs, hp, ⟨⟨n, hb, hw⟩, h2⟩ => by
    obtain ⟨ss, r, h⟩ := sh_of (ρ := ρ) (ks := ks) hp h2
    exact ⟨.num k n :: ss, ⟨hb, r⟩, _, _, rfl, hw, h⟩
  | .bo :: ks, v :: vs, hp, ⟨⟨b, hb⟩, h2⟩ => by
    obtain ⟨ss, r, h⟩ := sh_of (ρ := ρ) (ks := ks) hp h2
    exact ⟨.bo b :: ss, ⟨hb, r⟩, _, _, rfl, h⟩
  | .str :: ks, v :: vs, hp, ⟨⟨s, hb, hw⟩, h2⟩ => by
    obtain ⟨ss, r, h⟩ := sh_of (ρ := ρ) (ks := ks) hp h2
    exact ⟨.str s :: ss, ⟨hb, r⟩, _, _, rfl, hw, h⟩
  | .sl _ :: _, _, hp, _ => by cases hp

/-- A struct, by value. -/
theorem open_struct {r : Reach} {b0 : Nat} {n : Nat} {t : TypeId} {fs : Array Field} {ks : List LK} {v : Value} {d : DataW H} {ps : List MemPlace} (ρ : Rho) (ht : P.underlying t = some (.struct fs)) (hk : flat P n t = some ks) (hp : plain ks = true)
    (hval : Value.okWide P w r b0 t v) (hd : DataW.Trod enc P w base spare held t v d ps) : ∃ ss, (AV.agg ss).rel ρ v ∧ Sh ks ss := by
  simp only [Value.okWide, ht] at hval
  obtain ⟨cs, rfl, _⟩ := hval
  obtain ⟨fuel, hf⟩ := hd
  obtain ⟨ss, h1, h2⟩ := sh_of (ρ := ρ) hp (flat_rel n t ks hk fuel _ _ hf)
  exact ⟨ss, ⟨cs, rfl, h1⟩, h2⟩

/-- One cell, by value. -/
theorem open_cell {r : Reach} {b0 : Nat} {n : Nat} {t : TypeId} {k : LK} {v : Value} {d : DataW H} {ps : List MemPlace} (ρ : Rho) (hn : (match P.underlying t with | some (.struct _) => false | some (.array _ _) => false | _ => true) = true) (hk : flat P n t = some [k]) (hp : plain [k] = true)
    (hval : Value.okWide P w r b0 t v) (hd : DataW.Trod enc P w base spare held t v d ps) : ∃ s, (AV.one s).rel ρ v ∧ Sh [k] [s] := by
  have hc : v.cells = #[v] := by
    unfold Value.okWide at hval
    cases v <;> try rfl
    rename_i cs
    split at hval
    · rename_i h; rw [h] at hn; cases hn
    · rename_i h; rw [h] at hn; cases hn
    · unfold Cell.okWide at hval
      split at hval <;> simp_all [Cell.ok]
  obtain ⟨fuel, hf⟩ := hd
  rw [hc] at hf
  obtain ⟨ss, h1, h2⟩ := sh_of (ρ := ρ) hp (flat_rel n t [k] hk fuel _ _ hf)
  cases ss with
  | nil => exact h1.elim
  | cons s ss =>
    obtain ⟨h1, h3⟩ := h1
    cases ss with
    | nil => exact ⟨s, h1, h2⟩
    | cons _ _ => exact h3.elim

end

/-! ### The row -/

theorem trodAll_below {H : Type} {enc : TypeId × Value → H} {P : Program} (hl : laidOutB P = true) {W W' : World} (hb : Below W.heap.size W W') : ∀ {ts : List TypeId} {vs : List Value} {ds : List (DataW H)} {ps : List MemPlace},
    ts.all (fun t => P.readableRec t && decide (t < P.types.size)) = true → DataW.TrodAll enc P W 0 (fun _ => true) true ts vs ds ps → (∀ x ∈ ps, x.block < W.heap.size) →
    DataW.TrodAll enc P W' 0 (fun b => decide (b < W.heap.size)) true ts vs ds ps
  | [], [], [], _, _, h, _ => h
  | t :: ts, v :: vs, d :: ds, ps, hr, ⟨p, q, h1, h2, e⟩, hlt => by
    simp only [List.all_cons, Bool.and_eq_true, decide_eq_true_eq] at hr
    subst e
    exact ⟨p, q, Below.trod hl hr.1.1 hr.1.2 h1 hb (fun x hx => hlt x (List.mem_append_left _ hx)), trodAll_below hl hb hr.2 h2 (fun x hx => hlt x (List.mem_append_right _ hx)), rfl⟩

theorem trodAll_len {H : Type} {enc : TypeId × Value → H} {P : Program} {w : World} {base : Nat} {spare : Nat → Bool} {held : Bool} : ∀ {ts : List TypeId} {vs : List Value} {ds : List (DataW H)} {ps : List MemPlace}, DataW.TrodAll enc P w base spare held ts vs ds ps → ds.length = ts.length
  | [], [], [], _, _ => rfl
  | _ :: _, _ :: _, _ :: _, _, ⟨_, _, _, h, _⟩ => congrArg (· + 1) (trodAll_len h)

/-- What a law's row asks behind the call: true; all that came in reads as it did. -/
theorem post_true {H : Type} {enc : TypeId × Value → H} {P : Program} {f : FuncId} {fn : Func} {s : ChangeSpec} {apart : Bool} {tb : TypeId} (hv : s.vars = []) (hl : laidOutB P = true)
    (hr : fn.params.toList.all (fun t => P.readableRec t && decide (t < P.types.size)) = true) (hres : fn.resultTypes = #[tb]) (hb : P.underlying tb = some .bool)
    (hfn : ∀ (ds : List (DataW H)), ds.length = fn.params.toList.length → s.fn H ds = { results := [.lit (.bool true)], args := ds }) {W : World} {args : Array Value} {ds gs : List (DataW H)} {before : List MemPlace}
    (hW : DataW.Whole enc P fn.params.toList s.vars apart W args.toList ds gs before) (hc : Calls P f args W fun e w' => e = .returned (.bool true) ∧ Below W.heap.size W w') :
    Calls P f args W fun e W' => ∃ v, e = .returned v ∧ s.post enc P fn apart true false false W args v W' := by
  have hW' := hW
  obtain ⟨p, q, hA, hV, rfl, hfz, hnd⟩ := hW
  rw [hv] at hV
  obtain ⟨rfl, rfl⟩ := trodVars_none hV
  have hlt : ∀ x ∈ p, x.block < W.heap.size := fun x hx => by simpa using hW'.lt x (by simpa using hx)
  refine hc.mono fun e W' ⟨he, hbl⟩ => ⟨_, he, ds, [], p ++ [], [], p, [], hW', ?_, ?_, ?_, World.keptBut_mono (fun _ f => f.elim) (hbl.frame (fun _ => False)), fun h => by cases h⟩
  · have e1 : (Value.bool true).resultList fn.resultTypes.size = [Value.bool true] := by rw [hres]; rfl
    rw [e1, List.append_nil, hfn ds (trodAll_len hA), hres]
    exact ⟨[], [], shut_bool hb true, trodAll_mk0, rfl⟩
  · rw [List.append_nil, hfn ds (trodAll_len hA)]
    exact trodAll_below hl hbl hr hA hlt
  · rw [List.append_nil, hfn ds (trodAll_len hA), hv]
    exact (rfl : ([] : List MemPlace) = [])

end Go.Proofs.Ytdmcpgbnomhahaa
