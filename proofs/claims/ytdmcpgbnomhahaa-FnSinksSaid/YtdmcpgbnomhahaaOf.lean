/-
  The symbolic walk: a function's results; a contract out of a function's body. No conditions.
-/
import Derived.Test.YtdmcpgbnomhahaaOw
namespace Go.Proofs.Ytdmcpgbnomhahaa
set_option linter.unusedVariables false
set_option linter.unusedSimpArgs false
open Go.RowKit

def toPt : AV → T Pt
  | .one s => .leaf (.one s)
  | .agg l => .leaf (.agg l)
  | _ => .fail

def evRes (P : Program) (st : St) : ResultVar → T Pt
  | .tmp t => toPt (st.sl.getD t .und)
  | .cell a t =>
    match st.sl.getD a .und with
    | .one p => (evLoad P st.mem t p).bind toPt
    | _ => .fail

def evResL (P : Program) (st : St) : List ResultVar → T (List Pt)
  | [] => .leaf []
  | r :: rs => (evRes P st r).bind fun p => (evResL P st rs).bind fun ps => .leaf (p :: ps)

def packRes : List Pt → AV
  | [p] => p.av
  | ps => .tup ps

def svPtr : SV → Bool
  | .ptr .. => true
  | .sl .. => true
  | .su .. => true
  | .so .. => true
  | .fn _ [] => false
  | .fn _ _ => true
  | _ => false

def svsPtr : List SV → Bool
  | [] => false
  | s :: l => svPtr s || svsPtr l

def ptPtr : Pt → Bool
  | .one s => svPtr s
  | .agg l => svsPtr l

def ptsPtr : List Pt → Bool
  | [] => false
  | s :: l => ptPtr s || ptsPtr l

theorem svPtr_rel {ρ ρ' : Rho} {s : SV} {v : Value} (hp : svPtr s = false) (h : s.rel ρ v) : s.rel ρ' v := by
  cases s <;> simp [svPtr] at hp <;> try exact h
  case fn f caps =>
    cases caps with
    | nil => obtain ⟨vs, h1, h2⟩ := h; exact ⟨vs, h1, by cases hv : vs.toList with | nil => trivial | cons x l => rw [hv] at h2; exact h2.elim⟩
    | cons c l => simp [svPtr] at hp

theorem svsPtr_rel {ρ ρ' : Rho} : ∀ {l : List SV} {vs : List Value}, svsPtr l = false → RelL ρ l vs → RelL ρ' l vs
  | [], [], _, _ => trivial
  | s :: l, v :: vs, hp, ⟨h1, h2⟩ => by
    simp [svsPtr] at hp
    exact ⟨svPtr_rel hp.1 h1, svsPtr_rel hp.2 h2⟩

theorem ptPtr_rel {ρ ρ' : Rho} {p : Pt} {v : Value} (hp : ptPtr p = false) (h : p.rel ρ v) : p.rel ρ' v := by
  cases p with
  | one s => exact svPtr_rel hp h
  | agg l => obtain ⟨cs, h1, h2⟩ := h; exact ⟨cs, h1, svsPtr_rel hp h2⟩

theorem ptsPtr_rel {ρ ρ' : Rho} : ∀ {l : List Pt} {vs : List Value}, ptsPtr l = false → RelP ρ l vs → RelP ρ' l vs
  | [], [], _, _ => trivial
  | s :: l, v :: vs, hp, ⟨h1, h2⟩ => by
    simp [ptsPtr] at hp
    exact ⟨ptPtr_rel hp.1 h1, ptsPtr_rel hp.2 h2⟩

theorem toPt_ok {ρ : Rho} {x : AV} {v : Value} (hx : x.rel ρ v) {Φ : Pt → Prop} (h : (toPt x).holds Φ) : ∃ p, Φ p ∧ p.rel ρ v := by
  cases x <;> simp only [toPt] at h
  · exact ⟨_, h, hx⟩
  · exact ⟨_, h, hx⟩
  all_goals exact h.elim

/-- The computation of one result. -/
def resSem (tmps : Array Value) : ResultVar → Sem Value
  | .tmp t => pure (tmps.getD t undef)
  | .cell a t => do loadVar t (← asAddr (tmps.getD a undef))

theorem evRes_ok {P : Program} {ρ : Rho} {w : World} {tmps : Array Value} {st : St} (hs : SlotsOK ρ st.sl tmps) (hm : MemOK ρ w st.mem) (r : ResultVar) {Φ : Pt → Prop} (h : (evRes P st r).holds Φ) :
    ∃ p v, Φ p ∧ p.rel ρ v ∧ (resSem tmps r).run P w = .ok v w := by
  cases r with
  | tmp t =>
    obtain ⟨p, h1, h2⟩ := toPt_ok (hs.2 t) h
    exact ⟨p, _, h1, h2, rfl⟩
  | cell a t =>
    have ha := hs.2 a
    simp only [evRes] at h
    split at h <;> try exact h.elim
    rename_i s hsv
    rw [hsv] at ha
    obtain ⟨v, h1, p, h2, h3⟩ := evLoad_ok (P := P) (w := w) hm t ha (fun v => ∃ p, Φ p ∧ p.rel ρ v) (T.holds_mono (T.holds_bind h) fun x hx v hv => toPt_ok hv hx)
    refine ⟨p, v, h2, h3, ?_⟩
    -- a pointer
    have hptr : ∃ ad, tmps.getD a undef = .pointer (some ad) := by
      generalize tmps.getD a undef = u at *
      unfold Instr.loadAt at h1
      rw [Sem.run_bind] at h1
      cases u <;> simp [Instr.sureAddr] at h1
      case pointer ad =>
        cases ad with
        | some ad => exact ⟨ad, rfl⟩
        | none => simp at h1
    obtain ⟨ad, had⟩ := hptr
    rw [had] at h1
    simp only [resSem]
    rw [had]
    simpa [Instr.loadAt, Instr.sureAddr, asAddr] using h1

theorem evResL_ok {P : Program} {ρ : Rho} {w : World} {tmps : Array Value} {st : St} (hs : SlotsOK ρ st.sl tmps) (hm : MemOK ρ w st.mem) : ∀ (rs : List ResultVar) {Φ : List Pt → Prop}, (evResL P st rs).holds Φ →
    ∃ ps vs, Φ ps ∧ RelP ρ ps vs ∧ ps.length = vs.length ∧ (rs.mapM (resSem tmps)).run P w = .ok vs w
  | [], Φ, h => ⟨[], [], h, trivial, rfl, by simp⟩
  | r :: rs, Φ, h => by
    obtain ⟨p, v, h1, h2, h3⟩ := evRes_ok (P := P) hs hm r (T.holds_bind h)
    obtain ⟨ps, vs, k1, k2, k3, k4⟩ := evResL_ok hs hm rs (T.holds_bind h1)
    refine ⟨p :: ps, v :: vs, k1, ⟨h2, k2⟩, by simp [k3], ?_⟩
    simp [List.mapM_cons, h3, k4]

theorem results_ok {P : Program} {ρ : Rho} {w : World} {fn : Func} {tmps : Array Value} {st : St} (hs : SlotsOK ρ st.sl tmps) (hm : MemOK ρ w st.mem) {Φ : List Pt → Prop} (h : (evResL P st fn.results.toList).holds Φ) :
    ∃ ps v, Φ ps ∧ (∀ ρ', (ρ' = ρ ∨ ptsPtr ps = false) → (packRes ps).rel ρ' v) ∧ (results fn tmps).run P w = .ok v w := by
  obtain ⟨ps, vs, h1, h2, h3, h4⟩ := evResL_ok (P := P) hs hm _ h
  have hrun : (results fn tmps).run P w = .ok (if h : vs.toArray.size = 1 then vs.toArray[0] else .tuple vs.toArray) w := by
    have e : results fn tmps = (do let us ← fn.results.mapM (resSem tmps); pure (if h : us.size = 1 then us[0] else .tuple us)) := by
      unfold results
      congr 1
    rw [e, Array.mapM_eq_mapM_toList]
    simp [h4]
  refine ⟨ps, _, h1, fun ρ' hρ' => ?_, hrun⟩
  have h2' : RelP ρ' ps vs := by
    rcases hρ' with rfl | hp
    · exact h2
    · exact ptsPtr_rel hp h2
  match ps, vs, h2', h3 with
  | [], [], hr, _ => exact ⟨#[], rfl, hr⟩
  | [p], [v], hr, _ => exact Pt.av_rel hr.1
  | p :: q :: ps, v :: u :: vs, hr, _ =>
    have : ¬ ((v :: u :: vs).toArray.size = 1) := by simp
    rw [dif_neg this]
    exact ⟨_, rfl, hr⟩

/-- A function's body on arguments. -/
def evFun (P : Program) (fn : Func) (walk : Nat → St → T (EX × St)) (args : List AV) (mem : Mem) : T (AV × Mem) :=
  (walk mem.length { sl := args ++ List.replicate (fn.ntmps - args.length) .und, mem := mem }).bind fun r =>
    match r.1 with
    | .exit _ => .fail
    | _ => (evResL P r.2 fn.results.toList).bind fun ps => .leaf (packRes ps, if ptsPtr ps then r.2.mem.drop mem.length else [])

theorem RelA.length {ρ : Rho} : ∀ {l : List AV} {vs : List Value}, RelA ρ l vs → l.length = vs.length
  | [], [], _ => rfl
  | _ :: _, _ :: _, ⟨_, h2⟩ => congrArg (· + 1) (RelA.length h2)

theorem RelA.get {ρ : Rho} : ∀ {l : List AV} {vs : List Value}, RelA ρ l vs → ∀ (i : Nat) (s : AV) (v : Value), l[i]? = some s → vs[i]? = some v → s.rel ρ v
  | [], [], _, i, s, v, h, _ => by simp at h
  | _ :: _, _ :: _, ⟨h1, h2⟩, i, s, v, h, hv => by
    cases i with
    | zero => simp at h hv; subst h; subst hv; exact h1
    | succ i => exact RelA.get h2 i s v (by simpa using h) (by simpa using hv)

theorem start_slots {ρ : Rho} {args : List AV} {vals : Array Value} (ha : RelA ρ args vals.toList) (n : Nat) : SlotsOK ρ (args ++ List.replicate (n - args.length) .und) (vals ++ Array.replicate (n - vals.size) undef) := by
  have hl : args.length = vals.size := by simpa using ha.length
  refine ⟨by simp [hl], fun t => ?_⟩
  by_cases ht : t < args.length
  · have e1 : (args ++ List.replicate (n - args.length) AV.und).getD t AV.und = args[t] := by
      simp only [List.getD]
      rw [List.getElem?_append_left ht, List.getElem?_eq_getElem ht]; rfl
    have e2 : (vals ++ Array.replicate (n - vals.size) undef).getD t undef = vals[t]'(by omega) := by
      rw [Array.getD_eq_getD_getElem?, Array.getElem?_append_left (by omega), Array.getElem?_eq_getElem (by omega)]
      rfl
    rw [e1, e2]
    exact ha.get t _ _ (by simp [ht]) (by simp)
  · have e1 : (args ++ List.replicate (n - args.length) AV.und).getD t AV.und = AV.und := by
      simp only [List.getD]
      rw [List.getElem?_append_right (by omega), List.getElem?_replicate]
      split <;> rfl
    have e2 : (vals ++ Array.replicate (n - vals.size) undef).getD t undef = undef := by
      rw [Array.getD_eq_getD_getElem?, Array.getElem?_append_right (by omega), Array.getElem?_replicate]
      split <;> rfl
    rw [e1, e2]; rfl

/-- A CONTRACT OUT OF A FUNCTION's BODY, walked some way. -/
def mkCtrW (P : Program) (walk : Nat → St → T (EX × St)) (f : FuncId) (fn : Func) (root : Code) (hf : P.funcs[f]? = some fn) (hname : (fn.name == "runtime.NumGoroutine") = false)
    (hb : fn.body = some root) (hwalk : CodeOK P root walk) : Ctr P where
  f := f
  run := evFun P fn walk
  ok := by
    intro args mem ρ w vals hm ha o a K Q h
    have hcall : (callFunc f vals).run P w = .ok (.enter f vals) w := by
      have h1 : fn.name ≠ "runtime.NumGoroutine" := by simpa using hname
      simp [callFunc, hf, h1, hb]
    rw [hcall]
    show Calls P f vals w _
    refine calls_of_wp hf hb ?_
    have hc : Conc (fun k => k < w.heap.size) mem.length w ρ ρ { tmps := vals ++ Array.replicate (fn.ntmps - vals.size) undef, defers := [] } w { sl := args ++ List.replicate (fn.ntmps - args.length) .und, mem := mem } := by
      have hlt : ∀ (id : Nat) (C : Blk), mem[id]? = some (some C) → id < mem.length := fun id C h => (List.getElem?_eq_some_iff.1 h).1
      refine ⟨rfl, start_slots ha fn.ntmps, hm, ⟨fun id C hid hC => ?_, fun i j bi oi bj oj hi _ hC => ?_⟩, Bel.refl _ _, fun _ h => h, fun _ _ => rfl, Nat.le_refl _⟩
      · have := hlt id C hC
        omega
      · obtain ⟨C, hC⟩ := hC
        have := hlt i C hC
        omega
    refine hwalk _ mem.length _ ρ ρ _ w _ hc _ (T.holds_mono (T.holds_bind h) fun r hh ρ' a' w' hc' => ?_)
    obtain ⟨e, st⟩ := r
    have fin : (((evResL P st fn.results.toList).bind fun ps => T.leaf (packRes ps, if ptsPtr ps then st.mem.drop mem.length else [])).holds fun r => ∀ ρ' w' v, New ρ ρ' w w' mem.length r.2 → r.1.rel ρ' v → K (a.put o.dst v) w') →
        a'.defers = [] ∧ ∃ v, (results fn a'.tmps).run P w' = .ok v w' ∧ K (a.put o.dst v) w' := by
      intro hh
      obtain ⟨ps, v, h1, h2, h3⟩ := results_ok (P := P) (fn := fn) hc'.slots hc'.mem (T.holds_bind hh)
      refine ⟨hc'.defers, v, h3, ?_⟩
      have h1 : ∀ ρ' w' v, New ρ ρ' w w' mem.length (if ptsPtr ps then st.mem.drop mem.length else []) → (packRes ps).rel ρ' v → K (a.put o.dst v) w' := h1
      by_cases hp : ptsPtr ps = true
      · rw [if_pos hp] at h1
        have hlen : mem.length ≤ st.mem.length := hc'.len
        refine h1 ρ' w' v ?_ (h2 ρ' (.inl rfl))
        refine ⟨fun id hid => hc'.keep id hid, fun id hid => ?_, hc'.below.up, fun i C hC => ?_, fun i j b ob b' ob' hij hCi hCj hi hj => ?_⟩
        · refine hc'.mem.dom id ?_
          show st.mem.length ≤ id
          rw [List.length_drop] at hid
          omega
        · rw [List.getElem?_drop] at hC
          obtain ⟨b, k1, k2, k3⟩ := hc'.own.low _ C (by omega) hC
          obtain ⟨b', o', k4, k5⟩ := hc'.mem.blk _ C hC
          rw [k1] at k4; cases k4
          exact ⟨b, k1, Nat.le_of_not_lt k2, k5, k3⟩
        · obtain ⟨C1, hC1⟩ := hCi
          obtain ⟨C2, hC2⟩ := hCj
          rw [List.getElem?_drop] at hC1 hC2
          exact hc'.own.inj _ _ b ob b' ob' (by omega) (by omega) ⟨C1, hC1⟩ ⟨C2, hC2⟩ hi hj
      · have hp' : ptsPtr ps = false := by simpa using hp
        rw [if_neg hp] at h1
        exact h1 ρ w' v (New.refl ρ w w' _ hm.dom hc'.below.up) (h2 ρ (.inr hp'))
    cases e with
    | normal => exact fin hh
    | ret => exact fin hh
    | exit id => exact hh.elim

/-- A CONTRACT OUT OF A FUNCTION's BODY. -/
def mkCtr (P : Program) (env : List (Ctr P)) (draw : Nat → Array Oper → St → T St) (hdraw : ∀ m0, DrawOK P m0 (draw m0)) (f : FuncId) (fn : Func) (root : Code) (hf : P.funcs[f]? = some fn) (hname : (fn.name == "runtime.NumGoroutine") = false)
    (hb : fn.body = some root) (ss : List (Sum P root)) : Ctr P :=
  mkCtrW P (fun m0 st => evCode P env root ss m0 (draw m0) root [] st) f fn root hf hname hb fun B m0 w0 ρ0 ρ a w st hc Q h => evCode_ok (hdraw m0) root [] rfl B w0 ρ0 ρ a w st hc Q h

/-- No region that draws is walked. -/
def noDraw : Nat → Array Oper → St → T St := fun _ _ _ => .fail
theorem noDraw_ok (P : Program) (m0 : Nat) : DrawOK P m0 (noDraw m0) := fun _ _ _ _ _ _ _ _ _ _ _ h => h.elim

end Go.Proofs.Ytdmcpgbnomhahaa
