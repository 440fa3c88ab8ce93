/-
  Functions that write into a box of the caller's own. No conditions.
-/
import Derived.Test.YtdmcpgbnomhahaaWr
namespace Go.Proofs.Ytdmcpgbnomhahaa
set_option linter.unusedVariables false
set_option linter.unusedSimpArgs false
open Go.RowKit

/-- The box's name 2 is still the place's name 0. -/
def tieQ : AV → Bool
  | .tie i j => Nat.beq i 0 && Nat.beq j 2
  | _ => false

theorem tieQ_ok {ρ : Rho} {a : AV} {v : Value} (h : tieQ a = true) (hr : a.rel ρ v) : ∃ p, ρ 0 = some p ∧ ρ 2 = some p := by
  unfold tieQ at h
  split at h
  · rename_i i j
    rw [Bool.and_eq_true] at h
    have h1 := Nat.eq_of_beq_eq_true h.1
    have h2 := Nat.eq_of_beq_eq_true h.2
    subst h1; subst h2
    exact hr
  · cases h

/-- What a function that writes is known to do, out of its body. 'ks' must hold 999. -/
def mkQ (P : Program) (hmix : P.follows .mixedOrders = true) (env : List (Ctr P)) (f : FuncId) (fn : Func) (root : Code) (hf : P.funcs[f]? = some fn) (hname : (fn.name == "runtime.NumGoroutine") = false)
    (hb : fn.body = some root) (ks : List Nat) (n : Nat) (hn : Nat.ble n fn.ntmps = true) (hds : dstC n root = true) (ss : List (SumF P n root)) : Wq P f :=
  {
    run := fun args E C => (evCodeF P n env root ss [none, E.map fun p => .cols p.1 p.2] ks root [] ⟨(999, .tie 0 2) :: enumF 0 args, [none, E.map fun p => .cols p.1 p.2, some C]⟩).bind fun r =>
      match r.1 with
      | .exit _ => .fail
      | _ => match tieQ (findF 999 r.2.sl), r.2.mem[2]? with
        | true, some (some D) => (evResLF P r.2 fn.results.toList).bind fun ps => if ptsPtr ps then .fail else .leaf (packRes ps, D)
        | _, _ => .fail
    ok := by
      intro args E C ρ w vals b hm hr0 hr1 hne hown ha o a K Q h
      have hcall : (callFunc f vals).run P w = .ok (.enter f vals) w := by
        have h1 : fn.name ≠ "runtime.NumGoroutine" := by simpa using hname
        simp [callFunc, hf, h1, hb]
      rw [hcall]
      show Calls P f vals w _
      refine calls_of_wp hf hb ?_
      have hblt : b < w.heap.size := hown.lt
      have hbase : Base (fun k => k < w.heap.size ∧ k ≠ b) w (fun z => if z = 0 then some (b, 0) else if z = 1 then ρ 1 else none) [none, E.map fun p => .cols p.1 p.2] := ⟨fun z hz => by
        have hz : 2 ≤ z := hz
        show (if _ then _ else _) = _
        rw [if_neg (by omega), if_neg (by omega)], fun z D hD => by
        match z, hD with
        | 0, hD => simp at hD
        | 1, hD =>
          obtain ⟨b1, o1, k1, k2⟩ := hm.blk 1 D hD
          have hE : E ≠ none := fun e => by subst e; simp at hD
          have hD' : ∃ n cs, D = .cols n cs := by
            cases hEq : E with
            | none => exact absurd hEq hE
            | some q => rw [hEq] at hD; simp at hD; exact ⟨_, _, hD.symm⟩
          obtain ⟨nn, cs, rfl⟩ := hD'
          exact ⟨b1, o1, k1, colsB_at k2, k2.lt, hne b1 o1 hE k1⟩
        | z + 2, hD => simp at hD⟩
      have hnle : n ≤ fn.ntmps := Nat.le_of_ble_eq_true hn
      have hc : ConcF n (fun k => k < w.heap.size ∧ k ≠ b) ([none, E.map fun p => .cols p.1 p.2] : Mem).length w (fun z => if z = 0 then some (b, 0) else if z = 1 then ρ 1 else none) ρ { tmps := vals ++ Array.replicate (fn.ntmps - vals.size) undef, defers := [] } w ⟨(999, .tie 0 2) :: enumF 0 args, [none, E.map fun p => .cols p.1 p.2, some C]⟩ := by
        refine ⟨⟨rfl, anySlots ρ _, hm, ⟨fun id D hid hD => ?_, fun i j bi oi bj oj hi hij hCi hCj h1 h2 => ?_⟩, Bel.refl _ _, fun _ h => h.1, fun z hz => ?_, by show 2 ≤ 3; omega⟩, by simp; omega, fun t => ?_⟩
        · match id, hid, hD with
          | 0, hid, _ => exact absurd hid (by show ¬ (2 ≤ 0); omega)
          | 1, hid, _ => exact absurd hid (by show ¬ (2 ≤ 1); omega)
          | 2, _, _ => exact ⟨b, hr1, fun h => h.2 rfl, hown⟩
          | id + 3, _, hD => simp at hD
        · obtain ⟨Ci, hCi⟩ := hCi
          obtain ⟨Cj, hCj⟩ := hCj
          match i, j, hi, hij, hCi, hCj with
          | 0, _, hi, _, _, _ => exact absurd hi (by show ¬ (2 ≤ 0); omega)
          | 1, _, hi, _, _, _ => exact absurd hi (by show ¬ (2 ≤ 1); omega)
          | 2, 0, _, _, _, hCj => simp at hCj
          | 2, 1, _, _, _, hCj =>
            have hE : E ≠ none := fun e => by subst e; simp at hCj
            rw [hr1] at h1; cases h1
            exact fun e => hne bj oj hE h2 e.symm
          | 2, 2, _, hij, _, _ => exact absurd rfl hij
          | 2, j + 3, _, _, _, hCj => simp at hCj
          | i + 3, _, _, _, hCi, _ => simp at hCi
        · have hz : z < 2 := hz
          match z, hz with
          | 0, _ => exact hr0
          | 1, _ => rfl
        · show AV.rel ρ (findF t ((999, .tie 0 2) :: enumF 0 args)) _
          cases hb : Nat.beq 999 t with
          | true => simp only [findF, hb]; exact ⟨_, hr0, hr1⟩
          | false =>
            simp only [findF, hb]
            rcases enumF_get t args 0 with e | ⟨_, e⟩
            · rw [e]; trivial
            · have hs := (start_slots ha fn.ntmps).2 t
              have ht : t < args.length := by
                have := (List.getElem?_eq_some_iff.1 e).1; omega
              have e2 : (args ++ List.replicate (fn.ntmps - args.length) AV.und).getD t .und = findF t (enumF 0 args) := by
                simp only [List.getD]
                rw [List.getElem?_append_left ht]
                have e' : args[t]? = some (findF t (enumF 0 args)) := e
                rw [e']; rfl
              rw [e2] at hs
              exact hs
      refine evCodeF_ok hmix hbase root [] rfl hds ρ _ w _ hc _ (T.holds_mono (T.holds_bind h) fun r hh ρ' a' w' hc' => ?_)
      obtain ⟨e, st⟩ := r
      have one : ∀ (r : ResultVar) {Φ : Pt → Prop}, (evResF P st r).holds Φ → ∃ p v, Φ p ∧ p.rel ρ' v ∧ (resSem a'.tmps r).run P w' = .ok v w' := by
        intro r Φ h
        cases r with
        | tmp t =>
          obtain ⟨p, h1, h2⟩ := toPt_ok (hc'.slots t) h
          exact ⟨p, _, h1, h2, rfl⟩
        | cell b t =>
          have hb := hc'.slots b
          simp only [evResF] at h
          split at h <;> try exact h.elim
          rename_i s hsv
          rw [hsv] at hb
          obtain ⟨v, h1, p, h2, h3⟩ := evLoad_ok (P := P) (w := w') hc'.conc.mem t hb (fun v => ∃ p, Φ p ∧ p.rel ρ' v) (T.holds_mono (T.holds_bind h) fun x hx v hv => toPt_ok hv hx)
          refine ⟨p, v, h2, h3, ?_⟩
          have hptr : ∃ ad, a'.tmps.getD b undef = .pointer (some ad) := by
            generalize a'.tmps.getD b undef = u at *
            unfold Instr.loadAt at h1
            rw [Sem.run_bind] at h1
            cases u <;> simp [Instr.sureAddr] at h1
            case pointer ad =>
              cases ad with
              | some ad => exact ⟨ad, rfl⟩
              | none => simp at h1
          obtain ⟨ad, had⟩ := hptr
          rw [had] at h1
          simp only [resSem]
          rw [had]
          simpa [Instr.loadAt, Instr.sureAddr, asAddr] using h1
      have all : ∀ (rs : List ResultVar) {Φ : List Pt → Prop}, (evResLF P st rs).holds Φ → ∃ ps vs, Φ ps ∧ RelP ρ' ps vs ∧ ps.length = vs.length ∧ (rs.mapM (resSem a'.tmps)).run P w' = .ok vs w' := by
        intro rs
        induction rs with
        | nil => intro Φ h; exact ⟨[], [], h, trivial, rfl, by simp⟩
        | cons r rs ih =>
          intro Φ h
          obtain ⟨p, v, h1, h2, h3⟩ := one r (T.holds_bind h)
          obtain ⟨ps, vs, k1, k2, k3, k4⟩ := ih (T.holds_bind h1)
          refine ⟨p :: ps, v :: vs, k1, ⟨h2, k2⟩, by simp [k3], ?_⟩
          simp [List.mapM_cons, h3, k4]
      have fin : ((match tieQ (findF 999 st.sl), st.mem[2]? with
        | true, some (some D) => (evResLF P st fn.results.toList).bind fun ps => if ptsPtr ps then T.fail else .leaf (packRes ps, D)
        | _, _ => .fail).holds fun r => ∀ (ρ' : Rho) w' v, ρ' 1 = ρ 1 → BlkAt ρ' w' b 0 r.2 → OwnAt w' b → Bel (fun k => k < w.heap.size ∧ k ≠ b) w w' → r.1.rel ρ' v → K (a.put o.dst v) w') →
          a'.defers = [] ∧ ∃ v, (results fn a'.tmps).run P w' = .ok v w' ∧ K (a.put o.dst v) w' := by
        intro hh
        split at hh <;> try exact hh.elim
        rename_i D htie hD
        obtain ⟨p0, hp0, hp1⟩ := tieQ_ok htie (hc'.slots 999)
        have hk0 : ρ' 0 = some (b, 0) := by
          have := hc'.conc.keep 0 (by show 0 < 2; omega)
          exact this
        have hk1 : ρ' 1 = ρ 1 := by
          have := hc'.conc.keep 1 (by show 1 < 2; omega)
          exact this
        rw [hk0] at hp0; cases hp0
        obtain ⟨b1, hb1, _, hown1⟩ := hc'.conc.own.low 2 D (Nat.le_refl 2) hD
        rw [hp1] at hb1; cases hb1
        obtain ⟨b2, o2, hb2, hblk2⟩ := hc'.conc.mem.blk 2 D hD
        rw [hp1] at hb2; cases hb2
        obtain ⟨ps, vs, h1, h2, h3, h4⟩ := all _ (T.holds_bind hh)
        have hrun : (results fn a'.tmps).run P w' = .ok (if h : vs.toArray.size = 1 then vs.toArray[0] else .tuple vs.toArray) w' := by
          have e : results fn a'.tmps = (do let us ← fn.results.mapM (resSem a'.tmps); pure (if h : us.size = 1 then us[0] else .tuple us)) := by
            unfold results
            congr 1
          rw [e, Array.mapM_eq_mapM_toList]
          simp [h4]
        refine ⟨hc'.conc.defers, _, hrun, ?_⟩
        have hrel : (packRes ps).rel ρ' (if h : vs.toArray.size = 1 then vs.toArray[0] else .tuple vs.toArray) := by
          match ps, vs, h2, h3 with
          | [], [], hr, _ => exact ⟨#[], rfl, hr⟩
          | [p], [v], hr, _ => exact Pt.av_rel hr.1
          | p :: q :: ps, v :: u :: vs, hr, _ =>
            have : ¬ ((v :: u :: vs).toArray.size = 1) := by simp
            rw [dif_neg this]
            exact ⟨_, rfl, hr⟩
        by_cases hp : ptsPtr ps = true
        · rw [if_pos hp] at h1; exact h1.elim
        · rw [if_neg hp] at h1
          exact h1 ρ' w' _ hk1 hblk2 hown1 hc'.conc.below hrel
      cases e with
      | normal => exact fin hh
      | ret => exact fin hh
      | exit id => exact hh.elim }

/-- The same in other words. -/
def Wq.re {P : Program} {f : FuncId} (W : Wq P f) (run : List AV → Option (Nat × List Col) → Blk → T (AV × Blk))
    (h : ∀ args E C (Φ : AV × Blk → Prop), (∀ r s : AV × Blk, (∀ ρ v, r.1.rel ρ v → s.1.rel ρ v) → BlLe r.2 s.2 → Φ s → Φ r) → (run args E C).holds Φ → (W.run args E C).holds Φ) : Wq P f where
  run := run
  ok := fun args E C ρ w vals b hm h0 h1 hne hown ha o a K Q hh =>
    W.ok args E C ρ w vals b hm h0 h1 hne hown ha o a K Q (h args E C _ (fun r s hv hb hs ρ' w' v k0 k1 k2 k3 k4 => hs ρ' w' v k0 (hb _ _ _ _ k1) k2 k3 (hv _ _ k4)) hh)

/-- A contract that only writes. -/
def Ctr.onlyQ {P : Program} {f : FuncId} (W : Wq P f) : Ctr P where
  f := f
  run := fun _ _ => .fail
  ok := fun _ _ _ _ _ _ _ _ _ _ _ h => h.elim
  wq := some W

end Go.Proofs.Ytdmcpgbnomhahaa
