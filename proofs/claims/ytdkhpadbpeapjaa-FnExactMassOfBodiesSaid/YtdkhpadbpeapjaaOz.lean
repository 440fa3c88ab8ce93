/-
  The symbolic walk: one operation, a list of operations, code, a function. No conditions.
-/
import Derived.Test.YtdkhpadbpeapjaaOx
namespace Go.Proofs.Ytdkhpadbpeapjaa
set_option linter.unusedVariables false
set_option linter.unusedSimpArgs false
open Go.RowKit

structure St where
  sl : List AV
  mem : Mem

/-! ### One operation -/

def isPlain : SV → Bool
  | .val _ => false
  | .top => false
  | _ => true

theorem plain_rel {ρ : Rho} {s : SV} {v : Value} (hs : isPlain s = true) (h : s.rel ρ v) : v ≠ .nilIface := by
  cases s <;> simp only [SV.rel, ptrRel] at h
  case fl => obtain ⟨b, rfl, _⟩ := h; simp
  case ptr => obtain ⟨b, o, _, rfl⟩ := h; simp
  case sl => obtain ⟨b, o, _, rfl⟩ := h; simp
  case fn => obtain ⟨b, rfl, _⟩ := h; simp
  case bt => obtain ⟨b, rfl, _⟩ := h; simp
  case val => simp [isPlain] at hs
  case top => simp [isPlain] at hs
  all_goals (subst h; simp)

def capOf : AV → Option (Nat × Nat × Nat × Nat)
  | .one (.ptr id sz i j) => some (id, sz, i, j)
  | _ => none

def capsOf : List AV → Option (List (Nat × Nat × Nat × Nat))
  | [] => some []
  | x :: r => match capOf x, capsOf r with
    | some c, some l => some (c :: l)
    | _, _ => none

theorem capsOf_ok {ρ : Rho} : ∀ {l : List AV} {vs : List Value} {cs : List (Nat × Nat × Nat × Nat)}, capsOf l = some cs → RelA ρ l vs → capsRel ρ cs vs
  | [], [], cs, h, _ => by cases h; trivial
  | x :: l, v :: vs, cs, h, ⟨h1, h2⟩ => by
    unfold capsOf at h
    split at h
    · rename_i c l' hc hl
      cases h
      refine ⟨?_, capsOf_ok hl h2⟩
      unfold capOf at hc
      split at hc
      · cases hc; exact h1
      · cases hc
    · cases h

/-- 'len'. -/
def evLen (P : Program) (t : TypeId) (x : AV) : T AV :=
  match P.underlying t, x with
  | some (.slice _), .one (.sl _ _ _ len _ kn) => .leaf (.one (mkInt kn .i64 len))
  | some (.slice _), .one (.val (.slice _ n _)) => .leaf (.one (.int .i64 n))
  | some .string, .one (.str s) => .leaf (.one (.num .i64 s.size))
  | some (.array n _), _ => .leaf (.one (.int .i64 n))
  | _, _ => .fail

theorem evLen_ok {P : Program} {ρ : Rho} {w : World} (t ty : TypeId) {x : AV} {u : Value} (hx : x.rel ρ u) : PureOK P ρ w (Builtin.len_ #[t] ty #[u]) (evLen P t x) := by
  unfold evLen
  split <;> try exact .fail
  · rename_i hu
    obtain ⟨b, o, _, rfl⟩ := hx
    exact .leaf (by simp [Builtin.len_, run_underlying hu, goInt]) mkInt_rel
  · rename_i hu
    obtain ⟨rfl, _⟩ := hx
    exact .leaf (by simp [Builtin.len_, run_underlying hu, goInt]) rfl
  · rename_i hu
    cases hx
    exact .leaf (by simp [Builtin.len_, run_underlying hu, goInt]) rfl
  · rename_i hu
    exact .leaf (by simp [Builtin.len_, run_underlying hu, goInt]) rfl

/-- An element of an array's value; a byte of a string. -/
def evIndex (P : Program) (t : TypeId) (x : AV) (i : SV) : T AV :=
  match P.underlying t, x, i.int? with
  | some (.array n e), .agg l, some (_, m, _) =>
    match P.info? e with
    | some ti => .need (decide (0 ≤ m ∧ m < n)) (evPart P e l (m.toNat * ti.size))
    | none => .fail
  | _, _, _ => .fail

theorem evIndex_ok {P : Program} {ρ : Rho} {w : World} (t : TypeId) {x : AV} {i : SV} {u v : Value} (hx : x.rel ρ u) (hi : i.rel ρ v) : PureOK P ρ w (Instr.index t u v) (evIndex P t x i) := by
  unfold evIndex
  split <;> try exact .fail
  rename_i n e l k m kn hu hint
  split <;> try exact .fail
  rename_i ti hti
  refine .need fun hd => ?_
  have e1 := int?_rel hint hi; subst e1
  obtain ⟨cs, rfl, hl⟩ := hx
  have hd' : 0 ≤ m ∧ m < (n : Int) := by simpa using hd
  intro next hn
  obtain ⟨v, w', h1, h2⟩ := evPart_ok (P := P) (w := w) e hl (m.toNat * ti.size) next hn
  refine ⟨v, w', ?_, h2⟩
  simp [Instr.index, asIntOf, run_underlying hu, hd'.1, hd'.2, run_sizeOf' hti, h1]

def evQ (P : Program) (env : List (Ctr P)) (sl : List AV) (mem : Mem) (op : Op) : T (AV × Mem) :=
  match op with
  | .move x => .leaf (evOpd sl x, [])
  | .assign x => .leaf (evOpd sl x, [])
  | .pick c a b =>
    match evOpd sl c with
    | .one (.tt true) => .leaf (evOpd sl a, [])
    | .one (.tt false) => .leaf (evOpd sl b, [])
    | .one (.bo c) => .ite c (.leaf (evOpd sl a, [])) (.leaf (evOpd sl b, []))
    | _ => .fail
  | .alloc t =>
    match zeroCells P t with
    | some l => evBox mem l
    | none => .fail
  | .box _ x =>
    match (evOpd sl x).cells with
    | some l => evBox mem l
    | none => .fail
  | .load t x =>
    match evOpd sl x with
    | .one p => pureT (evLoad P mem t p)
    | _ => .fail
  | .binOp op t x y _ =>
    match evOpd sl x, evOpd sl y with
    | .one a, .one b => if isPlain a then pureT (evBin P op t a b) else .fail
    | _, _ => .fail
  | .unOp op _ x =>
    match evOpd sl x with
    | .one a => pureT (evUn op a)
    | _ => .fail
  | .convert src dst x =>
    match evOpd sl x with
    | .one a => pureT (evConv P src dst a)
    | _ => .fail
  | .fieldAddr t x f =>
    match evOpd sl x with
    | .one a => pureT (evFieldAddr P t a f)
    | _ => .fail
  | .field t x f => pureT (evField P t (evOpd sl x) f)
  | .extract x i => pureT (evExtract (evOpd sl x) i)
  | .indexAddr t x i =>
    match evOpd sl x, evOpd sl i with
    | .one a, .one b => pureT (evIndexAddr P t a b)
    | _, _ => .fail
  | .index t x i =>
    match evOpd sl i with
    | .one b => pureT (evIndex P t (evOpd sl x) b)
    | _ => .fail
  | .build t ps => pureT (evBuild P t (ps.toList.map fun p => (p.1, evOpd sl p.2)))
  | .buildSlice t len ps => evBuildSlice P mem t len (ps.toList.map fun p => (p.1, evOpd sl p.2))
  | .makeSlice t x y =>
    match evOpd sl x, evOpd sl y with
    | .one a, .one b => evMakeSlice P mem t a b
    | _, _ => .fail
  | .makeFunc (.func f) first caps =>
    if first.size = 0 then
      match capsOf (caps.toList.map (evOpd sl)) with
      | some cs => .leaf (.one (.fn f cs), [])
      | none => .fail
    else .fail
  | .nilCheck x =>
    match evOpd sl x with
    | .one (.ptr id sz i j) => .leaf (.one (.ptr id sz i j), [])
    | .one (.fn f cs) => .leaf (.one (.fn f cs), [])
    | _ => .fail
  | .call c =>
    match c.callee with
    | .value x =>
      match evOpd sl x with
      | .one (.fn f caps) =>
        match look env f with
        | some ct => ct.run (c.args.toList.map (evOpd sl) ++ capsAV caps) mem
        | none => .fail
      | _ => .fail
    | .builtin .len =>
      match c.args.toList, c.argTypes.toList with
      | [x], [t] => pureT (evLen P t (evOpd sl x))
      | _, _ => .fail
    | _ => .fail
  | _ => .fail

theorem wp_sem {P : Program} {ρ : Rho} {o : Oper} {a : Act} {w : World} {N : Nat} {m : Sem Value} {t : T (AV × Mem)} {K : Act → World → Prop} {Q : Exit → Act → World → Prop}
    (he : execOp a.eval o = (do let u ← m; pure (.value u))) (hs : SemOK P ρ w N m t) (h : t.holds fun r => ∀ ρ' w' v, New ρ ρ' w w' N r.2 → r.1.rel ρ' v → K (a.put o.dst v) w') : o.wp P a w K Q := by
  obtain ⟨v, w', h1, h2⟩ := hs (fun v w' => K (a.put o.dst v) w') h
  exact wp_val he h1 h2

theorem partsF_ok {ρ : Rho} {sl : List AV} {a : Act} (h : SlotsOK ρ sl a.tmps) : ∀ (ps : List (Nat × Operand)), RelF ρ (ps.map fun p => (p.1, evOpd sl p.2)) (ps.map fun p => (p.1, a.eval p.2))
  | [] => trivial
  | p :: ps => ⟨rfl, evOpd_ok h p.2, partsF_ok h ps⟩

theorem evQ_ok {P : Program} {env : List (Ctr P)} {ρ : Rho} {sl : List AV} {mem : Mem} {o : Oper} {a : Act} {w : World} {K : Act → World → Prop} {Q : Exit → Act → World → Prop}
    (hm : MemOK ρ w mem) (hs : SlotsOK ρ sl a.tmps) (h : (evQ P env sl mem o.op).holds fun r => ∀ ρ' w' v, New ρ ρ' w w' mem.length r.2 → r.1.rel ρ' v → K (a.put o.dst v) w') : o.wp P a w K Q := by
  have leaf : ∀ {r : AV} {v : Value} {m : Sem Value}, execOp a.eval o = (do let u ← m; pure (.value u)) → m.run P w = .ok v w → r.rel ρ v → (∀ ρ' w' v, New ρ ρ' w w' mem.length [] → r.rel ρ' v → K (a.put o.dst v) w') → o.wp P a w K Q :=
    fun he hr hv hk => wp_val he hr (hk ρ w _ (New.refl ρ w w _ hm.dom (Below.refl _ _)) hv)
  unfold evQ at h
  split at h
  case h_1 x ho =>
    exact leaf (m := pure (a.eval x)) (by unfold execOp; rw [ho] <;> rfl) rfl (evOpd_ok hs x) h
  case h_2 x ho =>
    exact leaf (m := pure (a.eval x)) (by unfold execOp; rw [ho] <;> rfl) rfl (evOpd_ok hs x) h
  case h_3 c x y ho =>
    have hc := evOpd_ok hs c
    have he : ∀ q : Bool, a.eval c = .bool q → execOp a.eval o = (do let u ← (pure (if q then a.eval x else a.eval y) : Sem Value); pure (.value u)) := by
      intro q hq
      unfold execOp; rw [ho]
      simp only [hq]
      rfl
    split at h
    · rename_i hb; rw [hb] at hc
      exact leaf (he true hc) rfl (evOpd_ok hs x) h
    · rename_i hb; rw [hb] at hc
      exact leaf (he false hc) rfl (evOpd_ok hs y) h
    · rename_i q hb; rw [hb] at hc
      cases hq : q with
      | true => exact leaf (he q hc) (by rw [hq]; rfl) (evOpd_ok hs x) (h.1 hq)
      | false => exact leaf (he q hc) (by rw [hq]; rfl) (evOpd_ok hs y) (h.2 hq)
    · exact h.elim
  case h_4 t ho =>
    split at h <;> try exact h.elim
    rename_i l hl
    obtain ⟨z, hz, hzr⟩ := zeroCells_ok (P := P) (ρ := ρ) (w := w) hl
    obtain ⟨v, w', h1, h2⟩ := newVar_ok (P := P) (w := w) hm t hzr (fun v w' => K (a.put o.dst v) w') h
    refine wp_val (m := Instr.alloc t true (.tuple #[])) (by unfold execOp; rw [ho] <;> rfl) ?_ h2
    rw [← h1]
    simp [Instr.alloc, hz]
  case h_5 t x ho =>
    split at h <;> try exact h.elim
    rename_i l hl
    exact wp_sem (m := Instr.box t (a.eval x)) (by unfold execOp; rw [ho] <;> rfl) (newVar_ok hm t (AV.cells_ok hl (evOpd_ok hs x))) h
  case h_6 t x ho =>
    have hx := evOpd_ok hs x
    split at h <;> try exact h.elim
    rename_i p hp
    rw [hp] at hx
    exact wp_sem (m := Instr.loadAt t (a.eval x)) (by unfold execOp; rw [ho] <;> rfl) ((evLoad_ok hm t hx).pure.sem hm.dom) h
  case h_7 op t x y yt ho =>
    have hx := evOpd_ok hs x
    have hy := evOpd_ok hs y
    split at h <;> try exact h.elim
    rename_i p q hp hq
    rw [hp] at hx; rw [hq] at hy
    split at h <;> try exact h.elim
    rename_i hpl
    refine wp_sem (m := binOp op t (a.eval x) (a.eval y)) ?_ ((evBin_ok op t hx hy).sem hm.dom) h
    unfold execOp; rw [ho]
    simp only []
    rw [eqGuard_one op t x y (SV.rel_one hx) (plain_rel hpl hx)]
    rfl
  case h_8 op t x ho =>
    have hx := evOpd_ok hs x
    split at h <;> try exact h.elim
    rename_i p hp
    rw [hp] at hx
    exact wp_sem (m := Op.unary op (a.eval x)) (by unfold execOp; rw [ho] <;> rfl) ((evUn_ok op hx).sem hm.dom) h
  case h_9 src dst x ho =>
    have hx := evOpd_ok hs x
    split at h <;> try exact h.elim
    rename_i p hp
    rw [hp] at hx
    exact wp_sem (m := convert src dst (a.eval x)) (by unfold execOp; rw [ho] <;> rfl) ((evConv_ok src dst hx).sem hm.dom) h
  case h_10 t x f ho =>
    have hx := evOpd_ok hs x
    split at h <;> try exact h.elim
    rename_i p hp
    rw [hp] at hx
    exact wp_sem (m := Instr.fieldAt t (a.eval x) f) (by unfold execOp; rw [ho] <;> rfl) ((evFieldAddr_ok t hx f).sem hm.dom) h
  case h_11 t x f ho =>
    exact wp_sem (m := Instr.field t (a.eval x) f) (by unfold execOp; rw [ho] <;> rfl) ((evField_ok t (evOpd_ok hs x) f).sem hm.dom) h
  case h_12 x i ho =>
    exact wp_sem (m := Instr.extract (a.eval x) i) (by unfold execOp; rw [ho] <;> rfl) ((evExtract_ok (evOpd_ok hs x) i).sem hm.dom) h
  case h_13 t x i ho =>
    have hx := evOpd_ok hs x
    have hi := evOpd_ok hs i
    split at h <;> try exact h.elim
    rename_i p q hp hq
    rw [hp] at hx; rw [hq] at hi
    exact wp_sem (m := Instr.indexAt t (a.eval x) (a.eval i)) (by unfold execOp; rw [ho] <;> rfl) ((evIndexAddr_ok t hx hi).sem hm.dom) h
  case h_14 t x i ho =>
    have hi := evOpd_ok hs i
    split at h <;> try exact h.elim
    rename_i q hq
    rw [hq] at hi
    exact wp_sem (m := Instr.index t (a.eval x) (a.eval i)) (by unfold execOp; rw [ho] <;> rfl) ((evIndex_ok t (evOpd_ok hs x) hi).sem hm.dom) h
  case h_15 t ps ho =>
    refine wp_sem (m := Instr.build t (ps.map fun (i, x) => (i, a.eval x))) (by unfold execOp; rw [ho] <;> rfl) ((evBuild_ok t ?_).sem hm.dom) h
    rw [Array.toList_map]; exact partsF_ok hs ps.toList
  case h_16 t len ps ho =>
    refine wp_sem (m := Instr.buildSlice t len (ps.map fun (i, x) => (i, a.eval x))) (by unfold execOp; rw [ho] <;> rfl) (evBuildSlice_ok hm t len ?_) h
    rw [Array.toList_map]; exact partsF_ok hs ps.toList
  case h_17 t x y ho =>
    have hx := evOpd_ok hs x
    have hy := evOpd_ok hs y
    split at h <;> try exact h.elim
    rename_i p q hp hq
    rw [hp] at hx; rw [hq] at hy
    exact wp_sem (m := Instr.makeSlice t (a.eval x) (a.eval y)) (by unfold execOp; rw [ho] <;> rfl) (evMakeSlice_ok hm t hx hy) h
  case h_18 f first caps ho =>
    split at h <;> try exact h.elim
    rename_i hf
    split at h <;> try exact h.elim
    rename_i cs hcs
    have hfirst : first = #[] := by simpa using hf
    refine leaf (r := .one (.fn f cs)) (m := Instr.makeFunc (.func f) (first.map a.eval) (caps.map a.eval)) (v := .func (.func f) #[] (caps.map a.eval)) (by unfold execOp; rw [ho] <;> rfl) ?_ ⟨caps.map a.eval, rfl, ?_⟩ h
    · rw [hfirst]; simp [Instr.makeFunc]
    · rw [Array.toList_map]; exact capsOf_ok hcs (opds_ok hs caps.toList)
  case h_19 x ho =>
    have hx := evOpd_ok hs x
    split at h <;> try exact h.elim
    · rename_i id sz i j hp
      rw [hp] at hx
      obtain ⟨b, q, hρ, hv⟩ := hx
      refine leaf (r := .one (.ptr id sz i j)) (m := pure (a.eval x)) ?_ rfl ⟨b, q, hρ, hv⟩ h
      unfold execOp; rw [ho]; simp only [hv]; rfl
    · rename_i f cs hp
      rw [hp] at hx
      obtain ⟨vs, hv, hc⟩ := hx
      refine leaf (r := .one (.fn f cs)) (m := pure (a.eval x)) ?_ rfl ⟨vs, hv, hc⟩ h
      unfold execOp; rw [ho]; simp only [hv]; rfl
  case h_20 c ho =>
    split at h
    · rename_i x hcal
      have hx := evOpd_ok hs x
      split at h <;> try exact h.elim
      rename_i f caps hp
      rw [hp] at hx
      obtain ⟨vs, hv, hc⟩ := hx
      split at h <;> try exact h.elim
      rename_i ct hct
      have hf := look_f hct
      have hargs : RelA ρ (c.args.toList.map (evOpd sl) ++ capsAV caps) (c.args.map a.eval ++ vs).toList := by
        rw [Array.toList_append, Array.toList_map]
        exact (opds_ok hs c.args.toList).append (capsAV_ok hc)
      have hk := ct.ok _ mem ρ w _ hm hargs o a K Q h
      rw [hf] at hk
      unfold Oper.wp
      have he : execOp a.eval o = callFunc f (c.args.map a.eval ++ vs) := by
        unfold execOp; rw [ho]
        simp only [resolve, hcal, hv, Deferred.ofValue]
        show Sem.bind _ _ = _
        simp [Sem.bind, invoke, pure]
      rw [he]; exact hk
    · rename_i hcal
      split at h <;> try exact h.elim
      rename_i x t hx ht
      have hargs : c.args = #[x] := by
        have : c.args.toList = [x] := hx
        exact Array.ext' (by simpa using this)
      have htys : c.argTypes = #[t] := by
        have : c.argTypes.toList = [t] := ht
        exact Array.ext' (by simpa using this)
      refine wp_sem (m := Builtin.len_ #[t] o.type #[a.eval x]) ?_ ((evLen_ok t o.type (evOpd_ok hs x)).sem hm.dom) h
      unfold execOp; rw [ho]
      simp only [resolve, hcal, hargs, htys]
      show Sem.bind _ _ = _
      simp [Sem.bind, invoke, builtin, pure]
    · exact h.elim
  case h_21 => exact h.elim

end Go.Proofs.Ytdkhpadbpeapjaa
