/-
  The symbolic walk: a region that draws its order. Its operations only read, reckon, lay new memory or call by contract: one walk in the order of the text, each operation seeing no more than what stands before it in every order. No conditions.
-/
import Derived.Test.YtdmcpgbnomhahaaOf
import Derived.Orders
namespace Go.Proofs.Ytdmcpgbnomhahaa
set_option linter.unusedVariables false
set_option linter.unusedSimpArgs false
open Go.RowKit

namespace T
variable {α β : Type}

/-- The tests lead to this leaf, and what is needed holds. -/
def leads : T α → α → Prop
  | .leaf b, a => b = a
  | .ite c t e, a => (c = true → t.leads a) ∧ (c = false → e.leads a)
  | .need c t, a => c = true ∧ t.leads a
  | .fail, _ => False
  | .all _, _ => False

/-- A tree none of whose values is left open. -/
def sure : T α → T α
  | .leaf a => .leaf a
  | .ite c t e => .ite c (sure t) (sure e)
  | .need c t => .need c (sure t)
  | .fail => .fail
  | .all _ => .fail

theorem leads_holds {Φ : α → Prop} : ∀ {t : T α} {a : α}, t.leads a → Φ a → t.holds Φ
  | .leaf _, _, h, k => by cases h; exact k
  | .ite _ _ _, _, h, k => ⟨fun e => leads_holds (h.1 e) k, fun e => leads_holds (h.2 e) k⟩
  | .need _ _, _, h, k => ⟨h.1, leads_holds h.2 k⟩
  | .fail, _, h, _ => h.elim
  | .all _, _, h, _ => h.elim

theorem holds_leads {f : α → T β} {Φ : β → Prop} : ∀ {t : T α}, ((sure t).bind f).holds Φ → ∃ a, t.leads a ∧ (f a).holds Φ
  | .leaf a, h => ⟨a, rfl, h⟩
  | .ite c t e, h => by
    cases hc : c with
    | true =>
      obtain ⟨a, h1, h2⟩ := holds_leads (h.1 hc)
      exact ⟨a, ⟨fun _ => h1, (fun e => by cases e)⟩, h2⟩
    | false =>
      obtain ⟨a, h1, h2⟩ := holds_leads (h.2 hc)
      exact ⟨a, ⟨(fun e => by cases e), fun _ => h1⟩, h2⟩
  | .need c t, h => by
    obtain ⟨a, h1, h2⟩ := holds_leads h.2
    exact ⟨a, ⟨h.1, h1⟩, h2⟩
  | .fail, h => h.elim
  | .all _, h => h.elim

theorem leads_bind {f : α → T β} {b : β} : ∀ {t : T α}, (t.bind f).leads b → ∃ a, t.leads a ∧ (f a).leads b
  | .leaf a, h => ⟨a, rfl, h⟩
  | .ite c t e, h => by
    cases hc : c with
    | true =>
      obtain ⟨a, h1, h2⟩ := leads_bind (h.1 hc)
      exact ⟨a, ⟨fun _ => h1, (fun e => by cases e)⟩, h2⟩
    | false =>
      obtain ⟨a, h1, h2⟩ := leads_bind (h.2 hc)
      exact ⟨a, ⟨(fun e => by cases e), fun _ => h1⟩, h2⟩
  | .need c t, h => by
    obtain ⟨a, h1, h2⟩ := leads_bind h.2
    exact ⟨a, ⟨h.1, h1⟩, h2⟩
  | .fail, h => h.elim
  | .all _, h => h.elim
end T

abbrev Res := AV × Mem

/-! ### What stands before an operation in every order -/

def dmask (o : Oper) (ms : List Nat) : Nat := o.after.toList.foldl (fun s e => if Region.binds .any e then s ||| 2 ^ e.on ||| ms.getD e.on 0 else s) 0

def masks (l : List Oper) : List Nat := l.foldl (fun acc o => acc ++ [dmask o acc]) []

def dOK (ms : List Nat) (len : Nat) : Nat → List Oper → List Tmp → Bool
  | _, [], _ => true
  | j, o :: os, seen =>
    (ms.getD j 0 == dmask o ms) && (o.after.toList.all fun e => !Region.binds .any e || decide (e.on < j)) &&
    (match o.dst with | some t => decide (t < len) && !seen.contains t | none => true) &&
    dOK ms len (j + 1) os (match o.dst with | some t => t :: seen | none => seen)

theorem foldl_mask (ms : List Nat) (i : Nat) : ∀ (es : List Edge) (s : Nat), (es.foldl (fun s e => if Region.binds .any e then s ||| 2 ^ e.on ||| ms.getD e.on 0 else s) s).testBit i = true →
    s.testBit i = true ∨ ∃ e ∈ es, Region.binds .any e = true ∧ (e.on = i ∨ (ms.getD e.on 0).testBit i = true)
  | [], s, h => .inl h
  | e :: es, s, h => by
    rw [List.foldl_cons] at h
    rcases foldl_mask ms i es _ h with h1 | ⟨e', h1, h2⟩
    · split at h1
      · rename_i hb
        rw [Nat.testBit_or, Nat.testBit_or, Nat.testBit_two_pow] at h1
        simp only [Bool.or_eq_true, decide_eq_true_eq] at h1
        rcases h1 with (h1 | h1) | h1
        · exact .inl h1
        · exact .inr ⟨e, by simp, hb, .inl h1⟩
        · exact .inr ⟨e, by simp, hb, .inr h1⟩
      · exact .inl h1
    · exact .inr ⟨e', by simp [h1], h2⟩

structure DOK (ms : List Nat) (len : Nat) (l : List Oper) : Prop where
  mask : ∀ (j : Nat) (o : Oper) (i : Nat), l[j]? = some o → (ms.getD j 0).testBit i = true → ∃ e ∈ o.after, Region.binds .any e = true ∧ (e.on = i ∨ (ms.getD e.on 0).testBit i = true)
  less : ∀ (j : Nat) (o : Oper) (e : Edge), l[j]? = some o → e ∈ o.after → Region.binds .any e = true → e.on < j
  dst : ∀ (j : Nat) (o : Oper) (t : Tmp), l[j]? = some o → o.dst = some t → t < len
  apart : ∀ (i j : Nat) (o p : Oper) (t : Tmp), i < j → l[i]? = some o → l[j]? = some p → o.dst = some t → p.dst ≠ some t

theorem dOK_ok (ms : List Nat) (len : Nat) : ∀ (l : List Oper) (k : Nat) (seen : List Tmp), dOK ms len k l seen = true →
    (∀ (j : Nat) (o : Oper) (i : Nat), l[j]? = some o → (ms.getD (k + j) 0).testBit i = true → ∃ e ∈ o.after, Region.binds .any e = true ∧ (e.on = i ∨ (ms.getD e.on 0).testBit i = true)) ∧
    (∀ (j : Nat) (o : Oper) (e : Edge), l[j]? = some o → e ∈ o.after → Region.binds .any e = true → e.on < k + j) ∧
    (∀ (j : Nat) (o : Oper) (t : Tmp), l[j]? = some o → o.dst = some t → t < len ∧ t ∉ seen) ∧
    (∀ (i j : Nat) (o p : Oper) (t : Tmp), i < j → l[i]? = some o → l[j]? = some p → o.dst = some t → p.dst ≠ some t)
  | [], k, seen, _ => ⟨(fun j o i h => by simp at h), (fun j o e h => by simp at h), (fun j o t h => by simp at h), (fun i j o p t _ h => by simp at h)⟩
  | q :: l, k, seen, h => by
    unfold dOK at h
    simp only [Bool.and_eq_true] at h
    obtain ⟨⟨⟨h1, h2⟩, h3⟩, h4⟩ := h
    obtain ⟨i1, i2, i3, i4⟩ := dOK_ok ms len l (k + 1) _ h4
    have h1' : ms.getD k 0 = dmask q ms := by simpa using h1
    refine ⟨fun j o i hj hi => ?_, fun j o e hj he hb => ?_, fun j o t hj ht => ?_, fun i j o p t hij hi hj ht => ?_⟩
    · cases j with
      | zero =>
        simp at hj; subst hj
        rw [Nat.add_zero, h1'] at hi
        rcases foldl_mask ms i _ 0 hi with h5 | ⟨e, h5, h6⟩
        · simp at h5
        · exact ⟨e, by simpa using h5, h6⟩
      | succ j => exact i1 j o i (by simpa using hj) (by rw [show k + 1 + j = k + (j + 1) by omega]; exact hi)
    · cases j with
      | zero =>
        simp at hj; subst hj
        have := List.all_eq_true.1 h2 e (by simpa using he)
        simpa [hb] using this
      | succ j =>
        have := i2 j o e (by simpa using hj) he hb
        omega
    · cases j with
      | zero =>
        simp at hj; subst hj
        rw [ht] at h3
        simpa using h3
      | succ j =>
        obtain ⟨h5, h6⟩ := i3 j o t (by simpa using hj) ht
        refine ⟨h5, fun hs => h6 ?_⟩
        cases q.dst with
        | none => exact hs
        | some u => exact List.mem_cons_of_mem _ hs
    · cases i with
      | zero =>
        cases j with
        | zero => omega
        | succ j =>
          simp at hi; subst hi
          intro hp
          have := (i3 j p t (by simpa using hj) hp).2
          rw [ht] at this
          simp at this
      | succ i =>
        cases j with
        | zero => omega
        | succ j => exact i4 i j o p t (by omega) (by simpa using hi) (by simpa using hj) ht

theorem dok_of {ms : List Nat} {len : Nat} {l : List Oper} (h : dOK ms len 0 l [] = true) : DOK ms len l := by
  obtain ⟨h1, h2, h3, h4⟩ := dOK_ok ms len l 0 [] h
  refine ⟨fun j o i hj hi => h1 j o i hj (by rw [Nat.zero_add]; exact hi), fun j o e hj he hb => ?_, fun j o t hj ht => (h3 j o t hj ht).1, h4⟩
  have := h2 j o e hj he hb
  omega

/-! ### The state that an operation sees -/

def slGo (m : Nat → Bool) : Nat → List Oper → List Res → List AV → List AV
  | _, [], _, sl => sl
  | i, o :: os, [], sl => slGo m (i + 1) os [] (putSl sl o.dst .any)
  | i, o :: os, r :: rs, sl => slGo m (i + 1) os rs (putSl sl o.dst (if m i then r.1 else .any))

def memGo (m : Nat → Bool) : Nat → List Res → Mem
  | _, [] => []
  | i, r :: rs => (if m i then r.2 else List.replicate r.2.length none) ++ memGo m (i + 1) rs

theorem putSl_length (sl : List AV) (d : Option Tmp) (r : AV) : (putSl sl d r).length = sl.length := by cases d <;> simp [putSl]

theorem putSl_getD (sl : List AV) (d : Option Tmp) (r : AV) (t : Nat) : (putSl sl d r).getD t .und = (if d = some t ∧ t < sl.length then r else sl.getD t .und) := by
  cases d with
  | none => simp [putSl]
  | some d =>
    simp only [putSl, List.getD, List.getElem?_set, Option.some.injEq]
    by_cases hd : d = t
    · subst hd
      by_cases hl : d < sl.length
      · simp [hl]
      · simp [hl]
    · simp [hd]

theorem slGo_length (m : Nat → Bool) : ∀ (os : List Oper) (k : Nat) (rs : List Res) (sl : List AV), (slGo m k os rs sl).length = sl.length
  | [], _, _, _ => rfl
  | o :: os, k, [], sl => by unfold slGo; rw [slGo_length m os, putSl_length]
  | o :: os, k, r :: rs, sl => by unfold slGo; rw [slGo_length m os, putSl_length]

theorem slGo_get (m : Nat → Bool) (t : Nat) : ∀ (os : List Oper) (k : Nat) (rs : List Res) (sl : List AV),
    ((slGo m k os rs sl).getD t .und = sl.getD t .und ∧ ∀ o ∈ os, o.dst = some t → sl.length ≤ t) ∨ (slGo m k os rs sl).getD t .und = .any ∨
    ∃ (i : Nat) (o : Oper) (r : Res), os[i]? = some o ∧ rs[i]? = some r ∧ o.dst = some t ∧ m (k + i) = true ∧ (slGo m k os rs sl).getD t .und = r.1
  | [], _, _, _ => .inl ⟨rfl, fun o h => by cases h⟩
  | o :: os, k, [], sl => by
    unfold slGo
    rcases slGo_get m t os (k + 1) [] (putSl sl o.dst .any) with ⟨h1, h2⟩ | h | ⟨i, p, r, h1, h2, _⟩
    · rw [putSl_length] at h2
      rw [putSl_getD] at h1
      by_cases hd : o.dst = some t ∧ t < sl.length
      · rw [if_pos hd] at h1; exact .inr (.inl h1)
      · rw [if_neg hd] at h1
        refine .inl ⟨h1, fun p hp hpt => ?_⟩
        cases hp with
        | head => exact Nat.le_of_not_lt fun hlt => hd ⟨hpt, hlt⟩
        | tail _ hp => exact h2 p hp hpt
    · exact .inr (.inl h)
    · simp at h2
  | o :: os, k, r :: rs, sl => by
    unfold slGo
    rcases slGo_get m t os (k + 1) rs (putSl sl o.dst (if m k then r.1 else .any)) with ⟨h1, h2⟩ | h | ⟨i, p, q, h1, h2, h3, h4, h5⟩
    · rw [putSl_length] at h2
      rw [putSl_getD] at h1
      by_cases hd : o.dst = some t ∧ t < sl.length
      · rw [if_pos hd] at h1
        by_cases hm : m k = true
        · rw [if_pos hm] at h1 ⊢
          exact .inr (.inr ⟨0, o, r, rfl, rfl, hd.1, hm, h1⟩)
        · rw [if_neg hm] at h1
          rw [if_neg hm]
          exact .inr (.inl h1)
      · rw [if_neg hd] at h1
        refine .inl ⟨h1, fun p hp hpt => ?_⟩
        cases hp with
        | head => exact Nat.le_of_not_lt fun hlt => hd ⟨hpt, hlt⟩
        | tail _ hp => exact h2 p hp hpt
    · exact .inr (.inl h)
    · exact .inr (.inr ⟨i + 1, p, q, by simpa using h1, by simpa using h2, h3, by rw [show k + (i + 1) = k + 1 + i by omega]; exact h4, h5⟩)

/-- How many new blocks the first operations lay. -/
def cnt (F : List Res) (i : Nat) : Nat := ((F.take i).map fun r => r.2.length).sum

theorem cnt_succ {F : List Res} {i : Nat} {r : Res} (h : F[i]? = some r) : cnt F (i + 1) = cnt F i + r.2.length := by
  have hlt := (List.getElem?_eq_some_iff.1 h).1
  have hv := (List.getElem?_eq_some_iff.1 h).2
  unfold cnt
  rw [List.take_succ_eq_append_getElem hlt, List.map_append, List.sum_append, hv]
  simp

theorem cnt_mono {F : List Res} {i j : Nat} (h : i ≤ j) : cnt F i ≤ cnt F j := by
  induction j with
  | zero =>
    have : i = 0 := by omega
    subst this; exact Nat.le_refl _
  | succ j ih =>
    by_cases hij : i = j + 1
    · subst hij; exact Nat.le_refl _
    · refine Nat.le_trans (ih (by omega)) ?_
      by_cases hj : j < F.length
      · rw [cnt_succ (List.getElem?_eq_getElem hj)]; omega
      · unfold cnt
        rw [List.take_of_length_le (by omega), List.take_of_length_le (by omega)]; exact Nat.le_refl _

theorem cnt_prefix {F G : List Res} {i : Nat} (h : i ≤ F.length) : cnt (F ++ G) i = cnt F i := by
  unfold cnt
  rw [List.take_append_of_le_length h]

theorem memGo_length (m : Nat → Bool) : ∀ (rs : List Res) (k : Nat), (memGo m k rs).length = cnt rs rs.length
  | [], _ => rfl
  | r :: rs, k => by
    unfold memGo
    rw [List.length_append, memGo_length m rs]
    have : (if m k then r.2 else List.replicate r.2.length none : Mem).length = r.2.length := by split <;> simp
    rw [this]
    simp [cnt]

theorem memGo_get (m : Nat → Bool) : ∀ (rs : List Res) (k q : Nat) (B : Blk), (memGo m k rs)[q]? = some (some B) →
    ∃ (i p : Nat) (r : Res), rs[i]? = some r ∧ m (k + i) = true ∧ r.2[p]? = some (some B) ∧ q = cnt rs i + p
  | [], k, q, B, h => by simp [memGo] at h
  | r :: rs, k, q, B, h => by
    unfold memGo at h
    have hl : (if m k then r.2 else List.replicate r.2.length none : Mem).length = r.2.length := by split <;> simp
    by_cases hq : q < r.2.length
    · rw [List.getElem?_append_left (by rw [hl]; exact hq)] at h
      by_cases hm : m k = true
      · rw [if_pos hm] at h
        exact ⟨0, q, r, rfl, hm, h, by simp [cnt]⟩
      · rw [if_neg hm, List.getElem?_replicate] at h
        split at h <;> cases h
    · rw [List.getElem?_append_right (by rw [hl]; omega), hl] at h
      obtain ⟨i, p, r', h1, h2, h3, h4⟩ := memGo_get m rs (k + 1) _ B h
      refine ⟨i + 1, p, r', by simpa using h1, by rw [show k + (i + 1) = k + 1 + i by omega]; exact h2, h3, ?_⟩
      have : cnt (r :: rs) (i + 1) = r.2.length + cnt rs i := by simp [cnt]
      omega

theorem memGo_all (rs : List Res) (k i p : Nat) (r : Res) (h : rs[i]? = some r) (hp : p < r.2.length) : (memGo (fun _ => true) k rs)[cnt rs i + p]? = r.2[p]? := by
  induction rs generalizing k i with
  | nil => simp at h
  | cons x rs ih =>
    unfold memGo
    rw [if_pos rfl]
    cases i with
    | zero =>
      simp at h; subst h
      have : cnt (x :: rs) 0 = 0 := by simp [cnt]
      rw [this, Nat.zero_add, List.getElem?_append_left hp]
    | succ i =>
      have : cnt (x :: rs) (i + 1) = x.2.length + cnt rs i := by simp [cnt]
      rw [this, List.getElem?_append_right (by omega), show x.2.length + cnt rs i + p - x.2.length = cnt rs i + p by omega]
      exact ih (k + 1) i (by simpa using h)

/-! ### The walk -/

def usedG (l : List Oper) (i : Nat) : Bool := l.any fun o => match o.guard with | some (g, _) => g == i | none => false

def splitB (r : Res) : T Res :=
  match r with
  | (.one (.bo c), m) => .ite c (.leaf (.one (.tt true), m)) (.leaf (.one (.tt false), m))
  | r => .leaf r

/-- Whose result an operation sees in a slot: 0: none's; 1: not known; i + 2: that of operation i, which stands before it in every order. -/
def srcT (m : Nat → Bool) : Nat → List Oper → Tmp → Nat
  | k, o :: os, t =>
    match o.dst with
    | some u => match Nat.beq u t with
      | true => match m k with
        | true => k + 2
        | false => 1
      | false => srcT m (k + 1) os t
    | none => srcT m (k + 1) os t
  | _, [], _ => 0

theorem srcT_get (m : Nat → Bool) (t : Nat) : ∀ (os : List Oper) (k : Nat),
    (srcT m k os t = 0 ∧ ∀ o ∈ os, o.dst ≠ some t) ∨ srcT m k os t = 1 ∨ ∃ (i : Nat) (o : Oper), os[i]? = some o ∧ o.dst = some t ∧ m (k + i) = true ∧ srcT m k os t = k + i + 2
  | [], _ => .inl ⟨rfl, fun o h => by cases h⟩
  | o :: os, k => by
    have rec' : o.dst ≠ some t → srcT m k (o :: os) t = srcT m (k + 1) os t → ((srcT m k (o :: os) t = 0 ∧ ∀ p ∈ o :: os, p.dst ≠ some t) ∨ srcT m k (o :: os) t = 1 ∨
        ∃ (i : Nat) (p : Oper), (o :: os)[i]? = some p ∧ p.dst = some t ∧ m (k + i) = true ∧ srcT m k (o :: os) t = k + i + 2) := fun hne he => by
      rcases srcT_get m t os (k + 1) with ⟨h1, h2⟩ | h | ⟨i, p, h1, h3, h4, h5⟩
      · exact .inl ⟨he.trans h1, fun p hp => by cases hp with | head => exact hne | tail _ hp => exact h2 p hp⟩
      · exact .inr (.inl (he.trans h))
      · exact .inr (.inr ⟨i + 1, p, by simpa using h1, h3, by rw [show k + (i + 1) = k + 1 + i by omega]; exact h4, by rw [he, h5]; omega⟩)
    cases hd : o.dst with
    | none => exact rec' (by rw [hd]; simp) (by simp only [srcT, hd])
    | some u =>
      cases hu : Nat.beq u t with
      | false => exact rec' (by rw [hd]; intro e; cases e; simp at hu) (by simp only [srcT, hd, hu])
      | true =>
        have hut : u = t := Nat.eq_of_beq_eq_true hu
        subst hut
        cases hm : m k with
        | false => exact .inr (.inl (by simp only [srcT, hd, hu, hm]))
        | true => exact .inr (.inr ⟨0, o, rfl, hd, hm, by simp only [srcT, hd, hu, hm]; try omega⟩)

/-- A state as a drawn region sees it: what is in a slot; how many slots there are; the memory. -/
structure DS where
  b : Tmp → AV
  n : Nat
  mem : Mem

def St.ds (st : St) : DS := ⟨fun t => st.sl.getD t .und, st.sl.length, st.mem⟩

def lkM (m : Nat → Bool) (l : List Oper) (j : Nat) (racc : List Res) (b : Tmp → AV) : Operand → AV
  | .tmp t => match srcT m 0 l t with
    | 0 => b t
    | 1 => .any
    | i + 2 => match Nat.blt i j with
      | true => match racc[j - 1 - i]? with
        | some r => r.1
        | none => .any
      | false => .any
  | x => evOpd [] x

def evDj (P : Program) (env : List (Ctr P)) (l : List Oper) (ms : List Nat) (st : DS) (j : Nat) (o : Oper) (racc : List Res) : T Res :=
  let acc := racc.reverse
  let m := fun i => (ms.getD j 0).testBit i
  let run := (evQ P env (lkM m l j racc st.b) (st.mem ++ memGo m 0 acc) o.op).bind fun r => if usedG l j then splitB r else .leaf r
  match o.guard with
  | none => run
  | some (g, want) =>
    if m g then
      match guardSlot l.toArray g, acc[g]? with
      | some _, some (.one (.tt b), _) => if b = want then run else .leaf (.und, [])
      | some _, some (.und, _) => .leaf (.und, [])
      | _, _ => .fail
    else .fail

def evD (P : Program) (env : List (Ctr P)) (l : List Oper) (ms : List Nat) (st : DS) : List Oper → Nat → List Res → T (List Res)
  | [], _, racc => .leaf racc.reverse
  | o :: os, j, racc => (T.sure (evDj P env l ms st j o racc)).bind fun r => evD P env l ms st os (j + 1) (r :: racc)

def fullFrom (ms : List Nat) : Nat → Nat → Bool
  | _, 0 => true
  | k, n + 1 => (ms.getD k 0 == 2 ^ k - 1) && fullFrom ms (k + 1) n

/-- The place from which on each operation stands behind all that are ahead of it. -/
def sufK (ms : List Nat) : Nat → Nat
  | 0 => 0
  | n + 1 => match ms.getD n 0 == 2 ^ n - 1 with
    | true => sufK ms n
    | false => n + 1

def preQ (l : List Oper) : List Oper := l.take (sufK (masks l) l.length)
def postQ (l : List Oper) : List Oper := l.drop (sufK (masks l) l.length)

theorem pre_post (l : List Oper) : preQ l ++ postQ l = l := List.take_append_drop _ _

/-- The quiet operations in whatever order; then those that write, each of which is behind all that stand ahead of it. -/
def evDraw (P : Program) (env : List (Ctr P)) (m0 : Nat) (ops : Array Oper) (st : St) : T St :=
  if dOK (masks ops.toList) st.sl.length 0 ops.toList [] && fullFrom (masks ops.toList) (preQ ops.toList).length (postQ ops.toList).length then
    (evD P env (preQ ops.toList) (masks ops.toList) st.ds (preQ ops.toList) 0 []).bind fun F =>
      evOps P env m0 ops (postQ ops.toList) { sl := slGo (fun _ => true) 0 (preQ ops.toList) F st.sl, mem := st.mem ++ memGo (fun _ => true) 0 F }
  else .fail

/-- What the walk has found: a result for each operation, reckoned from those ahead of it. -/
structure Found (P : Program) (env : List (Ctr P)) (l : List Oper) (ms : List Nat) (st : DS) (F : List Res) : Prop where
  len : F.length = l.length
  step : ∀ (j : Nat) (o : Oper) (r : Res), l[j]? = some o → F[j]? = some r → (evDj P env l ms st j o (F.take j).reverse).leads r

theorem evD_found {P : Program} {env : List (Ctr P)} {l : List Oper} {ms : List Nat} {st : DS} {Φ : List Res → Prop} : ∀ (os : List Oper) (j : Nat) (acc : List Res), acc.length = j → l = l.take j ++ os → j ≤ l.length →
    (∀ (i : Nat) (o : Oper) (r : Res), l[i]? = some o → acc[i]? = some r → (evDj P env l ms st i o (acc.take i).reverse).leads r) → (evD P env l ms st os j acc.reverse).holds Φ → ∃ F, Found P env l ms st F ∧ Φ F
  | [], j, acc, hj, hl, hle, hacc, h => by
    have : l.length = j := by
      have := congrArg List.length hl
      simp at this
      omega
    have h : Φ acc.reverse.reverse := h
    rw [List.reverse_reverse] at h
    exact ⟨acc, ⟨by omega, hacc⟩, h⟩
  | o :: os, j, acc, hj, hl, hle, hacc, h => by
    unfold evD at h
    obtain ⟨r, hr, h⟩ := T.holds_leads h
    have hlj : l[j]? = some o := by
      rw [hl, List.getElem?_append_right (by simp; omega)]
      simp
      have : j - min j l.length = 0 := by omega
      rw [this]; rfl
    have hlt : j < l.length := (List.getElem?_eq_some_iff.1 hlj).1
    refine evD_found os (j + 1) (acc ++ [r]) (by simp [hj]) ?_ hlt ?_ (by rw [List.reverse_append]; exact h)
    · have hlo : l[j] = o := (List.getElem?_eq_some_iff.1 hlj).2
      rw [List.take_succ_eq_append_getElem hlt, hlo, List.append_assoc]
      exact hl
    · intro i p q hi hq
      by_cases hij : i < j
      · rw [List.getElem?_append_left (by omega)] at hq
        rw [List.take_append_of_le_length (by omega)]
        exact hacc i p q hi hq
      · have hij' : i = j := by
          have := (List.getElem?_eq_some_iff.1 hq).1
          simp at this
          omega
        subst hij'
        rw [List.getElem?_append_right (by omega), hj] at hq
        simp at hq
        subst hq
        rw [hlj] at hi; cases hi
        rw [List.take_append_of_le_length (by omega), List.take_of_length_le (by omega)]
        exact hr

/-! ### Whatever order is drawn -/

/-- Only the names below 'k'. -/
def cutR (ρ : Rho) (k : Nat) : Rho := fun id => if id < k then ρ id else none

theorem cutR_le {ρ : Rho} {i j : Nat} (h : i ≤ j) : (cutR ρ i).le (cutR ρ j) := by
  intro id p e
  unfold cutR at *
  split at e
  · rw [if_pos (by omega)]; exact e
  · cases e

/-- Some operations are done ('L'). -/
structure Inv (l : List Oper) (F : List Res) (d : DS) (N : Nat) (ρs : Rho) (ws : World) (L : Nat → Bool) (a : Act) (w : World) (ρ : Rho) : Prop where
  size : a.tmps.size = N
  defers : a.defers = []
  old : ∀ t, (∀ o ∈ l, o.dst ≠ some t) → (d.b t).rel ρs (a.tmps.getD t undef)
  done : ∀ (i : Nat) (o : Oper) (r : Res) (t : Tmp), l[i]? = some o → F[i]? = some r → o.dst = some t → L i = true → r.1.rel (cutR ρ (d.mem.length + cnt F (i + 1))) (a.tmps.getD t undef)
  keep : ∀ id, id < d.mem.length → ρ id = ρs id
  free : ∀ (i : Nat) (r : Res) (p : Nat), F[i]? = some r → L i = false → p < r.2.length → ρ (d.mem.length + cnt F i + p) = none
  out : ∀ id, d.mem.length + cnt F F.length ≤ id → ρ id = none
  blk : ∀ (i : Nat) (r : Res) (p : Nat) (C : Blk), F[i]? = some r → L i = true → r.2[p]? = some (some C) → ∃ b, ρ (d.mem.length + cnt F i + p) = some (b, 0) ∧ ws.heap.size ≤ b ∧ BlkAt (cutR ρ (d.mem.length + cnt F (i + 1))) w b 0 C ∧ OwnAt w b
  inj : ∀ (i j p q : Nat) (r s : Res) (C D : Blk) (b o b' o' : Nat), F[i]? = some r → F[j]? = some s → L i = true → L j = true → r.2[p]? = some (some C) → s.2[q]? = some (some D) → (i, p) ≠ (j, q) →
    ρ (d.mem.length + cnt F i + p) = some (b, o) → ρ (d.mem.length + cnt F j + q) = some (b', o') → b ≠ b'
  below : Below ws.heap.size ws w

theorem inv_start {l : List Oper} {F : List Res} {d : DS} {N : Nat} {ρs : Rho} {ws w : World} {a : Act} (hs1 : a.tmps.size = N) (hs : ∀ t, (d.b t).rel ρs (a.tmps.getD t undef)) (hd : a.defers = []) (hm : MemOK ρs ws d.mem) (hw : Below ws.heap.size ws w) : Inv l F d N ρs ws (fun _ => false) a w ρs :=
  ⟨hs1, hd, fun t _ => hs t, fun _ _ _ _ _ _ _ h => by simp at h, fun _ _ => rfl, fun i r p _ _ _ => hm.dom _ (by omega), fun id h => hm.dom id (by omega), fun _ _ _ _ _ h => by simp at h, fun _ _ _ _ _ _ _ _ _ _ _ _ _ _ h => by simp at h, hw⟩

/-- One more operation is done. -/
theorem inv_put {l : List Oper} {F : List Res} {ms : List Nat} {d : DS} {N : Nat} {ρs ρ ρr : Rho} {ws w w' : World} {L : Nat → Bool} {a : Act} {j : Nat} {o : Oper} {r : Res} {v : Value} (hk : DOK ms d.n l) (hnN : d.n ≤ N) (h : Inv l F d N ρs ws L a w ρ)
    (hj : l[j]? = some o) (hr : F[j]? = some r) (hL : L j = false) (hn : New (cutR ρ (d.mem.length + cnt F j)) ρr w w' (d.mem.length + cnt F j) r.2) (hv : r.1.rel ρr v) :
    Inv l F d N ρs ws (fun i => L i || i == j) (a.put o.dst v) w' (fun id => if d.mem.length + cnt F j ≤ id ∧ id < d.mem.length + cnt F (j + 1) then ρr id else ρ id) := by
  have hcj := cnt_succ hr
  generalize hρ' : (fun id => if d.mem.length + cnt F j ≤ id ∧ id < d.mem.length + cnt F (j + 1) then ρr id else ρ id : Rho) = ρ'
  have e1 : ∀ id, d.mem.length + cnt F j ≤ id → id < d.mem.length + cnt F (j + 1) → ρ' id = ρr id := fun id h1 h2 => by rw [← hρ']; exact if_pos ⟨h1, h2⟩
  have e2 : ∀ id, ¬ (d.mem.length + cnt F j ≤ id ∧ id < d.mem.length + cnt F (j + 1)) → ρ' id = ρ id := fun id h1 => by rw [← hρ']; exact if_neg h1
  -- below the new names nothing turns
  have low : ∀ k, k ≤ d.mem.length + cnt F j → cutR ρ' k = cutR ρ k := by
    intro k hk
    funext id
    unfold cutR
    by_cases hid : id < k
    · rw [if_pos hid, if_pos hid, e2 id (by omega)]
    · rw [if_neg hid, if_neg hid]
  have own : cutR ρ' (d.mem.length + cnt F (j + 1)) = ρr := by
    funext id
    unfold cutR
    by_cases h1 : id < d.mem.length + cnt F j
    · rw [if_pos (by omega), e2 id (by omega), hn.keep id h1]
      unfold cutR; rw [if_pos h1]
    · by_cases h2 : id < d.mem.length + cnt F (j + 1)
      · rw [if_pos h2, e1 id (by omega) h2]
      · rw [if_neg h2, hn.dom id (by omega)]
  have hle : ρ.le ρ' := by
    intro id p hp
    by_cases hid : d.mem.length + cnt F j ≤ id ∧ id < d.mem.length + cnt F (j + 1)
    · obtain ⟨q, rfl⟩ : ∃ q, id = d.mem.length + cnt F j + q := ⟨id - (d.mem.length + cnt F j), by omega⟩
      rw [h.free j r q hr hL (by omega)] at hp; cases hp
    · rw [e2 id hid]; exact hp
  have cle : ∀ k, (cutR ρ k).le (cutR ρ' k) := by
    intro k id p hp
    unfold cutR at *
    split at hp
    · rename_i hid; rw [if_pos hid]; exact hle id p hp
    · cases hp
  have apart : ∀ i r', F[i]? = some r' → i ≠ j → ∀ p, p < r'.2.length → ¬ (d.mem.length + cnt F j ≤ d.mem.length + cnt F i + p ∧ d.mem.length + cnt F i + p < d.mem.length + cnt F (j + 1)) := by
    intro i r' hi hij p hp
    have hci := cnt_succ hi
    rcases Nat.lt_or_ge i j with h1 | h1
    · have := cnt_mono (F := F) (show i + 1 ≤ j from h1); omega
    · have := cnt_mono (F := F) (show j + 1 ≤ i by omega); omega
  have getput : ∀ t, (a.put o.dst v).tmps.getD t undef = if o.dst = some t ∧ t < N then v else a.tmps.getD t undef := by
    intro t
    cases hd : o.dst with
    | none => simp [Act.put]
    | some e =>
      simp only [Act.put, Array.getD_eq_getD_getElem?, Array.getElem?_setIfInBounds, Option.some.injEq]
      by_cases hdt : e = t
      · subst hdt
        by_cases hlt : e < a.tmps.size
        · rw [if_pos rfl, if_pos hlt, if_pos ⟨rfl, by rw [← h.size]; exact hlt⟩]; rfl
        · rw [if_pos rfl, if_neg hlt, if_neg (fun hh => hlt (by rw [h.size]; exact hh.2)), Array.getElem?_eq_none (Nat.le_of_not_lt hlt)]
      · rw [if_neg hdt, if_neg (fun hh => hdt hh.1)]
  refine ⟨?_, ?_, fun t ht => ?_, fun i p q t hi hq hd hLi => ?_, fun id hid => ?_, fun i q p hq hLi hp => ?_, fun id hid => ?_, fun i q p C hq hLi hp => ?_, fun i i' p p' q q' C D b ob b' ob' hq hq' hLi hLi' hp hp' hne hb hb' => ?_, ?_⟩
  · rw [← h.size]; cases o.dst <;> simp [Act.put]
  · cases o.dst <;> exact h.defers
  · rw [getput, if_neg (fun hh => ht o (List.mem_of_getElem? hj) hh.1)]
    exact h.old t ht
  · rw [getput]
    by_cases hij : i = j
    · subst hij
      rw [hj] at hi; cases hi
      rw [hr] at hq; cases hq
      rw [if_pos ⟨hd, Nat.lt_of_lt_of_le (hk.dst i o t hj hd) hnN⟩, own]
      exact hv
    · have hLi' : L i = true := by
        rcases Bool.or_eq_true _ _ ▸ hLi with h1 | h1
        · exact h1
        · exact absurd (by simpa using h1) hij
      rw [if_neg (fun hh => by
        rcases Nat.lt_or_ge i j with h1 | h1
        · exact hk.apart i j p o t h1 hi hj hd hh.1
        · exact hk.apart j i o p t (by omega) hj hi hh.1 hd)]
      exact AV.rel_mono (cle _) (h.done i p q t hi hq hd hLi')
  · rw [e2 id (by omega)]; exact h.keep id hid
  · have hLi' : L i = false ∧ i ≠ j := by simpa using hLi
    rw [e2 _ (apart i q hq hLi'.2 p hp)]
    exact h.free i q p hq hLi'.1 hp
  · have hjl := (List.getElem?_eq_some_iff.1 hr).1
    have := cnt_mono (F := F) (show j + 1 ≤ F.length from hjl)
    rw [e2 id (by omega)]; exact h.out id hid
  · by_cases hij : i = j
    · subst hij
      rw [hr] at hq; cases hq
      have hpl := (List.getElem?_eq_some_iff.1 hp).1
      obtain ⟨b, h1, h2, h3, h4⟩ := hn.blk p C hp
      exact ⟨b, by rw [e1 _ (by omega) (by omega)]; exact h1, Nat.le_trans h.below.size h2, by rw [own]; exact h3, h4⟩
    · have hLi' : L i = true := by
        rcases Bool.or_eq_true _ _ ▸ hLi with h1 | h1
        · exact h1
        · exact absurd (by simpa using h1) hij
      obtain ⟨b, h1, h2, h3, c, e, h4⟩ := h.blk i q p C hq hLi' hp
      have hb := hn.below.block b h3.lt
      exact ⟨b, hle _ _ h1, h2, h3.mono (cle _) hb, c, e, by rw [hb]; exact h4⟩
  · -- two new blocks
    have old : ∀ i q p C b ob, F[i]? = some q → (L i || i == j) = true → i ≠ j → q.2[p]? = some (some C) → ρ' (d.mem.length + cnt F i + p) = some (b, ob) → L i = true ∧ ρ (d.mem.length + cnt F i + p) = some (b, ob) ∧ b < w.heap.size := by
      intro i q p C b ob hq hLi hij hp hb
      have hLi' : L i = true := by
        rcases Bool.or_eq_true _ _ ▸ hLi with h1 | h1
        · exact h1
        · exact absurd (by simpa using h1) hij
      have hpl := (List.getElem?_eq_some_iff.1 hp).1
      rw [e2 _ (apart i q hq hij p hpl)] at hb
      obtain ⟨b2, h1, _, h3, _⟩ := h.blk i q p C hq hLi' hp
      rw [h1] at hb; cases hb
      exact ⟨hLi', h1, h3.lt⟩
    have fresh : ∀ q p C b ob, F[j]? = some q → q.2[p]? = some (some C) → ρ' (d.mem.length + cnt F j + p) = some (b, ob) → w.heap.size ≤ b ∧ r.2[p]? = some (some C) ∧ ρr (d.mem.length + cnt F j + p) = some (b, ob) := by
      intro q p C b ob hq hp hb
      rw [hr] at hq; cases hq
      have hpl := (List.getElem?_eq_some_iff.1 hp).1
      rw [e1 _ (by omega) (by omega)] at hb
      obtain ⟨b2, h1, h2, _⟩ := hn.blk p C hp
      rw [h1] at hb; cases hb
      exact ⟨h2, hp, h1⟩
    by_cases hij : i = j
    · subst hij
      obtain ⟨a1, a2, a3⟩ := fresh q p C b ob hq hp hb
      by_cases hij' : i' = i
      · subst hij'
        obtain ⟨b1, b2, b3⟩ := fresh q' p' D b' ob' hq' hp' hb'
        exact hn.inj p p' b ob b' ob' (fun e => hne (by rw [e])) ⟨C, a2⟩ ⟨D, b2⟩ a3 b3
      · obtain ⟨_, _, b3⟩ := old i' q' p' D b' ob' hq' hLi' hij' hp' hb'
        omega
    · obtain ⟨a1, a2, a3⟩ := old i q p C b ob hq hLi hij hp hb
      by_cases hij' : i' = j
      · subst hij'
        obtain ⟨b1, _⟩ := fresh q' p' D b' ob' hq' hp' hb'
        omega
      · obtain ⟨b1, b2, _⟩ := old i' q' p' D b' ob' hq' hLi' hij' hp' hb'
        exact h.inj i i' p p' q q' C D b ob b' ob' hq hq' a1 b1 hp hp' hne a2 b2
  · exact h.below.trans (hn.below.mono h.below.size)

theorem cnt_take {F : List Res} {j i : Nat} (h : i ≤ j) : cnt (F.take j) i = cnt F i := by
  unfold cnt
  rw [List.take_take, Nat.min_eq_left h]

/-- What an operation sees, once all that stands ahead of it in every order is done. -/
theorem inv_sees {l : List Oper} {F : List Res} {ms : List Nat} {d : DS} {N : Nat} {ρs ρ : Rho} {ws w : World} {L : Nat → Bool} {a : Act} {j : Nat} {r : Res} (hm : MemOK ρs ws d.mem) (h : Inv l F d N ρs ws L a w ρ)
    (hr : F[j]? = some r) (hanc : ∀ i, (ms.getD j 0).testBit i = true → L i = true) :
    MemOK (cutR ρ (d.mem.length + cnt F j)) w (d.mem ++ memGo (fun i => (ms.getD j 0).testBit i) 0 (F.take j)) ∧
    (∀ x, (lkM (fun i => (ms.getD j 0).testBit i) l j (F.take j).reverse d.b x).rel (cutR ρ (d.mem.length + cnt F j)) (a.eval x)) ∧
    (d.mem ++ memGo (fun i => (ms.getD j 0).testBit i) 0 (F.take j)).length = d.mem.length + cnt F j := by
  have hjl := (List.getElem?_eq_some_iff.1 hr).1
  have hlen : (d.mem ++ memGo (fun i => (ms.getD j 0).testBit i) 0 (F.take j)).length = d.mem.length + cnt F j := by
    rw [List.length_append, memGo_length]
    have : (F.take j).length = j := by simp; omega
    rw [this, cnt_take (Nat.le_refl _)]
  have sle : ρs.le (cutR ρ (d.mem.length + cnt F j)) := by
    intro id p hp
    have hid : id < d.mem.length := Nat.lt_of_not_le fun hge => by rw [hm.dom id hge] at hp; cases hp
    unfold cutR
    rw [if_pos (by omega), h.keep id hid]; exact hp
  refine ⟨⟨fun id hid => if_neg (by rw [hlen] at hid; omega), fun id B hB => ?_⟩, fun x => ?_, hlen⟩
  · by_cases hid : id < d.mem.length
    · rw [List.getElem?_append_left hid] at hB
      obtain ⟨b, o, h1, h2⟩ := hm.blk id B hB
      exact ⟨b, o, sle _ _ h1, h2.mono sle (h.below.block b h2.lt)⟩
    · rw [List.getElem?_append_right (by omega)] at hB
      obtain ⟨i, p, q, h1, h2, h3, h4⟩ := memGo_get _ _ _ _ _ hB
      have hi : i < j := by
        have := (List.getElem?_eq_some_iff.1 h1).1
        simp at this; omega
      rw [List.getElem?_take, if_pos hi] at h1
      rw [cnt_take (by omega)] at h4
      rw [Nat.zero_add] at h2
      obtain ⟨b, k1, _, k3, _⟩ := h.blk i q p B h1 (hanc i h2) h3
      have hci := cnt_succ h1
      have hcm := cnt_mono (F := F) (show i + 1 ≤ j from hi)
      have hpl := (List.getElem?_eq_some_iff.1 h3).1
      have hid' : id = d.mem.length + cnt F i + p := by omega
      refine ⟨b, 0, ?_, k3.mono (cutR_le (by omega)) rfl⟩
      unfold cutR
      rw [if_pos (by omega), hid']; exact k1
  · cases x with
    | const v => exact ofVal_ok _ v
    | global g => exact trivial
    | func f => exact ⟨#[], rfl, trivial⟩
    | tmp t =>
      rcases srcT_get (fun i => (ms.getD j 0).testBit i) t l 0 with ⟨h1, h2⟩ | h1 | ⟨i, o, h1, h3, h4, h5⟩
      · simp only [lkM, h1]
        exact AV.rel_mono sle (h.old t h2)
      · simp only [lkM, h1]; trivial
      · rw [Nat.zero_add] at h5 h4
        simp only [lkM, h5]
        cases hb : Nat.blt i j with
        | false => trivial
        | true =>
          have hij : i < j := Nat.blt_eq.mp hb
          have hiF : i < F.length := by omega
          have hlr : (F.take j).reverse[j - 1 - i]? = some F[i] := by
            rw [List.getElem?_reverse (by simp; omega)]
            simp only [List.length_take, List.getElem?_take]
            rw [if_pos (by omega), show min j F.length - 1 - (j - 1 - i) = i by omega]
            simp [hiF]
          simp only [hlr]
          have hcm := cnt_mono (F := F) (show i + 1 ≤ j from hij)
          exact AV.rel_mono (cutR_le (by omega)) (h.done i o F[i] t h1 (by simp [hiF]) h3 (hanc i h4))

theorem inv_step {P : Program} {env : List (Ctr P)} {l : List Oper} {F : List Res} {st : DS} {N : Nat} {ms : List Nat} {ρs ρ : Rho} {ws w : World} {L : Nat → Bool} {a : Act} {j : Nat} {o : Oper} {r : Res} {K : Act → World → Prop} {Q : Exit → Act → World → Prop} {ops : Array Oper} {post : List Oper} (hops : ops.toList = l ++ post)
    (hf : Found P env l ms st F) (hk : DOK ms st.n l) (hnN : st.n ≤ N) (hm : MemOK ρs ws st.mem) (h : Inv l F st N ρs ws L a w ρ)
    (hj : l[j]? = some o) (hr : F[j]? = some r) (hL : L j = false) (hanc : ∀ i, (ms.getD j 0).testBit i = true → L i = true)
    (hK : ∀ a' w' ρ', Inv l F st N ρs ws (fun i => L i || i == j) a' w' ρ' → K a' w') : wpOp P ops Q j K a w := by
  obtain ⟨hmem, hslots, hlen⟩ := inv_sees hm h hr hanc
  have lead := hf.step j o r hj hr
  have hin : ∀ (i : Nat) (p : Oper), l[i]? = some p → ops[i]? = some p := by
    intro i p hi
    rw [← Array.getElem?_toList, hops, List.getElem?_append_left (List.getElem?_eq_some_iff.1 hi).1]; exact hi
  have hoj : ops[j]? = some o := hin j o hj
  have hgs : ∀ (g : Nat) (t : Tmp), guardSlot l.toArray g = some t → guardSlot ops g = some t := by
    intro g t h
    unfold guardSlot at h ⊢
    cases hlg : l[g]? with
    | none => simp [hlg] at h
    | some p => rw [hin g p hlg]; simpa [hlg] using h
  -- it runs
  have run : Region.wanted o (yielded ops a.tmps) = true →
      ((evQ P env (lkM (fun i => (ms.getD j 0).testBit i) l j (F.take j).reverse st.b) (st.mem ++ memGo (fun i => (ms.getD j 0).testBit i) 0 (F.take j)) o.op).bind fun r => if usedG l j then splitB r else .leaf r).leads r → wpOp P ops Q j K a w := by
    intro hw hl
    obtain ⟨r0, h1, h2⟩ := T.leads_bind hl
    have hsame : r.2 = r0.2 ∧ ∀ ρ v, r0.1.rel ρ v → r.1.rel ρ v := by
      by_cases hu : usedG l j = true
      · rw [if_pos hu] at h2
        obtain ⟨x, m⟩ := r0
        unfold splitB at h2
        split at h2
        · rename_i c m' heq
          cases heq
          cases hc : c with
          | true => have := h2.1 hc; cases this; exact ⟨rfl, fun ρ v hv => hv⟩
          | false => have := h2.2 hc; cases this; exact ⟨rfl, fun ρ v hv => hv⟩
        · cases h2; exact ⟨rfl, fun _ _ hv => hv⟩
      · rw [if_neg hu] at h2; cases h2; exact ⟨rfl, fun _ _ hv => hv⟩
    unfold wpOp
    simp only [hoj]
    rw [if_pos hw]
    refine .inl (evQ_ok hmem hslots (T.leads_holds h1 fun ρr w' v hn hv => ?_))
    rw [hlen, ← hsame.1] at hn
    exact hK _ _ _ (inv_put hk hnN h hj hr hL hn (hsame.2 _ _ hv))
  have skip : Region.wanted o (yielded ops a.tmps) = false → r = (.und, []) → wpOp P ops Q j K a w := by
    intro hw hre
    unfold wpOp
    simp only [hoj]
    rw [if_neg (by rw [hw]; exact Bool.false_ne_true)]
    subst hre
    exact hK _ _ _ (inv_put hk hnN h hj hr hL (New.refl _ w w _ (fun id hid => if_neg (by omega)) (Below.refl _ _)) rfl)
  unfold evDj at lead
  simp only [List.reverse_reverse] at lead
  split at lead
  · rename_i hg
    exact run (by simp [Region.wanted, hg]) lead
  · rename_i g want hg
    split at lead
    · rename_i hmg
      have hLg := hanc g hmg
      -- the guard's slot
      have slot : ∀ (t : Tmp) (q : Res), guardSlot l.toArray g = some t → (F.take j)[g]? = some q → q.1.rel (cutR ρ (st.mem.length + cnt F (g + 1))) (a.tmps.getD t undef) := by
        intro t q ht hq
        have hgj : g < j := by
          have := (List.getElem?_eq_some_iff.1 hq).1
          simp at this; omega
        rw [List.getElem?_take, if_pos hgj] at hq
        unfold guardSlot at ht
        cases hlg : l[g]? with
        | none => simp [hlg] at ht
        | some p =>
          have hd : p.dst = some t := by simpa [hlg] using ht
          exact h.done g p q t hlg hq hd hLg
      split at lead
      · rename_i t b m' ht hq
        have hrel := slot t _ ht hq
        have hy := yielded_bool (ops := ops) (hgs _ _ ht) hrel
        split at lead
        · rename_i hbw; exact run (by simp [Region.wanted, hg, hy, hbw]) lead
        · rename_i hbw; exact skip (by simp [Region.wanted, hg, hy, hbw]) lead.symm
      · rename_i t m' ht hq
        have hrel := slot t _ ht hq
        exact skip (by simp [Region.wanted, hg, yielded_und (hgs _ _ ht) hrel]) lead.symm
      · exact lead.elim
    · exact lead.elim

/-- What has been laid. -/
theorem inv_new {ρs ρ : Rho} {l : List Oper} {F : List Res} {st : DS} {N : Nat} {a : Act} {ws w : World} {L : Nat → Bool} (hlen : F.length = l.length)
    (h : Inv l F st N ρs ws L a w ρ) (hall : ∀ i, i < l.length → L i = true) : New ρs ρ ws w st.mem.length (memGo (fun _ => true) 0 F) := by
  have cle : ∀ k, (cutR ρ k).le ρ := by
    intro k id p hp
    unfold cutR at hp
    split at hp
    · exact hp
    · cases hp
  refine ⟨h.keep, fun id hid => h.out id (by rw [memGo_length] at hid; exact hid), h.below, fun q C hC => ?_, fun q q' b o b' o' hne hC hD hb hb' => ?_⟩
  · obtain ⟨i, p, r, h1, h2, h3, h4⟩ := memGo_get _ _ _ _ _ hC
    obtain ⟨b, k1, k2, k3, k4⟩ := h.blk i r p C h1 (hall i (by rw [← hlen]; exact (List.getElem?_eq_some_iff.1 h1).1)) h3
    exact ⟨b, by rw [h4, ← Nat.add_assoc]; exact k1, k2, k3.mono (cle _) rfl, k4⟩
  · obtain ⟨C, hC⟩ := hC
    obtain ⟨D, hD⟩ := hD
    obtain ⟨i, p, r, h1, h2, h3, h4⟩ := memGo_get _ _ _ _ _ hC
    obtain ⟨i', p', r', h1', h2', h3', h4'⟩ := memGo_get _ _ _ _ _ hD
    refine h.inj i i' p p' r r' C D b o b' o' h1 h1' (hall i (by rw [← hlen]; exact (List.getElem?_eq_some_iff.1 h1).1)) (hall i' (by rw [← hlen]; exact (List.getElem?_eq_some_iff.1 h1').1)) h3 h3' ?_ ?_ ?_
    · intro e
      cases e
      exact hne (by omega)
    · rw [Nat.add_assoc, ← h4]; exact hb
    · rw [Nat.add_assoc, ← h4']; exact hb'

theorem inv_end {B : Nat → Prop} {m0 : Nat} {w0 : World} {ρ0 ρs ρ : Rho} {l : List Oper} {F : List Res} {st : St} {a0 a : Act} {ws w : World} {L : Nat → Bool} (hc : Conc B m0 w0 ρ0 ρs a0 ws st) (hlen : F.length = l.length)
    (h : Inv l F st.ds st.sl.length ρs ws L a w ρ) (hall : ∀ i, i < l.length → L i = true) :
    Conc B m0 w0 ρ0 ρ a w { sl := slGo (fun _ => true) 0 l F st.sl, mem := st.mem ++ memGo (fun _ => true) 0 F } := by
  have hn : New ρs ρ ws w st.mem.length (memGo (fun _ => true) 0 F) := inv_new hlen h hall
  have hc2 := hc.new hn
  have hle := hn.le hc.mem
  refine ⟨h.defers, ⟨by rw [slGo_length]; exact h.size.symm, fun t => ?_⟩, hc2.mem, hc2.own, hc2.below, hc2.size, hc2.keep, hc2.len⟩
  show AV.rel ρ ((slGo (fun _ => true) 0 l F st.sl).getD t .und) _
  rcases slGo_get (fun _ => true) t l 0 F st.sl with ⟨h1, h2⟩ | h1 | ⟨i, o, q, h1, h2, h3, h4, h5⟩
  · rw [h1]
    by_cases ht : t < st.sl.length
    · exact AV.rel_mono hle (h.old t fun o ho hd => by have := h2 o ho hd; omega)
    · have e1 : st.sl.getD t .und = .und := by simp [List.getD, List.getElem?_eq_none (Nat.le_of_not_lt ht)]
      have e2 : a.tmps.getD t undef = undef := by
        rw [Array.getD_eq_getD_getElem?, Array.getElem?_eq_none (by rw [h.size]; exact Nat.le_of_not_lt ht)]; rfl
      rw [e1, e2]; rfl
  · rw [h1]; trivial
  · rw [h5]
    refine AV.rel_mono (ρ := cutR ρ (st.mem.length + cnt F (i + 1))) ?_ (h.done i o q t h1 h2 h3 (hall i (List.getElem?_eq_some_iff.1 h1).1))
    intro id p hp
    unfold cutR at hp
    split at hp
    · exact hp
    · cases hp

theorem ready_mem {ops : Array Oper} {listed : Array Bool} {i : Nat} (h : i ∈ Region.ready .any ops listed) : i < ops.size ∧ listed.getD i true = false ∧ ∃ o, ops[i]? = some o ∧ ∀ e ∈ o.after, Region.binds .any e = true → listed.getD e.on false = true := by
  unfold Region.ready at h
  rw [List.mem_filter] at h
  obtain ⟨h1, h2⟩ := h
  simp only [Bool.and_eq_true, Bool.not_eq_true'] at h2
  have hi : i < ops.size := by simpa using h1
  refine ⟨hi, h2.1, ops[i], by simp [hi], fun e he hb => ?_⟩
  have h3 := h2.2
  rw [Array.getElem?_eq_getElem hi] at h3
  simp only [Option.map_some, Option.getD_some, Array.all_eq_true'] at h3
  have := h3 e he
  simpa [hb] using this

theorem ready_nonempty {ops : Array Oper} {listed : Array Bool} (hsz : listed.size = ops.size) (hless : ∀ j o e, ops[j]? = some o → e ∈ o.after → Region.binds .any e = true → e.on < j) (h : Region.ready .any ops listed = []) : ∀ i, i < ops.size → listed.getD i false = true := by
  intro i
  induction i using Nat.strongRecOn with
  | _ i ih =>
    intro hi
    cases hl : listed.getD i false with
    | true => rfl
    | false =>
      exfalso
      have hmem : i ∈ Region.ready .any ops listed := by
        unfold Region.ready
        rw [List.mem_filter]
        refine ⟨by simpa using hi, ?_⟩
        have hl' : listed.getD i true = false := by
          have hi' : i < listed.size := by omega
          simp [Array.getD, hi'] at hl ⊢
          exact hl
        rw [hl', Array.getElem?_eq_getElem hi]
        simp only [Bool.not_false, Option.map_some, Option.getD_some, Bool.true_and, Array.all_eq_true']
        intro e he
        cases hb : Region.binds .any e with
        | false => rfl
        | true =>
          have := hless i ops[i] e (by simp [hi]) he hb
          simpa using ih e.on this (by omega)
      rw [h] at hmem
      cases hmem

theorem mask_lt {ms : List Nat} {len : Nat} {l : List Oper} (hk : DOK ms len l) : ∀ (j : Nat), j < l.length → ∀ i, (ms.getD j 0).testBit i = true → i < j := by
  intro j
  induction j using Nat.strongRecOn with
  | _ j ih =>
    intro hj i hi
    obtain ⟨e, he, hb, h1⟩ := hk.mask j l[j] i (by simp [hj]) hi
    have hlt := hk.less j l[j] e (by simp [hj]) he hb
    rcases h1 with h1 | h1
    · omega
    · have := ih e.on hlt (by omega) i h1
      omega

theorem full_bit {ms : List Nat} : ∀ (n k : Nat), fullFrom ms k n = true → ∀ j, k ≤ j → j < k + n → ∀ i, i < j → (ms.getD j 0).testBit i = true
  | 0, k, _, j, h1, h2, i, hi => by omega
  | n + 1, k, h, j, h1, h2, i, hi => by
    simp only [fullFrom, Bool.and_eq_true, beq_iff_eq] at h
    by_cases hj : j = k
    · subst hj
      rw [h.1, Nat.testBit_two_pow_sub_one]; simp [hi]
    · exact full_bit n (k + 1) h.2 j (by omega) (by omega) i hi

/-- The operations that write, one behind the other. -/
theorem wpAny_seq {P : Program} {ops : Array Oper} {ms : List Nat} {len : Nat} {Q : Exit → Act → World → Prop} (hk : DOK ms len ops.toList) :
    ∀ (post : List Oper) (k fuel : Nat) (listed : Array Bool) (a : Act) (w : World), ops.toList.drop k = post → k + post.length = ops.size → (∀ j i, k ≤ i → i < j → j < ops.size → (ms.getD j 0).testBit i = true) → listed.size = ops.size →
      (∀ i, i < ops.size → listed.getD i false = decide (i < k)) → post.length ≤ fuel → wpList P ops Q post a w → wpAny P .any ops Q fuel listed a w := by
  intro post
  induction post with
  | nil =>
    intro k fuel listed a w hdrop hlen hfull hsz hl hfu h
    have hr : Region.ready .any ops listed = [] := by
      rw [List.eq_nil_iff_forall_not_mem]
      intro i hi
      obtain ⟨h1, h2, _⟩ := ready_mem hi
      have := hl i h1
      have h3 : listed.getD i false = true := by rw [this]; simp at hlen; exact decide_eq_true (by omega)
      have hi' : i < listed.size := by omega
      simp [Array.getD, hi'] at h2 h3
      rw [h2] at h3; cases h3
    cases fuel with
    | zero => exact ⟨hr, h⟩
    | succ n => exact ⟨fun _ => h, fun i hi => by rw [hr] at hi; cases hi⟩
  | cons o rest ih =>
    intro k fuel listed a w hdrop hlen hfull hsz hl hfu h
    cases fuel with
    | zero => simp at hfu
    | succ fuel =>
      have hks : k < ops.size := by simp at hlen; omega
      have hok : ops[k]? = some o := by
        have := congrArg (fun l => l[0]?) hdrop
        simp at this
        simpa using this
      have hun : ∀ i, i < ops.size → listed.getD i true = false → k ≤ i := by
        intro i hi h2
        have h3 := hl i hi
        have hi' : i < listed.size := by omega
        simp [Array.getD, hi'] at h2 h3
        rw [h2] at h3
        have : ¬ i < k := fun hh => by simp [hh] at h3
        omega
      have only : ∀ i ∈ Region.ready .any ops listed, i = k := by
        intro i hi
        obtain ⟨h1, h2, p, hp, haft⟩ := ready_mem hi
        have hge := hun i h1 h2
        by_cases hik : i = k
        · exact hik
        · exfalso
          have hbit := hfull i k (Nat.le_refl k) (by omega) h1
          obtain ⟨e, he, hb, h5⟩ := hk.mask i p k (by simpa using hp) hbit
          have h6 := haft e he hb
          have helt := hk.less i p e (by simpa using hp) he hb
          have h7 := hl e.on (by omega)
          rw [h6] at h7
          have hek : e.on < k := by simpa using h7.symm
          rcases h5 with h5 | h5
          · omega
          · have := mask_lt hk e.on (by simp; omega) k h5
            omega
      refine ⟨fun hr => ?_, fun i hi => ?_⟩
      · exfalso
        have hless : ∀ j o e, ops[j]? = some o → e ∈ o.after → Region.binds .any e = true → e.on < j := fun j o e hj he hb => hk.less j o e (by simpa using hj) he hb
        have := ready_nonempty hsz hless hr k hks
        rw [hl k hks] at this
        simp at this
      · obtain rfl := only i hi
        have hnext : ∀ a' w', wpList P ops Q rest a' w' → wpAny P .any ops Q fuel (listed.setIfInBounds i true) a' w' := by
          intro a' w' h'
          have hfull' : ∀ j q, i + 1 ≤ q → q < j → j < ops.size → (ms.getD j 0).testBit q = true := fun j q h1 h2 h3 => hfull j q (by omega) h2 h3
          refine ih (i + 1) fuel _ a' w' ?_ (by simp at hlen; omega) hfull' (by simpa using hsz) (fun q hq => ?_) (by simp at hfu; omega) h'
          · have := congrArg (List.drop 1) hdrop
            simpa using this
          · have hq' : q < listed.size := by omega
            have h0 := hl q hq
            simp only [Array.getD_eq_getD_getElem?, Array.getElem?_setIfInBounds] at h0 ⊢
            by_cases hqi : i = q
            · subst hqi; simp [hq']
            · rw [if_neg hqi, h0]
              exact decide_eq_decide.2 (by omega)
        unfold wpOp
        simp only [hok]
        unfold wpList at h
        split at h
        · rename_i hw
          rw [if_pos hw]
          rcases h with h | h
          · exact .inl (Oper.wp_mono hnext h)
          · exact .inr h
        · rename_i hw
          rw [if_neg hw]
          exact hnext _ _ h

/-- A plain taking out of a part: it may be done at any time. -/
def fltB (o : Oper) : Bool := match o.op, o.guard with
  | .extract _ _, none => true
  | _, _ => false

theorem flt_ok {P : Program} {env : List (Ctr P)} {l : List Oper} {F : List Res} {st : DS} {N : Nat} {ms : List Nat} {ρs ρ : Rho} {ws w : World} {L : Nat → Bool} {a : Act} {j : Nat} {o : Oper} {r : Res} {ops : Array Oper}
    (hf : Found P env l ms st F) (hk : DOK ms st.n l) (hnN : st.n ≤ N) (hm : MemOK ρs ws st.mem) (h : Inv l F st N ρs ws L a w ρ)
    (hj : l[j]? = some o) (hr : F[j]? = some r) (hL : L j = false) (hanc : ∀ i, (ms.getD j 0).testBit i = true → L i = true) (hfl : fltB o = true) :
    ∃ v ρ', Yields P ops o v a ∧ Inv l F st N ρs ws (fun i => L i || i == j) (a.put o.dst v) w ρ' := by
  obtain ⟨hmem, hslots, hlen⟩ := inv_sees hm h hr hanc
  have lead := hf.step j o r hj hr
  unfold fltB at hfl
  split at hfl <;> try cases hfl
  rename_i x q ho hg
  unfold evDj at lead
  rw [hg, ho] at lead
  simp only [List.reverse_reverse] at lead
  obtain ⟨r0, h1, h2⟩ := T.leads_bind lead
  have hsame : r.2 = r0.2 ∧ ∀ ρ v, r0.1.rel ρ v → r.1.rel ρ v := by
    by_cases hu : usedG l j = true
    · rw [if_pos hu] at h2
      obtain ⟨x, m⟩ := r0
      unfold splitB at h2
      split at h2
      · rename_i c m' heq
        cases heq
        cases hc : c with
        | true => have := h2.1 hc; cases this; exact ⟨rfl, fun ρ v hv => hv⟩
        | false => have := h2.2 hc; cases this; exact ⟨rfl, fun ρ v hv => hv⟩
      · cases h2; exact ⟨rfl, fun _ _ hv => hv⟩
    · rw [if_neg hu] at h2; cases h2; exact ⟨rfl, fun _ _ hv => hv⟩
  have hx := hslots x
  unfold evQ at h1
  simp only [] at h1
  unfold evExtract at h1
  split at h1
  · rename_i lst hlst
    rw [hlst] at hx
    split at h1
    · rename_i p hp
      have h1 : (p.av, ([] : Mem)) = r0 := h1
      obtain ⟨vs, hvs, hl⟩ := hx
      obtain ⟨v, k1, k2⟩ := hl.get q p hp
      have hv : r.1.rel (cutR ρ (st.mem.length + cnt F j)) v := hsame.2 _ _ (by rw [← h1]; exact Pt.av_rel k2)
      have hr2 : r.2 = [] := by rw [hsame.1, ← h1]
      have h1' : vs[q]? = some v := by simpa using k1
      have he : execOp a.eval o = (do let u ← Instr.extract (a.eval x) q; pure (.value u)) := by unfold execOp; rw [ho] <;> rfl
      refine ⟨v, _, .inl ⟨by simp [Region.wanted, hg], fun w' => ?_⟩, inv_put hk hnN h hj hr hL (by rw [hr2]; exact New.refl _ w w _ (fun id hid => if_neg (by omega)) (Below.refl _ _)) hv⟩
      rw [he, Sem.run_bind, hvs]
      simp [Instr.extract, h1']
    · exact h1.elim
  · exact h1.elim

theorem least_false {p : Nat → Bool} : ∀ (n : Nat), p n = false → ∃ e, e ≤ n ∧ p e = false ∧ ∀ i, i < e → p i = true := by
  intro n
  induction n using Nat.strongRecOn with
  | _ n ih =>
    intro hn
    by_cases h : ∃ i, i < n ∧ p i = false
    · obtain ⟨i, hi, hp⟩ := h
      obtain ⟨e, h1, h2, h3⟩ := ih i hi hp
      exact ⟨e, by omega, h2, h3⟩
    · refine ⟨n, Nat.le_refl n, hn, fun i hi => ?_⟩
      cases hp : p i with
      | true => rfl
      | false => exact absurd ⟨i, hi, hp⟩ h

/-- WHATEVER ORDER IS DRAWN. -/
theorem wpAny_inv {P : Program} {env : List (Ctr P)} {ops : Array Oper} {l post : List Oper} {F : List Res} {st : DS} {N : Nat} {ms : List Nat} {ρs : Rho} {ws : World} {Q : Exit → Act → World → Prop} (E : Nat → Bool) (hops : ops.toList = l ++ post)
    (hf : Found P env l ms st F) (hka : DOK ms st.n ops.toList) (hnN : st.n ≤ N) (hfull : ∀ j i, l.length ≤ j → j < ops.size → i < j → (i < l.length → E i = false) → (ms.getD j 0).testBit i = true) (hm : MemOK ρs ws st.mem)
    (hE : ∀ i o, l[i]? = some o → E i = true → fltB o = true)
    (hap : ∀ e oe j oj, E e = true → l[e]? = some oe → ops[j]? = some oj → j ≠ e → ((j < l.length ∧ E j = true) ∨ l.length ≤ j) → (∀ ed ∈ oj.after, Region.binds .any ed = true → ed.on ≠ e) → oe.apart ops oj = true)
    (hQp : ∀ e, E e = true → (∀ c a w, Q (.panic c) a w → False) ∧ ∀ (j : Nat) (o : Oper) cs b, ops[j]? = some o → o.op ≠ .select cs b)
    (hQ : ∀ L a w ρ, Inv l F st N ρs ws L a w ρ → (∀ i, i < l.length → L i = true) → wpList P ops Q post a w) :
    ∀ (fuel : Nat) (listed : Array Bool) (a : Act) (w : World) (ρ : Rho), listed.size = ops.size → (listed.toList.filter fun b => !b).length ≤ fuel →
      (∀ j i, listed.getD j false = true → (ms.getD j 0).testBit i = true → listed.getD i false = true) → (∀ i, l.length ≤ i → listed.getD i false = false) →
      Inv l F st N ρs ws (fun i => listed.getD i false) a w ρ → wpAny P .any ops Q fuel listed a w := by
  have hless : ∀ j o e, ops[j]? = some o → e ∈ o.after → Region.binds .any e = true → e.on < j := fun j o e hj he hb => hka.less j o e (by simpa using hj) he hb
  have hsize : l.length + post.length = ops.size := by have := congrArg List.length hops; simp at this; omega
  have hinl : ∀ (i : Nat), i < l.length → ops.toList[i]? = l[i]? := fun i hi => by rw [hops, List.getElem?_append_left hi]
  have hk : DOK ms st.n l := by
    have up : ∀ (i : Nat) (p : Oper), l[i]? = some p → ops.toList[i]? = some p := fun i p hi => by rw [hinl i (List.getElem?_eq_some_iff.1 hi).1]; exact hi
    exact ⟨fun j o i hj => hka.mask j o i (up j o hj), fun j o e hj => hka.less j o e (up j o hj), fun j o t hj => hka.dst j o t (up j o hj), fun i j o p t hij hi hj => hka.apart i j o p t hij (up i o hi) (up j p hj)⟩
  have all : ∀ (fuel : Nat) (listed : Array Bool) (a : Act) (w : World) (ρ : Rho), listed.size = ops.size → (∀ i, l.length ≤ i → listed.getD i false = false) → post.length ≤ fuel →
      Inv l F st N ρs ws (fun i => listed.getD i false) a w ρ → (∀ i, i < l.length → listed.getD i false = true) → wpAny P .any ops Q fuel listed a w := by
    intro fuel listed a w ρ hsz hno hfu h hall
    refine wpAny_seq hka post l.length fuel listed a w (by rw [hops]; simp) hsize (fun j i h1 h2 h3 => hfull j i (by omega) h3 h2 (fun h4 => by omega)) hsz (fun i hi => ?_) hfu (hQ _ a w ρ h hall)
    by_cases hil : i < l.length
    · rw [hall i hil]; exact (decide_eq_true hil).symm
    · rw [hno i (by omega)]; exact (decide_eq_false hil).symm
  have cnt : ∀ (listed : Array Bool), listed.size = ops.size → (∀ i, l.length ≤ i → listed.getD i false = false) → post.length ≤ (listed.toList.filter fun b => !b).length := by
    intro listed hsz hno
    have h1 : (listed.toList.drop l.length).filter (fun b => !b) = listed.toList.drop l.length := by
      refine List.filter_eq_self.2 fun b hb => ?_
      obtain ⟨i, hi, rfl⟩ := List.mem_iff_getElem.1 hb
      have := hno (l.length + i) (by omega)
      rw [List.getElem_drop]
      have hlt : l.length + i < listed.size := by simp at hi; omega
      simp [Array.getD, hlt] at this
      simp [this]
    have h2 : (listed.toList.filter fun b => !b) = (listed.toList.take l.length).filter (fun b => !b) ++ (listed.toList.drop l.length).filter (fun b => !b) := by
      rw [← List.filter_append, List.take_append_drop]
    rw [h2, h1]
    simp
    omega
  intro fuel
  induction fuel with
  | zero =>
    intro listed a w ρ hsz hcnt _ hno h
    have hall : ∀ i, i < ops.size → listed.getD i false = true := by
      intro i hi
      have hi' : i < listed.size := by omega
      have hnil : (listed.toList.filter fun b => !b) = [] := List.length_eq_zero_iff.1 (by omega)
      have := List.filter_eq_nil_iff.1 hnil listed[i] (by simp)
      have hli : listed[i] = true := by simpa using this
      simp [Array.getD, hi', hli]
    exact all 0 listed a w ρ hsz hno (Nat.le_trans (cnt listed hsz hno) hcnt) h fun i hi => hall i (by omega)
  | succ fuel ih =>
    intro listed a w ρ hsz hcnt hcl hno h
    by_cases hdone : ∀ i, i < l.length → listed.getD i false = true
    · exact all _ listed a w ρ hsz hno (Nat.le_trans (cnt listed hsz hno) hcnt) h hdone
    have step : ∀ (j : Nat) (o : Oper), l[j]? = some o → listed.getD j false = false → (∀ a' w' ρ', Inv l F st N ρs ws (fun i => listed.getD i false || i == j) a' w' ρ' → (∀ i, (ms.getD j 0).testBit i = true → listed.getD i false = true) → wpAny P .any ops Q fuel (listed.setIfInBounds j true) a' w') := by
      intro j o hjo' hjl' a' w' ρ' h' hanc
      have hjlt : j < l.length := (List.getElem?_eq_some_iff.1 hjo').1
      have hjsz : j < listed.size := by omega
      have hset : ∀ i, (listed.setIfInBounds j true).getD i false = (listed.getD i false || i == j) := by
        intro i
        simp only [Array.getD_eq_getD_getElem?, Array.getElem?_setIfInBounds]
        by_cases hij : j = i
        · subst hij
          simp [hjsz]
        · have : (i == j) = false := by simp; omega
          simp [hij, this]
      refine ih (listed.setIfInBounds j true) a' w' ρ' (by simpa using hsz) ?_ ?_ ?_ ?_
      · have hjlt : j < listed.toList.length := by simp; omega
        rw [Array.toList_setIfInBounds]
        have key : ∀ (l : List Bool) (j : Nat), j < l.length → l.getD j true = false → ((l.set j true).filter fun b => !b).length + 1 = (l.filter fun b => !b).length := by
          intro l
          induction l with
          | nil => intro j hj; simp at hj
          | cons x l ihl =>
            intro j hj hx
            cases j with
            | zero =>
              simp at hx; subst hx
              simp
            | succ j =>
              simp at hj
              have := ihl j hj (by simpa using hx)
              cases x <;> simp [← this]
        have := key listed.toList j hjlt (by
          simp [Array.getD, List.getD, hjsz] at hjl' ⊢
          exact hjl')
        omega
      · intro i k hi hk'
        rw [hset] at hi ⊢
        have hi' : listed.getD i false = true ∨ i = j := by simpa using hi
        rcases hi' with h1 | h1
        · rw [hcl i k h1 hk']; rfl
        · subst h1
          rw [hanc k hk']; rfl
      · intro i hi
        rw [hset, hno i hi]
        have : (i == j) = false := by simp; omega
        rw [this]; rfl
      · have e : (fun i => (listed.setIfInBounds j true).getD i false) = (fun i => listed.getD i false || i == j) := funext hset
        rw [e]; exact h'
    by_cases hA : ∃ i, i < l.length ∧ E i = false ∧ listed.getD i false = false
    case neg =>
      -- only plain parts are left
      have hall : ∀ i, i < l.length → E i = false → listed.getD i false = true := fun i hi he => by
        cases hli : listed.getD i false with
        | true => rfl
        | false => exact absurd ⟨i, hi, he, hli⟩ hA
      obtain ⟨i0, hi0⟩ : ∃ i, ¬ (i < l.length → listed.getD i false = true) := Classical.not_forall.1 hdone
      have hi1 : i0 < l.length := by
        rcases Nat.lt_or_ge i0 l.length with h1 | h1
        · exact h1
        · exact absurd (fun h2 => by omega) hi0
      have hi2 : listed.getD i0 false = false := by
        cases hli : listed.getD i0 false with
        | true => exact absurd (fun _ => hli) hi0
        | false => rfl
      obtain ⟨e, he0, hel, hmin⟩ := least_false (p := fun i => listed.getD i false) i0 hi2
      have hel : listed.getD e false = false := hel
      have helt : e < l.length := by omega
      have hEe : E e = true := by
        cases hEe : E e with
        | true => rfl
        | false => rw [hall e helt hEe] at hel; cases hel
      obtain ⟨oe, hoe⟩ : ∃ oe, l[e]? = some oe := ⟨l[e], by simp [helt]⟩
      obtain ⟨re, hre⟩ : ∃ r, F[e]? = some r := ⟨F[e]'(by rw [hf.len]; exact helt), by simp⟩
      have hoe' : ops[e]? = some oe := by
        have := hinl e helt
        rw [hoe] at this
        simpa using this
      have hanc : ∀ i, (ms.getD e 0).testBit i = true → listed.getD i false = true := fun i hi => hmin i (mask_lt hk e helt i hi)
      obtain ⟨v, ρ', hy, hinv⟩ := flt_ok (ops := ops) hf hk hnN hm h hoe hre hel hanc (hE e oe hoe hEe)
      obtain ⟨hpan, hsel⟩ := hQp e hEe
      refine wpAny_first hoe' hsel (fun c a w hh => (hpan c _ _ hh).elim) fuel listed a w (fun j oj hj hje hjl hno' => ?_) ?_ hy (step e oe hoe hel _ _ ρ' hinv hanc)
      · refine hap e oe j oj hEe hoe hj hje ?_ hno'
        rcases Nat.lt_or_ge j l.length with h1 | h1
        · refine .inl ⟨h1, ?_⟩
          cases hEj : E j with
          | true => rfl
          | false =>
            have h2 := hall j h1 hEj
            have : j < listed.size := by omega
            simp [Array.getD, this] at hjl h2
            rw [hjl] at h2; cases h2
        · exact .inr h1
      · rw [mem_ready]
        have hes : e < listed.size := by omega
        refine ⟨?_, oe, hoe', fun ed hed hb => hmin ed.on (hka.less e oe ed (by simpa using hoe') hed hb)⟩
        simp [Array.getD, hes] at hel ⊢
        exact hel
    refine ⟨fun hr => absurd (fun i hi => ready_nonempty hsz hless hr i (by omega)) hdone, fun j hj => ?_⟩
    obtain ⟨hjs, hjl, o, hjo, haft⟩ := ready_mem hj
    have hjl' : listed.getD j false = false := by
      have : j < listed.size := by omega
      simp [Array.getD, this] at hjl ⊢
      exact hjl
    have hanc : ∀ i, (ms.getD j 0).testBit i = true → listed.getD i false = true := by
      intro i hi
      obtain ⟨e, he, hb, h1⟩ := hka.mask j o i (by simpa using hjo) hi
      have hl := haft e he hb
      rcases h1 with h1 | h1
      · rw [← h1]; exact hl
      · exact hcl e.on i hl h1
    have hjlt : j < l.length := by
      rcases Nat.lt_or_ge j l.length with h1 | h1
      · exact h1
      · exfalso
        obtain ⟨i, hi, hEi, hli⟩ := hA
        have := hanc i (hfull j i h1 hjs (by omega) (fun _ => hEi))
        rw [hli] at this; cases this
    have hjo' : l[j]? = some o := by rw [← hinl j hjlt]; simpa using hjo
    obtain ⟨r, hr⟩ : ∃ r, F[j]? = some r := ⟨F[j]'(by rw [hf.len]; exact hjlt), by simp⟩
    exact inv_step hops hf hk hnN hm h hjo' hr hjl' hanc fun a' w' ρ' h' => step j o hjo' hjl' a' w' ρ' h' hanc

theorem evDraw_ok {P : Program} (hmix : P.follows .mixedOrders = true) (env : List (Ctr P)) (m0 : Nat) : DrawOK P m0 (evDraw P env m0) := by
  intro B w0 ρ0 ρ a w st hc id ops Q h
  unfold evDraw at h
  split at h <;> try exact h.elim
  rename_i hd
  simp only [Bool.and_eq_true] at hd
  have hk := dok_of hd.1
  have hsplit : ops.toList = preQ ops.toList ++ postQ ops.toList := (pre_post _).symm
  obtain ⟨F, hf, hF⟩ := evD_found (st := st.ds) (preQ ops.toList) 0 [] rfl (by simp) (Nat.zero_le _) (fun i o r _ h => by simp at h) (T.holds_bind h)
  refine wp_region_any hmix ?_
  have hb : Below w.heap.size w { w with drawn := w.drawn + 1 } := (Below.refl _ _).drew
  refine wpAny_inv (fun _ => false) (N := st.sl.length) hsplit hf hk (Nat.le_refl _) (fun j i h1 h2 h3 _ => full_bit _ _ hd.2 j h1 (by have := congrArg List.length hsplit; simp at this; omega) i h3) hc.mem (fun _ _ _ h => by cases h) (fun _ _ _ _ h => by cases h) (fun _ h => by cases h) (fun L a' w' ρ' hi hall => evOps_ok _ (inv_end hc hf.len hi hall) hF) ops.size _ a _ ρ (by simp) ?_ ?_ ?_ ?_
  · refine Nat.le_trans (List.length_filter_le _ _) (by simp)
  · intro j i hj
    simp [Array.getD] at hj
  · intro i _
    simp [Array.getD]
  · have e : (fun i => (Array.replicate ops.size false).getD i false) = (fun _ => false) := by
      funext i
      simp [Array.getD]
    rw [e]
    exact inv_start hc.slots.1.symm hc.slots.2 hc.defers hc.mem hb

end Go.Proofs.Ytdmcpgbnomhahaa
