/-
  'append' to a row of one's own. No conditions.
-/
import Derived.Test.YtdmcpgbnomhahaaMs
import Derived.Laws.AppendOwn
import Derived.Lib.AppendStr
namespace Go.Proofs.Ytdmcpgbnomhahaa
set_option linter.unusedVariables false
set_option linter.unusedSimpArgs false
open Go.RowKit

/-! ### The world -/

theorem append_world {P : Program} (w : World) (t ty e : TypeId) (i : TypeInfo) (z : Value) (size : Nat) (ht : P.underlying t = some (.slice e)) (hi : P.info? e = some i) (hz : i.zero = some z)
    (hsize : i.size = size) (hzs : z.cells.size = size) (hsz : 0 < size)
    (b n cap : Nat) (cur : Array Value) (hg : w.heap[b]? = some (.cells cur e (0, 0))) (hcs : cur.size = cap * size) (hnc : n ≤ cap) (hcm : cap ≤ maxLen)
    (a : Option Addr) (m c : Nat) (news : List Value) (ha : m = 0 ∨ ∃ a', a = some a') (hl : news.length = m * size) (hnews : ∀ a', a = some a' → ∀ j u, news[j]? = some u → w.cell? (a'.add j) = some u) (h1 : ∀ u ∈ news, u.oneCell' = true)
    (h63 : n + m ≤ maxLen) (hbytes : (n + m) * i.bytes ≤ 140737488355328) :
    ∃ g cap' cur' w', (Builtin.append_ #[t, t] ty #[.slice (some ⟨b, 0, none⟩) n cap, .slice a m c]).run P w = .ok (.slice (some ⟨g, 0, none⟩) (n + m) cap') w' ∧ (g = b ∨ g = w.heap.size) ∧
      w'.heap[g]? = some (.cells cur' e (0, 0)) ∧ cur'.size = cap' * size ∧ n + m ≤ cap' ∧ cap' ≤ maxLen ∧ cur'.toList.take ((n + m) * size) = cur.toList.take (n * size) ++ news ∧
      w'.os = w.os ∧ w'.tape = w.tape ∧ w'.output = w.output ∧ w.heap.size ≤ w'.heap.size ∧ ∀ k, k < w.heap.size → k ≠ b → w'.heap[k]? = w.heap[k]? := by
  subst hsize
  have htk : (cur.toList.take (n * i.size)).length = n * i.size := by
    rw [List.length_take, Array.length_toList, hcs]
    exact Nat.min_eq_left (Nat.mul_le_mul_right _ hnc)
  have hlen : (cur.toList.take (n * i.size) ++ news).length = (n + m) * i.size := by
    rw [List.length_append, htk, hl, Nat.add_mul]
  by_cases hsome : ∃ a', a = some a'
  · obtain ⟨a', rfl⟩ := hsome
    have hnews := hnews a' rfl
    by_cases hroom : n + m ≤ cap
    · have hfit : n * i.size + news.length ≤ cur.size := by rw [hl, hcs, ← Nat.add_mul]; exact Nat.mul_le_mul_right _ hroom
      refine ⟨b, cap, _, _, run_append_room w t ty e i ht hi b n cap cur hg a' m c news hl hnews h1 hroom hfit, .inl rfl, setRow_heap w b cur _ e _ hg, ?_, hroom, hcm, ?_, rfl, rfl, rfl, by simp, fun k _ hk => setRow_other w b k _ hk⟩
      · simp only [List.size_toArray, List.length_append, List.length_take, List.length_drop, Array.length_toList]
        omega
      · show (cur.toList.take (n * i.size) ++ news ++ cur.toList.drop (n * i.size + news.length)).take ((n + m) * i.size) = _
        rw [← hlen]; exact List.take_left
    · have holds : ∀ j u, (cur.toList.take (n * i.size))[j]? = some u → w.cell? ((⟨b, 0, none⟩ : Addr).add j) = some u := by
        intro j u hu
        have hadd : (⟨b, 0, none⟩ : Addr).add j = ⟨b, j, none⟩ := by rw [Addr.add_lit, Nat.zero_add]
        rw [hadd, cell_of_row w b j cur e (0, 0) hg]
        rw [List.getElem?_take] at hu
        split at hu
        · simpa using hu
        · cases hu
      have hr := run_append_grow (P := P) w t ty e i z ht hi hz ⟨b, 0, none⟩ n cap (cur.toList.take (n * i.size)) htk holds a' m c news hl hnews (by omega) (by simp only [maxLen] at h63; omega) (growslice_fits (by omega) hbytes)
      have hge := grownCap_ge w (n + m) cap e
      refine ⟨w.heap.size, _, _, _, hr, .inr rfl, heap_alloc_new w.drew _, ?_, hge, grownCap_le_maxLen w (n + m) cap e h63, ?_, rfl, rfl, rfl, by simp, fun k hk _ => heap_alloc_old w.drew _ hk⟩
      · simp only [Array.size_append, List.size_toArray, size_zeroCells, hzs, htk, hl, ← Nat.add_mul]
        congr 1
        omega
      · simp only [Array.toList_append, List.append_assoc]
        rw [← List.append_assoc, ← hlen]
        exact List.take_left
  · have hm : m = 0 := ha.resolve_right hsome
    subst hm
    have ha0 : a = none := by cases a with | none => rfl | some x => exact absurd ⟨x, rfl⟩ hsome
    subst ha0
    have hn : news = [] := List.eq_nil_of_length_eq_zero (by simpa using hl)
    subst hn
    refine ⟨b, cap, cur, w, ?_, .inl rfl, hg, hcs, by omega, hcm, by simp, rfl, rfl, rfl, Nat.le_refl _, fun _ _ _ => rfl⟩
    simp [Builtin.append_, run_underlying ht, sizeOf, typeInfo, hi, Builtin.lenOf, Builtin.firstCells, hnc, storeCells]

/-! ### Names that do not matter -/

section
variable {ρ ρ' : Rho}

theorem ca_agree : ∀ {l : List (Nat × Nat × Nat × Nat)} {vs : List Value}, (∀ x ∈ caNames l, ρ' x = ρ x) → capsRel ρ l vs → capsRel ρ' l vs
  | [], [], _, _ => trivial
  | (id, _, _, _) :: _, _ :: _, h, ⟨⟨b, o, h1, h2⟩, h3⟩ => ⟨⟨b, o, (h _ (List.Mem.head _)).trans h1, h2⟩, ca_agree (fun x hx => h x (List.Mem.tail _ hx)) h3⟩

theorem sv_agree {s : SV} {v : Value} (h : ∀ x ∈ svNames s, ρ' x = ρ x) (hr : s.rel ρ v) : s.rel ρ' v := by
  cases s <;> first
    | exact hr
    | (obtain ⟨b, o, h1, h2⟩ := hr; exact ⟨b, o, (h _ (List.Mem.head _)).trans h1, h2⟩)
    | (obtain ⟨vs, h1, h2⟩ := hr; exact ⟨vs, h1, ca_agree h h2⟩)
    | (obtain ⟨b, cap, h1, h2, h3, h4⟩ := hr; exact ⟨b, cap, (h _ (List.Mem.head _)).trans h1, (h _ (List.Mem.tail _ (List.Mem.head _))).trans h2, h3, h4⟩)
    | (obtain ⟨a, cap, h1, h2, h3⟩ := hr; exact ⟨a, cap, h1, h2, fun hl => by obtain ⟨b, o, k1, k2⟩ := h3 hl; exact ⟨b, o, (h _ (List.Mem.head _)).trans k1, k2⟩⟩)

theorem l_agree : ∀ {l : List SV} {vs : List Value}, (∀ x ∈ lNames l, ρ' x = ρ x) → RelL ρ l vs → RelL ρ' l vs
  | [], [], _, _ => trivial
  | _ :: _, _ :: _, hs, ⟨h1, h2⟩ => ⟨sv_agree (fun x hx => hs x (List.mem_append_left _ hx)) h1, l_agree (fun x hx => hs x (List.mem_append_right _ hx)) h2⟩

theorem pt_agree {s : Pt} {v : Value} (hs : ∀ x ∈ ptNames s, ρ' x = ρ x) (hr : s.rel ρ v) : s.rel ρ' v := by
  cases s with
  | one s => exact sv_agree hs hr
  | agg l => obtain ⟨cs, h1, h2⟩ := hr; exact ⟨cs, h1, l_agree hs h2⟩

theorem p_agree : ∀ {l : List Pt} {vs : List Value}, (∀ x ∈ pNames l, ρ' x = ρ x) → RelP ρ l vs → RelP ρ' l vs
  | [], [], _, _ => trivial
  | _ :: _, _ :: _, hs, ⟨h1, h2⟩ => ⟨pt_agree (fun x hx => hs x (List.mem_append_left _ hx)) h1, p_agree (fun x hx => hs x (List.mem_append_right _ hx)) h2⟩

theorem av_agree {s : AV} {v : Value} (hs : ∀ x ∈ avNames s, ρ' x = ρ x) (hr : s.rel ρ v) : s.rel ρ' v := by
  cases s with
  | one s => exact sv_agree hs hr
  | agg l => obtain ⟨cs, h1, h2⟩ := hr; exact ⟨cs, h1, l_agree hs h2⟩
  | tup l => obtain ⟨cs, h1, h2⟩ := hr; exact ⟨cs, h1, p_agree hs h2⟩
  | und => exact hr
  | any => trivial
  | tie i j => obtain ⟨p, h1, h2⟩ := hr; exact ⟨p, (hs _ (List.Mem.head _)).trans h1, (hs _ (List.Mem.tail _ (List.Mem.head _))).trans h2⟩
end

theorem inNs_of {k : Nat} : ∀ {l : List Nat}, k ∈ l → inNs k l = true
  | x :: l, h => by
    unfold inNs
    cases hb : Nat.beq k x with
    | true => rfl
    | false =>
      cases h with
      | head => simp at hb
      | tail _ h => exact inNs_of h

/-- A block that does not name two names. -/
def dropB (id k : Nat) : Option Blk → Option Blk
  | some (.cols n cs) => some (.cols n cs)
  | some (.box l) => match inNs id (lNames l) with
    | true => none
    | false => match inNs k (lNames l) with
      | true => none
      | false => some (.box l)
  | some (.grow n cs q e) => match Nat.beq q id with
    | true => none
    | false => match Nat.beq q k with
      | true => none
      | false => some (.grow n cs q e)
  | _ => none

theorem dropB_ok {id k : Nat} {x : Option Blk} {C : Blk} (h : dropB id k x = some C) : x = some C ∧ ∀ (ρ ρ' : Rho) (w w' : World) (b o : Nat), (∀ z, z ≠ id → z ≠ k → ρ' z = ρ z) → w'.heap[b]? = w.heap[b]? → BlkAt ρ w b o C → BlkAt ρ' w' b o C := by
  unfold dropB at h
  split at h
  · rename_i n cs
    cases h
    refine ⟨rfl, fun ρ ρ' w w' b o hag hw hb => ?_⟩
    obtain ⟨c, e, fz, h1, h2, _⟩ := hb
    refine ⟨c, e, fz, by rw [hw, h1], fun i hi j hj => ?_, trivial⟩
    obtain ⟨v, s, a1, a2, a3⟩ := h2 i hi j hj
    refine ⟨v, s, a1, a2, ?_⟩
    have hz : ∀ (cs : List Col) (j : Nat) (s : SV), (colsAt cs i)[j]? = some s → svNames s = [] := by
      intro cs
      induction cs with
      | nil => intro j s h; simp [colsAt] at h
      | cons x cs ih =>
        intro j s h
        cases j with
        | zero => simp [colsAt] at h; subst h; cases x <;> rfl
        | succ j => exact ih j s (by simpa [colsAt] using h)
    exact sv_agree (by rw [hz cs j s a2]; intro x hx; cases hx) a3
  · rename_i l
    split at h
    · cases h
    · rename_i h1
      split at h
      · cases h
      · rename_i h2
        cases h
        refine ⟨rfl, fun ρ ρ' w w' b o hag hw hb => ?_⟩
        obtain ⟨c, e, fz, k1, k2, _⟩ := hb
        refine ⟨c, e, fz, by rw [hw, k1], fun i hi j hj => ?_, trivial⟩
        obtain ⟨v, s, a1, a2, a3⟩ := k2 i hi j hj
        refine ⟨v, s, a1, a2, sv_agree (fun x hx => ?_) a3⟩
        have hin : ∀ (l : List SV) (j : Nat), l[j]? = some s → x ∈ lNames l := by
          intro l
          induction l with
          | nil => intro j h; simp at h
          | cons y l ih =>
            intro j h
            cases j with
            | zero => simp at h; subst h; exact List.mem_append_left _ hx
            | succ j => exact List.mem_append_right _ (ih j (by simpa using h))
        have hm := hin l j a2
        refine hag x (fun e => ?_) (fun e => ?_)
        · subst e; rw [inNs_of hm] at h1; cases h1
        · subst e; rw [inNs_of hm] at h2; cases h2
  · rename_i n cs q e
    split at h
    · cases h
    · rename_i h1
      split at h
      · cases h
      · rename_i h2
        cases h
        refine ⟨rfl, fun ρ ρ' w w' b o hag hw hb => ?_⟩
        obtain ⟨c, e1, fz, k1, k2, k3, cap, k4, k5⟩ := hb
        have hq : ρ' q = ρ q := hag q (fun e => by subst e; simp at h1) (fun e => by subst e; simp at h2)
        refine ⟨c, e1, fz, by rw [hw, k1], fun i hi j hj => ?_, k3, cap, hq.trans k4, k5⟩
        obtain ⟨v, s, a1, a2, a3⟩ := k2 i hi j hj
        refine ⟨v, s, a1, a2, ?_⟩
        have hz : ∀ (cs : List Col) (j : Nat) (s : SV), (colsAt cs i)[j]? = some s → svNames s = [] := by
          intro cs
          induction cs with
          | nil => intro j s h; simp [colsAt] at h
          | cons x cs ih =>
            intro j s h
            cases j with
            | zero => simp [colsAt] at h; subst h; cases x <;> rfl
            | succ j => exact ih j s (by simpa [colsAt] using h)
        exact sv_agree (by rw [hz cs j s a2]; intro x hx; cases hx) a3
  · cases h

/-! ### append -/

def evApp0 (P : Program) (m0 : Nat) (mem : Mem) (t : TypeId) (s x : AV) : T (Nat × Nat × AV × Mem) :=
  match s with
  | .one (.so id sz len k) =>
    match mem[id]?, mem[k]? with
    | some (some (.grow n cs k' e)), some none =>
      if k' = k ∧ m0 ≤ id ∧ m0 ≤ k ∧ cs.length = sz ∧ 0 < sz then
        match P.underlying t, P.info? e, zeroCells P e with
        | some (.slice e'), some ie, some z =>
          if e' = e ∧ ie.size = sz ∧ z.length = sz ∧ ie.bytes ≤ 65536 then
            match appX mem sz len cs x with
            | some (m, q, es) => .need (decide (len ≤ n)) (.need q (.need (decide (len + m ≤ 1073741824))
                (.leaf (id, k, .one (.so id sz (len + m) k), (mem.map (dropB id k)).set id (some (.grow (len + m) es k e))))))
            | none => .fail
          else .fail
        | _, _, _ => .fail
      else .fail
    | _, _ => .fail
  | _ => .fail

/-- What an 'append' to a row that grows leaves. -/
theorem app_core {ρ : Rho} {w : World} {mem : Mem} {B0 : Nat → Prop} {m0 : Nat} (hm : MemOK ρ w mem) (ho : Own B0 m0 ρ w mem) (hB0 : ∀ k, B0 k → k < w.heap.size) {id k' n sz len m b cap : Nat} {cs es : List Col} {e1 : TypeId} {c1 cur' : Array Value} {news : List Value} {g cap' : Nat} {w' : World}
    (hmi : m0 ≤ id) (hmk : m0 ≤ k') (hid : mem[id]? = some (some (.grow n cs k' e1))) (hk : mem[k']? = some none) (hcs : cs.length = sz) (hpos : 0 < sz) (hln : len ≤ n) (hlc : len ≤ cap) (hnc : n ≤ cap)
    (hρ1 : ρ id = some (b, 0)) (hρ2 : ρ k' = some (cap, 0)) (hB1 : ¬ B0 b) (hheap1 : w.heap[b]? = some (.cells c1 e1 (0, 0))) (hsz3 : c1.size = cap * sz)
    (hcell : ∀ i, i < n → ∀ j, j < sz → ∃ v s, c1[0 + (i * sz + j)]? = some v ∧ (colsAt cs i)[j]? = some s ∧ s.rel ρ v)
    (hl : news.length = m * sz) (hnew : ∀ i, i < m → ∀ j, j < sz → ∃ u s, news[i * sz + j]? = some u ∧ (colsAt es (len + i))[j]? = some s ∧ s.rel ρ u) (hesl : es.length = cs.length) (hold : ∀ i, i < len → colsAt es i = colsAt cs i)
    (hg : g = b ∨ g = w.heap.size) (hheap' : w'.heap[g]? = some (.cells cur' e1 (0, 0))) (hcs' : cur'.size = cap' * sz) (hnm' : len + m ≤ cap') (hcm' : cap' ≤ maxLen) (htake : cur'.toList.take ((len + m) * sz) = c1.toList.take (len * sz) ++ news)
    (h_os : w'.os = w.os) (h_tape : w'.tape = w.tape) (h_out : w'.output = w.output) (h_size : w.heap.size ≤ w'.heap.size) (h_other : ∀ k, k < w.heap.size → k ≠ b → w'.heap[k]? = w.heap[k]?) :
    ∃ ρ', (∀ z, z ≠ id → z ≠ k' → ρ' z = ρ z) ∧ MemOK ρ' w' ((mem.map (dropB id k')).set id (some (.grow (len + m) es k' e1))) ∧ Own B0 m0 ρ' w' ((mem.map (dropB id k')).set id (some (.grow (len + m) es k' e1))) ∧ Bel B0 w w' ∧
      (AV.one (.so id sz (len + m) k')).rel ρ' (.slice (some ⟨g, 0, none⟩) (len + m) cap') := by
  have hne : id ≠ k' := fun e => by subst e; rw [hid] at hk; cases hk
  have hblt : b < w.heap.size := (Array.getElem?_eq_some_iff.1 hheap1).1
  have hgB : ¬ B0 g := by
    rcases hg with rfl | rfl
    · exact hB1
    · exact fun hk => Nat.lt_irrefl _ (hB0 _ hk)
  have hilt : id < mem.length := (List.getElem?_eq_some_iff.1 hid).1
  have hklt : k' < mem.length := (List.getElem?_eq_some_iff.1 hk).1
  let ρ' : Rho := fun z => if z = id then some (g, 0) else if z = k' then some (cap', 0) else ρ z
  have hri : ρ' id = some (g, 0) := if_pos rfl
  have hrk : ρ' k' = some (cap', 0) := by
    show (if _ then _ else _) = _
    rw [if_neg (fun e => hne e.symm), if_pos rfl]
  have hag : ∀ z, z ≠ id → z ≠ k' → ρ' z = ρ z := fun z h1 h2 => by
    show (if _ then _ else _) = _
    rw [if_neg h1, if_neg h2]
  -- what is left of the other blocks
  have hoth : ∀ j C, j ≠ id → ((mem.map (dropB id k')).set id (some (.grow (len + m) es k' e1)))[j]? = some (some C) → mem[j]? = some (some C) ∧ dropB id k' (some C) = some C ∧ j ≠ k' := by
    intro j C hj hC
    rw [List.getElem?_set_ne (fun e => hj e.symm), List.getElem?_map] at hC
    cases hmj : mem[j]? with
    | none => rw [hmj] at hC; cases hC
    | some y =>
      rw [hmj] at hC
      have hC : dropB id k' y = some C := Option.some.inj hC
      obtain ⟨rfl, _⟩ := dropB_ok hC
      exact ⟨rfl, hC, fun e => by subst e; rw [hk] at hmj; cases hmj⟩
  have hself : ∀ C, ((mem.map (dropB id k')).set id (some (.grow (len + m) es k' e1)))[id]? = some (some C) → C = .grow (len + m) es k' e1 := by
    intro C hC
    rw [List.getElem?_set_self (by simpa using hilt)] at hC
    cases hC; rfl
  have heap_oth : ∀ j C bj oj, j ≠ id → mem[j]? = some (some C) → ρ j = some (bj, oj) → bj < w.heap.size ∧ bj ≠ b ∧ w'.heap[bj]? = w.heap[bj]? := by
    intro j C bj oj hj hC hρ
    obtain ⟨b3, o3, h1, h2⟩ := hm.blk j C hC
    rw [hρ] at h1; cases h1
    have hne2 : b ≠ bj := ho.inj id j b 0 bj oj hmi (fun e => hj e.symm) ⟨_, hid⟩ ⟨C, hC⟩ hρ1 hρ
    exact ⟨h2.lt, fun e => hne2 e.symm, h_other bj h2.lt (fun e => hne2 e.symm)⟩
  refine ⟨ρ', hag, ⟨fun z hz => ?_, fun j C hC => ?_⟩, ⟨fun j C hj hC => ?_, fun i j bi oi bj oj hi hij hCi hCj h1 h2 => ?_⟩, ⟨h_os, h_tape, h_out, h_size, fun j hj => h_other j (hB0 j hj) (fun e => hB1 (e ▸ hj))⟩, ⟨g, cap', hri, hrk, hnm', rfl⟩⟩
  · have hz' : mem.length ≤ z := by simpa using hz
    rw [hag z (by omega) (by omega)]
    exact hm.dom z hz'
  · by_cases hj : j = id
    · subst hj
      have := hself C hC; subst this
      refine ⟨g, 0, hri, cur', e1, (0, 0), hheap', fun i hi jj hjj => ?_, ⟨rfl, rfl⟩, cap', hrk, ?_, hnm', hcm'⟩
      · have hi : i < len + m := hi
        have hjj : jj < sz := by
          have : jj < es.length := hjj
          omega
        have hszB : Blk.sz (.grow (len + m) es k' e1) = sz := by show es.length = sz; omega
        rw [hszB, Nat.zero_add]
        have hidx : cur'[i * sz + jj]? = (c1.toList.take (len * sz) ++ news)[i * sz + jj]? := by
          rw [← htake, List.getElem?_take, if_pos (row_index hi hjj)]; simp
        have htk : (c1.toList.take (len * sz)).length = len * sz := by
          rw [List.length_take, Array.length_toList, hsz3]
          exact Nat.min_eq_left (Nat.mul_le_mul_right _ (by omega))
        show ∃ v s, cur'[i * sz + jj]? = some v ∧ (colsAt es i)[jj]? = some s ∧ s.rel ρ' v
        have hz : ∀ (cs : List Col) (y : Nat) (j : Nat) (s : SV), (colsAt cs y)[j]? = some s → svNames s = [] := by
          intro cs y
          induction cs with
          | nil => intro j s h; simp [colsAt] at h
          | cons x cs ih =>
            intro j s h
            cases j with
            | zero => simp [colsAt] at h; subst h; cases x <;> rfl
            | succ j => exact ih j s (by simpa [colsAt] using h)
        by_cases hil : i < len
        · obtain ⟨v, s, a1, a2, a3⟩ := hcell i (by omega) jj hjj
          refine ⟨v, s, ?_, by rw [hold i hil]; exact a2, sv_agree (by rw [hz _ _ _ _ a2]; intro x hx; cases hx) a3⟩
          have hlt := row_index hil hjj
          rw [hidx, List.getElem?_append_left (by omega), List.getElem?_take, if_pos hlt]
          rw [Nat.zero_add] at a1
          simpa using a1
        · obtain ⟨u, s, a1, a2, a3⟩ := hnew (i - len) (by omega) jj hjj
          rw [show len + (i - len) = i by omega] at a2
          refine ⟨u, s, ?_, a2, sv_agree (by rw [hz _ _ _ _ a2]; intro x hx; cases hx) a3⟩
          have hge : len * sz ≤ i * sz := Nat.mul_le_mul_right _ (by omega)
          rw [hidx, List.getElem?_append_right (by omega), htk, ← a1]
          congr 1
          rw [Nat.sub_mul]; omega
      · show cur'.size = 0 + cap' * es.length
        rw [hcs', hesl, hcs, Nat.zero_add]
    · obtain ⟨q1, q2, q3⟩ := hoth j C hj hC
      obtain ⟨b3, o3, h1, h2⟩ := hm.blk j C q1
      obtain ⟨_, _, h5⟩ := heap_oth j C b3 o3 hj q1 h1
      exact ⟨b3, o3, (hag j hj q3).trans h1, (dropB_ok q2).2 ρ ρ' w w' b3 o3 hag h5 h2⟩
  · by_cases hji : j = id
    · subst hji
      exact ⟨g, hri, hgB, .mk0 hheap'⟩
    · obtain ⟨q1, q2, q3⟩ := hoth j C hji hC
      obtain ⟨b3, h1, h2, h3⟩ := ho.low j C hj q1
      obtain ⟨_, _, h5⟩ := heap_oth j C b3 0 hji q1 h1
      exact ⟨b3, (hag j hji q3).trans h1, h2, h3.of h5⟩
  · obtain ⟨Ci, hCi⟩ := hCi
    obtain ⟨Cj, hCj⟩ := hCj
    by_cases hii : i = id
    · subst hii
      rw [hri] at h1; cases h1
      obtain ⟨q1, q2, q3⟩ := hoth j Cj (fun e => hij e.symm) hCj
      rw [hag j (fun e => hij e.symm) q3] at h2
      obtain ⟨r1, r2, _⟩ := heap_oth j Cj bj oj (fun e => hij e.symm) q1 h2
      rcases hg with rfl | rfl
      · exact fun e => r2 e.symm
      · omega
    · obtain ⟨p1, p2, p3⟩ := hoth i Ci hii hCi
      rw [hag i hii p3] at h1
      by_cases hji : j = id
      · subst hji
        rw [hri] at h2; cases h2
        obtain ⟨r1, r2, _⟩ := heap_oth i Ci bi oi hii p1 h1
        rcases hg with rfl | rfl
        · exact r2
        · omega
      · obtain ⟨q1, q2, q3⟩ := hoth j Cj hji hCj
        rw [hag j hji q3] at h2
        exact ho.inj i j bi oi bj oj hi hij ⟨Ci, p1⟩ ⟨Cj, q1⟩ h1 h2


theorem evApp0_ok {P : Program} {ρ : Rho} {w : World} {mem : Mem} {B0 : Nat → Prop} {m0 : Nat} (hm : MemOK ρ w mem) (ho : Own B0 m0 ρ w mem) (hB0 : ∀ k, B0 k → k < w.heap.size) (t ty : TypeId) {s x : AV} {u v : Value} (hs : s.rel ρ u) (hx : x.rel ρ v) (next : Value → World → Prop)
    (h : (evApp0 P m0 mem t s x).holds fun r => ∀ ρ' w' y, (∀ z, z ≠ r.1 → z ≠ r.2.1 → ρ' z = ρ z) → m0 ≤ r.1 → m0 ≤ r.2.1 → MemOK ρ' w' r.2.2.2 → Own B0 m0 ρ' w' r.2.2.2 → Bel B0 w w' → r.2.2.2.length = mem.length → r.2.2.1.rel ρ' y → next y w') :
    ∃ y w', (Builtin.append_ #[t, t] ty #[u, v]).run P w = .ok y w' ∧ next y w' := by
  unfold evApp0 at h
  split at h <;> try exact h.elim
  rename_i id sz len k
  split at h <;> try exact h.elim
  rename_i n cs k' e hid hk
  split at h <;> try exact h.elim
  rename_i hc
  obtain ⟨rfl, hmi, hmk, hcs, hpos⟩ := hc
  split at h <;> try exact h.elim
  rename_i e' ie z hu hie hz
  split at h <;> try exact h.elim
  rename_i hc2
  obtain ⟨rfl, hsz, hzl, hby⟩ := hc2
  split at h <;> try exact h.elim
  rename_i m q es hX
  obtain ⟨hln, hq, hbig, h⟩ := h
  have hln : len ≤ n := of_decide_eq_true hln
  have hbig : len + m ≤ 1073741824 := of_decide_eq_true hbig
  obtain ⟨b, cap, hρ1, hρ2, hlc, rfl⟩ := hs
  obtain ⟨b1, hb1, hB1, _⟩ := ho.low id _ hmi hid
  rw [hρ1] at hb1; cases hb1
  obtain ⟨b2, o2, hb2, c1, e1, fz, hheap1, hcell, ⟨he2, hfz⟩, cap2, hk2, hsz2, hnc, hcm⟩ := hm.blk id _ hid
  rw [hρ1] at hb2; cases hb2
  rw [hρ2] at hk2; cases hk2
  subst hfz
  subst he2
  have hne : id ≠ k' := fun e => by subst e; rw [hid] at hk; cases hk
  have hcell : ∀ i, i < n → ∀ j, j < sz → ∃ v s, c1[0 + (i * sz + j)]? = some v ∧ (colsAt cs i)[j]? = some s ∧ s.rel ρ v := by
    intro i hi j hj
    have := hcell i hi j (by show j < cs.length; omega)
    have e3 : Blk.sz (.grow n cs k' e1) = sz := hcs
    rw [e3] at this
    exact this
  have hsz3 : c1.size = cap * sz := by rw [hsz2, Nat.zero_add, hcs]
  obtain ⟨ie', zv, hie', hzv, hzr⟩ := zero_of (ρ := ρ) hz
  rw [hie] at hie'; cases hie'
  have hzs : zv.cells.size = sz := by
    have := hzr.length
    simp at this; omega
  obtain ⟨⟨a, cc, rfl, ha, news, hl, hnews, hone, hnew⟩, hesl, hold⟩ := appX_ok hm hx hX hq hcs hpos
  have hmul : (len + m) * ie.bytes ≤ 1073741824 * 65536 := Nat.mul_le_mul hbig hby
  obtain ⟨g, cap', cur', w', hrun, hg, hheap', hcs', hnm', hcm', htake, h_os, h_tape, h_out, h_size, h_other⟩ := append_world (P := P) w t ty e1 ie zv sz hu hie hzv hsz hzs hpos b len cap c1 hheap1 hsz3 (by omega) hcm a m cc news ha hl hnews hone (by simp only [maxLen]; omega) (by omega)
  obtain ⟨ρ', q1, q2, q3, q4, q5⟩ := app_core hm ho hB0 hmi hmk hid hk hcs hpos hln (by omega) hnc hρ1 hρ2 hB1 hheap1 hsz3 hcell hl hnew hesl hold hg hheap' hcs' hnm' hcm' htake h_os h_tape h_out h_size h_other
  exact ⟨_, w', hrun, h ρ' w' _ q1 hmi hmk q2 q3 q4 (by simp) q5⟩

/-! ### A string's bytes appended -/

theorem append_worldS {P : Program} (w : World) (t u ty e : TypeId) (i : TypeInfo) (z : Value) (ht : P.underlying t = some (.slice e)) (hu : P.underlying u = some .string) (hi : P.info? e = some i) (hz : i.zero = some z)
    (hsize : i.size = 1) (hzs : z.cells.size = 1)
    (b n cap : Nat) (cur : Array Value) (hg : w.heap[b]? = some (.cells cur e (0, 0))) (hcs : cur.size = cap * 1) (hnc : n ≤ cap) (hcm : cap ≤ maxLen) (s : ByteArray)
    (h63 : n + s.size ≤ maxLen) (hbytes : (n + s.size) * i.bytes ≤ 140737488355328) :
    ∃ g cap' cur' w', (Builtin.append_ #[t, u] ty #[.slice (some ⟨b, 0, none⟩) n cap, .string s]).run P w = .ok (.slice (some ⟨g, 0, none⟩) (n + s.size) cap') w' ∧ (g = b ∨ g = w.heap.size) ∧
      w'.heap[g]? = some (.cells cur' e (0, 0)) ∧ cur'.size = cap' * 1 ∧ n + s.size ≤ cap' ∧ cap' ≤ maxLen ∧ cur'.toList.take ((n + s.size) * 1) = cur.toList.take (n * 1) ++ Lib.strCells s ∧
      w'.os = w.os ∧ w'.tape = w.tape ∧ w'.output = w.output ∧ w.heap.size ≤ w'.heap.size ∧ ∀ k, k < w.heap.size → k ≠ b → w'.heap[k]? = w.heap[k]? := by
  have hcs0 : cur.size = cap := by omega
  simp only [Nat.mul_one]
  have htk : (cur.toList.take n).length = n := by
    rw [List.length_take, Array.length_toList, hcs0]
    exact Nat.min_eq_left hnc
  have hlen : (cur.toList.take n ++ Lib.strCells s).length = n + s.size := by
    rw [List.length_append, htk, Lib.strCells_length]
  by_cases hroom : n + s.size ≤ cap
  · have hfit : n + s.size ≤ cur.size := by omega
    refine ⟨b, cap, _, _, Lib.run_append_room_string w t u ty e i ht hu hi hsize b n cap cur hg s hroom hfit, .inl rfl, setRow_heap w b cur _ e _ hg, ?_, hroom, hcm, ?_, rfl, rfl, rfl, by simp, fun k _ hk => setRow_other w b k _ hk⟩
    · simp only [List.size_toArray, List.length_append, List.length_take, List.length_drop, Array.length_toList, Lib.strCells_length]
      omega
    · show (cur.toList.take n ++ Lib.strCells s ++ cur.toList.drop (n + s.size)).take (n + s.size) = _
      rw [← hlen]; exact List.take_left
  · have holds : ∀ j v, (cur.toList.take n)[j]? = some v → w.cell? ((⟨b, 0, none⟩ : Addr).add j) = some v := by
      intro j v hu
      have hadd : (⟨b, 0, none⟩ : Addr).add j = ⟨b, j, none⟩ := by rw [Addr.add_lit, Nat.zero_add]
      rw [hadd, cell_of_row w b j cur e (0, 0) hg]
      rw [List.getElem?_take] at hu
      split at hu
      · simpa using hu
      · cases hu
    have hr := Lib.run_append_grow_string (P := P) w t u ty e i z ht hu hi hz ⟨b, 0, none⟩ n cap (cur.toList.take n) (by rw [hsize, Nat.mul_one]; exact htk) holds s (by omega) (by simp only [maxLen] at h63; omega) (growslice_fits (by omega) hbytes)
    have hge := grownCap_ge w (n + s.size) cap e
    refine ⟨w.heap.size, _, _, _, hr, .inr rfl, heap_alloc_new w.drew _, ?_, hge, grownCap_le_maxLen w (n + s.size) cap e h63, ?_, rfl, rfl, rfl, by simp, fun k hk _ => heap_alloc_old w.drew _ hk⟩
    · simp only [Array.size_append, List.size_toArray, size_zeroCells, hzs, htk, Lib.strCells_length]
      omega
    · simp only [Array.toList_append, List.append_assoc]
      rw [← List.append_assoc, ← hlen]
      exact List.take_left

theorem strCells_at (s : ByteArray) (i : Nat) (hi : i < s.size) : (Lib.strCells s)[i]? = some (.int .u8 (byteAt s i)) := by
  have hg : s[i]? = some s[i] := by simp [hi]
  have hi' : i < s.data.size := hi
  simp only [byteAt, hg, Lib.strCells, List.getElem?_map]
  have : s.data.toList[i]? = some s.data[i] := by simp [hi']
  rw [this]; rfl

/-- The bytes of a string appended to a row of one's own that grows. -/
def evAppS (P : Program) (m0 : Nat) (mem : Mem) (t u : TypeId) (s x : AV) : T (Nat × Nat × AV × Mem) :=
  match s, x with
  | .one (.so id sz len k), .one (.str x) =>
    match mem[id]?, mem[k]? with
    | some (some (.grow n cs k' e)), some none =>
      if k' = k ∧ m0 ≤ id ∧ m0 ≤ k ∧ cs.length = 1 ∧ sz = 1 then
        match P.underlying t, P.underlying u, P.info? e, zeroCells P e with
        | some (.slice e'), some .string, some ie, some z =>
          if e' = e ∧ ie.size = 1 ∧ z.length = 1 ∧ ie.bytes ≤ 65536 then
            match catCols len 0 cs [.num .u8 fun q => byteAt x q] with
            | some es => .need (decide (len ≤ n)) (.need (decide (len + x.size ≤ 1073741824))
                (.leaf (id, k, .one (.so id sz (len + x.size) k), (mem.map (dropB id k)).set id (some (.grow (len + x.size) es k e)))))
            | none => .fail
          else .fail
        | _, _, _, _ => .fail
      else .fail
    | _, _ => .fail
  | _, _ => .fail

theorem evAppS_ok {P : Program} {ρ : Rho} {w : World} {mem : Mem} {B0 : Nat → Prop} {m0 : Nat} (hm : MemOK ρ w mem) (ho : Own B0 m0 ρ w mem) (hB0 : ∀ k, B0 k → k < w.heap.size) (t u ty : TypeId) {s x : AV} {us v : Value} (hs : s.rel ρ us) (hx : x.rel ρ v) (next : Value → World → Prop)
    (h : (evAppS P m0 mem t u s x).holds fun r => ∀ ρ' w' y, (∀ z, z ≠ r.1 → z ≠ r.2.1 → ρ' z = ρ z) → m0 ≤ r.1 → m0 ≤ r.2.1 → MemOK ρ' w' r.2.2.2 → Own B0 m0 ρ' w' r.2.2.2 → Bel B0 w w' → r.2.2.2.length = mem.length → r.2.2.1.rel ρ' y → next y w') :
    ∃ y w', (Builtin.append_ #[t, u] ty #[us, v]).run P w = .ok y w' ∧ next y w' := by
  unfold evAppS at h
  split at h <;> try exact h.elim
  rename_i id sz len k x
  split at h <;> try exact h.elim
  rename_i n cs k' e hid hk
  split at h <;> try exact h.elim
  rename_i hc
  obtain ⟨rfl, hmi, hmk, hcs, rfl⟩ := hc
  split at h <;> try exact h.elim
  rename_i e' ie z hu huu hie hz
  split at h <;> try exact h.elim
  rename_i hc2
  obtain ⟨rfl, hsz, hzl, hby⟩ := hc2
  split at h <;> try exact h.elim
  rename_i es hes
  obtain ⟨hln, hbig, h⟩ := h
  have hln : len ≤ n := of_decide_eq_true hln
  have hbig : len + x.size ≤ 1073741824 := of_decide_eq_true hbig
  obtain ⟨b, cap, hρ1, hρ2, hlc, rfl⟩ := hs
  have hx : v = .string x := hx
  subst hx
  obtain ⟨b1, hb1, hB1, _⟩ := ho.low id _ hmi hid
  rw [hρ1] at hb1; cases hb1
  obtain ⟨b2, o2, hb2, c1, e1, fz, hheap1, hcell, ⟨he2, hfz⟩, cap2, hk2, hsz2, hnc, hcm⟩ := hm.blk id _ hid
  rw [hρ1] at hb2; cases hb2
  rw [hρ2] at hk2; cases hk2
  subst hfz
  subst he2
  have hcell : ∀ i, i < n → ∀ j, j < 1 → ∃ v s, c1[0 + (i * 1 + j)]? = some v ∧ (colsAt cs i)[j]? = some s ∧ s.rel ρ v := by
    intro i hi j hj
    have := hcell i hi j (by show j < cs.length; omega)
    have e3 : Blk.sz (.grow n cs k' e1) = 1 := hcs
    rw [e3] at this
    exact this
  have hsz3 : c1.size = cap * 1 := by rw [hsz2, Nat.zero_add, hcs]
  obtain ⟨ie', zv, hie', hzv, hzr⟩ := zero_of (ρ := ρ) hz
  rw [hie] at hie'; cases hie'
  have hzs : zv.cells.size = 1 := by
    have := hzr.length
    simp at this; omega
  obtain ⟨k1, k2, k3⟩ := catCols_at hes
  have hmul : (len + x.size) * ie.bytes ≤ 1073741824 * 65536 := Nat.mul_le_mul hbig hby
  obtain ⟨g, cap', cur', w', hrun, hg, hheap', hcs', hnm', hcm', htake, h_os, h_tape, h_out, h_size, h_other⟩ := append_worldS (P := P) w t u ty e1 ie zv hu huu hie hzv hsz hzs b len cap c1 hheap1 hsz3 (by omega) hcm x (by simp only [maxLen]; omega) (by omega)
  obtain ⟨ρ', q1, q2, q3, q4, q5⟩ := app_core hm ho hB0 hmi hmk hid hk hcs Nat.one_pos hln (by omega) hnc hρ1 hρ2 hB1 hheap1 hsz3 hcell (m := x.size) (news := Lib.strCells x) (by rw [Lib.strCells_length, Nat.mul_one])
    (fun i hi j hj => by
      have hj0 : j = 0 := by omega
      subst hj0
      refine ⟨_, .num .u8 (byteAt x i), by rw [Nat.mul_one, Nat.add_zero]; exact strCells_at x i hi, ?_, rfl⟩
      rw [k3, if_neg (by omega)]
      simp [colsAt, Col.at]) k1 (fun i hi => by rw [k3 i, if_pos hi]) hg hheap' hcs' hnm' hcm' htake h_os h_tape h_out h_size h_other
  exact ⟨_, w', hrun, h ρ' w' _ q1 hmi hmk q2 q3 q4 (by simp) q5⟩

/-- Nothing appended to nothing. -/
def evAppN (P : Program) (m0 : Nat) (mem : Mem) (t : TypeId) (x : AV) : T (Nat × Nat × AV × Mem) :=
  match x with
  | .one (.su id sz i m kn) => match P.underlying t with
    | some (.slice e) => match P.info? e with
      | some _ => if m0 ≤ mem.length then .need (decide (m = 0)) (.leaf (mem.length, mem.length + 1, .one (.val (.slice none 0 0)), mem)) else .fail
      | none => .fail
    | _ => .fail
  | _ => .fail
def evApp (P : Program) (m0 : Nat) (mem : Mem) (t : TypeId) (s x : AV) : T (Nat × Nat × AV × Mem) :=
  match s with
  | .one (.val (.slice none 0 0)) => evAppN P m0 mem t x
  | s => evApp0 P m0 mem t s x
theorem evApp_ok {P : Program} {ρ : Rho} {w : World} {mem : Mem} {B0 : Nat → Prop} {m0 : Nat} (hm : MemOK ρ w mem) (ho : Own B0 m0 ρ w mem) (hB0 : ∀ k, B0 k → k < w.heap.size) (t ty : TypeId) {s x : AV} {u v : Value} (hs : s.rel ρ u) (hx : x.rel ρ v) (next : Value → World → Prop)
    (h : (evApp P m0 mem t s x).holds fun r => ∀ ρ' w' y, (∀ z, z ≠ r.1 → z ≠ r.2.1 → ρ' z = ρ z) → m0 ≤ r.1 → m0 ≤ r.2.1 → MemOK ρ' w' r.2.2.2 → Own B0 m0 ρ' w' r.2.2.2 → Bel B0 w w' → r.2.2.2.length = mem.length → r.2.2.1.rel ρ' y → next y w') :
    ∃ y w', (Builtin.append_ #[t, t] ty #[u, v]).run P w = .ok y w' ∧ next y w' := by
  unfold evApp at h
  split at h
  · unfold evAppN at h
    split at h <;> try exact h.elim
    rename_i id sz i m kn
    split at h <;> try exact h.elim
    rename_i e hu
    split at h <;> try exact h.elim
    rename_i ti hi
    split at h <;> try exact h.elim
    rename_i hm0
    obtain ⟨h0, h⟩ := h
    have h0 : m = 0 := of_decide_eq_true h0
    subst h0
    obtain ⟨rfl, _⟩ := hs
    obtain ⟨a, cap, rfl, _, _⟩ := hx
    refine ⟨.slice none 0 0, w, ?_, h ρ w (.slice none 0 0) (fun _ _ _ => rfl) hm0 (Nat.le_succ_of_le hm0) hm ho (Bel.refl _ _) rfl ⟨rfl, rfl⟩⟩
    cases a with
    | none => simp [Builtin.append_, run_underlying hu, sizeOf, typeInfo, hi, Builtin.lenOf, Builtin.firstCells, storeCells]
    | some a => simp [Builtin.append_, run_underlying hu, sizeOf, typeInfo, hi, Builtin.lenOf, Builtin.firstCells, storeCells, loadCells, loadCellsFrom]
  · exact evApp0_ok hm ho hB0 t ty hs hx next h

/-! ### A row without elements, that will grow -/

def evEmpty (P : Program) (N : Nat) (t : TypeId) : Option (AV × Mem) :=
  match P.underlying t with
  | some (.slice e) => match P.info? e, zeroCells P e with
    | some ie, some z => if ie.size = z.length ∧ 0 < z.length then (match zeroCols z with
      | some cs => some (.one (.so N ie.size 0 (N + 1)), [some (.grow 0 cs (N + 1) e), none])
      | none => none) else none
    | _, _ => none
  | _ => none

theorem evEmpty_ok {P : Program} {ρ : Rho} {w : World} {mem : Mem} (hm : MemOK ρ w mem) (t : TypeId) {r : AV × Mem} (h : evEmpty P mem.length t = some r) :
    ∃ ρ' w' v, (Instr.buildSlice t 0 #[]).run P w = .ok v w' ∧ New ρ ρ' w w' mem.length r.2 ∧ r.1.rel ρ' v := by
  unfold evEmpty at h
  split at h <;> try (cases h; done)
  rename_i e hu
  split at h <;> try (cases h; done)
  rename_i ie z hie hz
  split at h <;> try (cases h; done)
  rename_i hc
  split at h <;> try (cases h; done)
  rename_i cs hcs
  cases h
  let ρ' : Rho := fun x => if x = mem.length then some (w.heap.size, 0) else if x = mem.length + 1 then some (0, 0) else ρ x
  have hr0 : ρ' mem.length = some (w.heap.size, 0) := if_pos rfl
  have hr1 : ρ' (mem.length + 1) = some (0, 0) := by
    show (if _ then _ else _) = _
    rw [if_neg (by omega), if_pos rfl]
  refine ⟨ρ', w.alloc (.cells #[] e), .slice (some ⟨w.heap.size, 0, none⟩) 0 0, ?_, ⟨fun id h => ?_, fun id h => ?_, (Below.refl _ _).alloc (Nat.le_refl _) _, fun i C h => ?_, fun i j b o b' o' hij hi hj => ?_⟩, ⟨_, _, hr0, hr1, Nat.le_refl _, rfl⟩⟩
  · have hz2 : (Array.map (fun (_ : Nat) => (default : Value)) (Array.range 0)) = #[] := by simp
    simp [Instr.buildSlice, run_underlying hu, run_sizeOf' hie, Instr.fill, newRow, hz2]
  · show (if _ then _ else _) = _
    rw [if_neg (by omega), if_neg (by omega)]
  · have h : mem.length + 2 ≤ id := h
    show (if _ then _ else _) = _
    rw [if_neg (by omega), if_neg (by omega)]; exact hm.dom id (by omega)
  · match i, h with
    | 0, h =>
      simp at h; subst h
      refine ⟨w.heap.size, hr0, Nat.le_refl _, ⟨#[], e, (0, 0), heap_alloc_new w _, fun i hi => ?_, ⟨rfl, rfl⟩, 0, hr1, by simp, Nat.le_refl _, Nat.zero_le _⟩, .mk0 (heap_alloc_new w _)⟩
      have : i < 0 := hi
      omega
    | 1, h => simp at h
    | n + 2, h => simp at h
  · obtain ⟨B1, h1⟩ := hi
    obtain ⟨B2, h2⟩ := hj
    match i, j, h1, h2 with
    | 0, 0, _, _ => omega
    | 1, _, h1, _ => simp at h1
    | n + 2, _, h1, _ => simp at h1
    | _, 1, _, h2 => simp at h2
    | _, n + 2, _, h2 => simp at h2

end Go.Proofs.Ytdmcpgbnomhahaa
