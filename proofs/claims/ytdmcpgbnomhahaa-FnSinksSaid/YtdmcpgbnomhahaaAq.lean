/-
  What is appended to a row; a fresh row by append. No conditions.
-/
import Derived.Test.YtdmcpgbnomhahaaOx
import Derived.Laws.AppendOwn
import Derived.Lib.AppendZeros
namespace Go.Proofs.Ytdmcpgbnomhahaa
set_option linter.unusedVariables false
set_option linter.unusedSimpArgs false
open Go.RowKit

def byteNum : List SV → Option Int
  | [.num .u8 x] => some x
  | [.int .u8 x] => some x
  | _ => none
theorem byteNum_rel {l : List SV} {x : Int} (h : byteNum l = some x) {ρ : Rho} {s : SV} {v : Value} (hs : l[0]? = some s) (hv : s.rel ρ v) : l.length = 1 ∧ v = .int .u8 x := by
  unfold byteNum at h
  split at h <;> cases h
  · simp at hs; subst hs; exact ⟨rfl, hv⟩
  · simp at hs; subst hs; exact ⟨rfl, hv⟩
def rowNums (g : Nat → List SV) : Nat → Nat → Option (List Int)
  | _, 0 => some []
  | i, m + 1 => match byteNum (g i), rowNums g (i + 1) m with
    | some x, some l => some (x :: l)
    | _, _ => none
theorem rowNums_at {g : Nat → List SV} : ∀ {m i : Nat} {l : List Int}, rowNums g i m = some l → l.length = m ∧ ∀ q, q < m → byteNum (g (i + q)) = some (l.getD q 0)
  | 0, i, l, h => by cases h; exact ⟨rfl, fun q hq => absurd hq (Nat.not_lt_zero q)⟩
  | m + 1, i, l, h => by
    unfold rowNums at h
    split at h
    · rename_i x l' h1 h2
      cases h
      obtain ⟨k1, k2⟩ := rowNums_at h2
      refine ⟨by simp [k1], fun q hq => ?_⟩
      cases q with
      | zero => simpa using h1
      | succ q =>
        have := k2 q (by omega)
        rw [show i + (q + 1) = i + 1 + q by omega, this]
        simp
    · cases h

/-! ### What is appended -/

def catCol (len i0 : Nat) : Col → Col → Option Col
  | .fl k f, .fl k' g => if k = k' then some (.fl k fun j => if j < len then f j else g (i0 + (j - len))) else none
  | .num k f, .num k' g => if k = k' then some (.num k fun j => if j < len then f j else g (i0 + (j - len))) else none
  | .bo f, .bo g => some (.bo fun j => if j < len then f j else g (i0 + (j - len)))
  | .str f, .str g => some (.str fun j => if j < len then f j else g (i0 + (j - len)))
  | _, _ => none

theorem catCol_at {len i0 : Nat} {c d e : Col} (h : catCol len i0 c d = some e) (j : Nat) : e.at j = if j < len then c.at j else d.at (i0 + (j - len)) := by
  unfold catCol at h
  split at h
  · split at h
    · rename_i hk; subst hk; cases h
      simp only [Col.at]; split <;> rfl
    · cases h
  · split at h
    · rename_i hk; subst hk; cases h
      simp only [Col.at]; split <;> rfl
    · cases h
  · cases h; simp only [Col.at]; split <;> rfl
  · cases h; simp only [Col.at]; split <;> rfl
  · cases h

def catCols (len i0 : Nat) : List Col → List Col → Option (List Col)
  | [], [] => some []
  | c :: cs, d :: ds => match catCol len i0 c d, catCols len i0 cs ds with
    | some e, some es => some (e :: es)
    | _, _ => none
  | _, _ => none

theorem catCols_at {len i0 : Nat} : ∀ {cs ds es : List Col}, catCols len i0 cs ds = some es → es.length = cs.length ∧ ds.length = cs.length ∧ ∀ j, colsAt es j = if j < len then colsAt cs j else colsAt ds (i0 + (j - len))
  | [], [], es, h => by cases h; exact ⟨rfl, rfl, fun j => by simp [colsAt]⟩
  | c :: cs, d :: ds, es, h => by
    unfold catCols at h
    split at h
    · rename_i e es' h1 h2
      cases h
      obtain ⟨k1, k2, k3⟩ := catCols_at h2
      refine ⟨by simp [k1], by simp [k2], fun j => ?_⟩
      simp only [colsAt, catCol_at h1, k3]
      split <;> rfl
    · cases h
  | [], _ :: _, es, h => by simp [catCols] at h
  | _ :: _, [], es, h => by simp [catCols] at h

theorem news_of {ρ : Rho} {w : World} {b o : Nat} {B : Blk} (hb : BlkAt ρ w b o B) (i0 m : Nat) (h : i0 + m ≤ B.n) (hpos : 0 < B.sz) :
    ∃ news : List Value, news.length = m * B.sz ∧ (∀ j u, news[j]? = some u → w.cell? ((⟨b, o + i0 * B.sz, none⟩ : Addr).add j) = some u) ∧ (∀ u ∈ news, u.oneCell' = true) ∧
      ∀ i, i < m → ∀ j, j < B.sz → ∃ u s, news[i * B.sz + j]? = some u ∧ (B.get (i0 + i))[j]? = some s ∧ s.rel ρ u := by
  obtain ⟨c, e, fz, hheap, hcell, _⟩ := hb
  have hex : ∀ i, i < m → ∀ j, j < B.sz → ∃ u s, c[o + i0 * B.sz + (i * B.sz + j)]? = some u ∧ (B.get (i0 + i))[j]? = some s ∧ s.rel ρ u := by
    intro i hi j hj
    obtain ⟨v, s, h1, h2, h3⟩ := hcell (i0 + i) (by omega) j hj
    refine ⟨v, s, ?_, h2, h3⟩
    rw [← h1]; congr 1; rw [Nat.add_mul]; omega
  have hq : ∀ q, q < m * B.sz → ∃ u, c[o + i0 * B.sz + q]? = some u ∧ u.oneCell' = true := by
    intro q hq
    have h1 : q / B.sz < m := (Nat.div_lt_iff_lt_mul hpos).2 hq
    obtain ⟨u, s, a1, _, a3⟩ := hex (q / B.sz) h1 (q % B.sz) (Nat.mod_lt _ hpos)
    refine ⟨u, ?_, SV.rel_one a3⟩
    rw [← a1]; congr 2
    rw [Nat.mul_comm]; exact (Nat.div_add_mod q B.sz).symm
  have hget : ∀ q u, ((List.range (m * B.sz)).map fun q => (c[o + i0 * B.sz + q]?).getD undef)[q]? = some u → q < m * B.sz ∧ c[o + i0 * B.sz + q]? = some u := by
    intro q u h1
    have hlt : q < m * B.sz := by
      have := (List.getElem?_eq_some_iff.1 h1).1
      simpa using this
    obtain ⟨u', h2, _⟩ := hq q hlt
    simp [hlt, h2] at h1
    exact ⟨hlt, by rw [h2, h1]⟩
  refine ⟨(List.range (m * B.sz)).map fun q => (c[o + i0 * B.sz + q]?).getD undef, by simp, fun j u hu => ?_, fun u hu => ?_, fun i hi j hj => ?_⟩
  · obtain ⟨_, h2⟩ := hget j u hu
    rw [Addr.add_lit, cell_of_row w b _ c e fz hheap]
    exact h2
  · obtain ⟨q, hq1, hq2⟩ := List.mem_iff_getElem?.1 hu |>.imp fun q h => (⟨(hget q u h).1, (hget q u h).2⟩ : _ ∧ _)
    obtain ⟨u', h1, h2⟩ := hq q hq1
    rw [hq2] at h1; cases h1; exact h2
  · obtain ⟨u, s, a1, a2, a3⟩ := hex i hi j hj
    refine ⟨u, s, ?_, a2, a3⟩
    have hlt := row_index hi hj
    simp [hlt, a1]

/-- Cells of a literal, one each, as a column. -/
def flOf : List SV → Option Nat
  | [.fl .f32 x] => some x
  | _ => none
def rowFls (g : Nat → List SV) : Nat → Nat → Option (List Nat)
  | _, 0 => some []
  | i, m + 1 => match flOf (g i), rowFls g (i + 1) m with
    | some x, some l => some (x :: l)
    | _, _ => none
theorem rowFls_at {g : Nat → List SV} : ∀ {m i : Nat} {l : List Nat}, rowFls g i m = some l → l.length = m ∧ ∀ q, q < m → flOf (g (i + q)) = some (l.getD q 0)
  | 0, i, l, h => by cases h; exact ⟨rfl, fun q hq => absurd hq (Nat.not_lt_zero q)⟩
  | m + 1, i, l, h => by
    unfold rowFls at h
    split at h
    · rename_i x l' h1 h2
      cases h
      obtain ⟨k1, k2⟩ := rowFls_at h2
      refine ⟨by simp [k1], fun q hq => ?_⟩
      cases q with
      | zero => simpa using h1
      | succ q =>
        have := k2 q (by omega)
        rw [show i + (q + 1) = i + 1 + q by omega, this]
        simp
    · cases h

def litCol (g : Nat → List SV) (i0 m : Nat) : Option Col :=
  match rowNums g i0 m with
  | some l => some (.num .u8 fun q => l.getD q 0)
  | none => match rowFls g i0 m with
    | some l => some (.fl .f32 fun q => l.getD q 0)
    | none => none

theorem litCol_at {g : Nat → List SV} {i0 m : Nat} {d : Col} (h : litCol g i0 m = some d) (q : Nat) (hq : q < m) (s : SV) (hs : (g (i0 + q))[0]? = some s) : (g (i0 + q)).length = 1 ∧ ∀ ρ v, s.rel ρ v → (d.at q).rel ρ v := by
  unfold litCol at h
  split at h
  · rename_i l hl
    cases h
    have h1 := (rowNums_at hl).2 q hq
    refine ⟨?_, fun ρ v hv => (byteNum_rel h1 hs hv).2⟩
    unfold byteNum at h1
    split at h1
    · rename_i e; rw [e]; rfl
    · rename_i e; rw [e]; rfl
    · cases h1
  · split at h
    · rename_i l hl
      cases h
      have h1 := (rowFls_at hl).2 q hq
      unfold flOf at h1
      split at h1
      · rename_i x e
        rw [e] at hs
        simp at hs
        subst hs
        have h1 : x = l.getD q 0 := by simpa using h1
        refine ⟨by rw [e]; rfl, fun ρ v hv => ?_⟩
        show (SV.fl .f32 (l.getD q 0)).rel ρ v
        rw [← h1]; exact hv
      · cases h1
    · cases h

def appB (sz len : Nat) (cs : List Col) (B : Blk) (i0 m : Nat) : Option (Nat × Bool × List Col) :=
  match B with
  | .cols n2 ds => match catCols len i0 cs ds with
    | some es => some (m, decide (i0 + m ≤ n2), es)
    | none => none
  | .row n2 sz2 g => if sz2 = sz ∧ (g i0).length = sz then (match Nat.beq m 1 with
    | true => match setCols len cs 0 (g i0) with
      | some es => some (1, decide (i0 < n2), es)
      | none => none
    | false => if sz2 = 1 then (match litCol g i0 m with
      | some d => match catCols len 0 cs [d] with
        | some es => some (m, decide (i0 + m ≤ n2), es)
        | none => none
      | none => none) else none) else none
  | _ => none

def appX (mem : Mem) (sz len : Nat) (cs : List Col) (x : AV) : Option (Nat × Bool × List Col) :=
  match x with
  | .one (.sl id2 sz2 i0 m _ _) => if sz2 = sz then (match mem[id2]? with
    | some (some B) => appB sz len cs B i0 m
    | _ => none) else none
  | .one (.su id2 sz2 i0 m _) => if sz2 = sz then (match mem[id2]? with
    | some (some B) => appB sz len cs B i0 m
    | _ => none) else none
  | _ => none

/-- What an appended value is. -/
structure News (ρ : Rho) (w : World) (sz len m : Nat) (cs es : List Col) (v : Value) : Prop where
  here : ∃ a c, v = .slice a m c ∧ (m = 0 ∨ ∃ a', a = some a') ∧ ∃ news : List Value, news.length = m * sz ∧ (∀ a', a = some a' → ∀ j u, news[j]? = some u → w.cell? (a'.add j) = some u) ∧ (∀ u ∈ news, u.oneCell' = true) ∧
    (∀ i, i < m → ∀ j, j < sz → ∃ u s, news[i * sz + j]? = some u ∧ (colsAt es (len + i))[j]? = some s ∧ s.rel ρ u)
  eslen : es.length = cs.length
  old : ∀ i, i < len → colsAt es i = colsAt cs i

theorem appB_ok {ρ : Rho} {w : World} {sz len : Nat} {cs : List Col} {B : Blk} {i0 m m' : Nat} {q : Bool} {es : List Col} {b o : Nat} {a : Option Addr} {c : Nat} (h : appB sz len cs B i0 m = some (m', q, es)) (hq : q = true) (hcs : cs.length = sz) (hpos : 0 < sz)
    (hb : BlkAt ρ w b o B) (ha : 0 < m → a = some ⟨b, o + i0 * sz, none⟩) : News ρ w sz len m' cs es (.slice a m c) ∧ m' = m := by
  unfold appB at h
  split at h
  · rename_i n2 ds
    split at h
    · rename_i es' hes
      cases h
      obtain ⟨k1, k2, k3⟩ := catCols_at hes
      have hle : i0 + m ≤ n2 := of_decide_eq_true hq
      have hsz : Blk.sz (.cols n2 ds) = sz := k2.trans hcs
      obtain ⟨news, n1, n2', n3, n4⟩ := news_of hb i0 m hle (by rw [hsz]; exact hpos)
      rw [hsz] at n1 n2' n4
      refine ⟨⟨⟨a, c, rfl, ?_, news, n1, fun a' ha' j u hu => ?_, n3, fun i hi j hj => ?_⟩, k1, fun i hi => by rw [k3 i, if_pos hi]⟩, rfl⟩
      · rcases Nat.eq_zero_or_pos m with h0 | h0
        · exact .inl h0
        · exact .inr ⟨_, ha h0⟩
      · rcases Nat.eq_zero_or_pos m with h0 | h0
        · subst h0
          have : news = [] := List.eq_nil_of_length_eq_zero (by simpa using n1)
          subst this; simp at hu
        · rw [ha h0] at ha'; cases ha'; exact n2' j u hu
      · obtain ⟨u, s, c1, c2, c3⟩ := n4 i hi j hj
        refine ⟨u, s, c1, ?_, c3⟩
        rw [k3, if_neg (by omega), show i0 + (len + i - len) = i0 + i by omega]
        exact c2
    · cases h
  · rename_i n2 sz2 g
    split at h
    · rename_i hg
      split at h
      · rename_i hm1
        split at h
        · rename_i es' hes
          cases h
          obtain rfl : m = 1 := Nat.eq_of_beq_eq_true hm1
          obtain ⟨rfl, hgl⟩ := hg
          have hlt : i0 < n2 := of_decide_eq_true hq
          obtain ⟨news, n1, n2', n3, n4⟩ := news_of hb i0 1 hlt hpos
          have hsz : Blk.sz (.row n2 sz2 g) = sz2 := rfl
          rw [hsz] at n1 n2' n4
          have ha := ha Nat.one_pos
          have hat := setCols_at hes
          refine ⟨⟨⟨a, c, rfl, .inr ⟨_, ha⟩, news, n1, fun a' ha' j u hu => ?_, n3, fun i hi j hj => ?_⟩, setCols_length hes, fun i hi => ?_⟩, rfl⟩
          · rw [ha] at ha'; cases ha'; exact n2' j u hu
          · obtain ⟨u, s, c1, c2, c3⟩ := n4 i hi j hj
            refine ⟨u, s, c1, ?_, c3⟩
            have hi0 : i = 0 := by omega
            subst hi0
            have hfit : 0 + (g i0).length ≤ (colsAt cs len).length := by rw [colsAt_length, hgl, hcs]; omega
            rw [Nat.add_zero, hat, if_pos rfl, setR_get _ _ _ hfit, if_neg (by omega), if_pos (by omega)]
            exact c2
          · rw [hat, if_neg (by omega)]
        · cases h
      · split at h
        · rename_i hs1
          split at h
          · rename_i d hd
            split at h
            · rename_i es' hes
              cases h
              obtain ⟨rfl, _⟩ := hg
              subst hs1
              obtain ⟨k1, k2, k3⟩ := catCols_at hes
              have hle : i0 + m ≤ n2 := of_decide_eq_true hq
              obtain ⟨news, n1, n2', n3, n4⟩ := news_of hb i0 m hle hpos
              have hsz : Blk.sz (.row n2 1 g) = 1 := rfl
              rw [hsz] at n1 n2' n4
              refine ⟨⟨⟨a, c, rfl, ?_, news, n1, fun a' ha' j u hu => ?_, n3, fun i hi j hj => ?_⟩, k1, fun i hi => by rw [k3 i, if_pos hi]⟩, rfl⟩
              · rcases Nat.eq_zero_or_pos m with h0 | h0
                · exact .inl h0
                · exact .inr ⟨_, ha h0⟩
              · rcases Nat.eq_zero_or_pos m with h0 | h0
                · subst h0
                  have : news = [] := List.eq_nil_of_length_eq_zero (by simpa using n1)
                  subst this; simp at hu
                · rw [ha h0] at ha'; cases ha'; exact n2' j u hu
              · have hj0 : j = 0 := by omega
                subst hj0
                obtain ⟨u, s, c1, c2, c3⟩ := n4 i hi 0 Nat.one_pos
                obtain ⟨_, c5⟩ := litCol_at hd i hi s c2
                refine ⟨u, d.at i, c1, ?_, c5 ρ u c3⟩
                rw [k3, if_neg (by omega), show 0 + (len + i - len) = i by omega]
                rfl
            · cases h
          · cases h
        · cases h
    · cases h
  · cases h

theorem appX_ok {ρ : Rho} {w : World} {mem : Mem} (hm : MemOK ρ w mem) {sz len : Nat} {cs : List Col} {x : AV} {v : Value} (hx : x.rel ρ v) {m : Nat} {q : Bool} {es : List Col} (h : appX mem sz len cs x = some (m, q, es)) (hq : q = true) (hcs : cs.length = sz) (hpos : 0 < sz) :
    News ρ w sz len m cs es v := by
  unfold appX at h
  split at h
  · split at h
    · rename_i id2 sz2 i0 m2 cap kn hsz
      subst hsz
      split at h
      · rename_i B hB
        obtain ⟨b, o, h1, rfl⟩ := hx
        obtain ⟨b', o', h2, h3⟩ := hm.blk id2 B hB
        rw [h1] at h2; cases h2
        obtain ⟨k1, k2⟩ := appB_ok (a := some ⟨b, o + i0 * sz2, none⟩) (c := cap) h hq hcs hpos h3 (fun _ => rfl)
        rw [k2] at k1 ⊢; exact k1
      · cases h
    · cases h
  · split at h
    · rename_i id2 sz2 i0 m2 kn hsz
      subst hsz
      split at h
      · rename_i B hB
        obtain ⟨a, cap, rfl, hlc, ha⟩ := hx
        obtain ⟨b', o', h2, h3⟩ := hm.blk id2 B hB
        obtain ⟨k1, k2⟩ := appB_ok (a := a) (c := cap) h hq hcs hpos h3 (fun h0 => by obtain ⟨b, o, k1, k2⟩ := ha h0; rw [h2] at k1; cases k1; exact k2)
        rw [k2] at k1 ⊢; exact k1
      · cases h
    · cases h
  · cases h

/-! ### A row of known cells, which has no room, to which is appended: a fresh row -/

theorem evAppG_new {ρ : Rho} {w w' : World} {mem : Mem} (hm : MemOK ρ w mem) {e : TypeId} {k : Nat} {es : List Col} {cur : Array Value} {G : Nat}
    (hheap : w'.heap[w.heap.size]? = some (.cells cur e (0, 0))) (hb : Below w.heap.size w w') (hes : es.length = 1) (hG : cur.size = G) (hk : k ≤ G) (hGm : G ≤ maxLen)
    (hcell : ∀ i, i < k → ∃ v s, cur[i]? = some v ∧ (colsAt es i)[0]? = some s ∧ ∀ ρ', ρ.le ρ' → s.rel ρ' v) (gr : Bool) :
    ∃ ρ', New ρ ρ' w w' mem.length (match gr with | true => [some (.grow k es (mem.length + 1) e), none] | false => [some (.cols k es)]) ∧
      (match gr with | true => AV.one (.so mem.length 1 k (mem.length + 1)) | false => .one (.su mem.length 1 0 k true)).rel ρ' (.slice (some ⟨w.heap.size, 0, none⟩) k G) := by
  let ρ' : Rho := fun x => if x = mem.length then some (w.heap.size, 0) else if x = mem.length + 1 then (match gr with | true => some (G, 0) | false => none) else ρ x
  have hr0 : ρ' mem.length = some (w.heap.size, 0) := if_pos rfl
  have hr1 : ρ' (mem.length + 1) = (match gr with | true => some (G, 0) | false => none) := by
    show (if _ then _ else _) = _
    rw [if_neg (by omega), if_pos rfl]
  have hlr : ρ.le ρ' := fun id p h => by
    have hid : id < mem.length := by
      rcases Nat.lt_or_ge id mem.length with g | g
      · exact g
      · rw [hm.dom id g] at h; cases h
    show (if _ then _ else _) = _
    rw [if_neg (by omega), if_neg (by omega)]; exact h
  have hcl : ∀ i, i < k → ∀ j, j < 1 → ∃ v s, cur[0 + (i * 1 + j)]? = some v ∧ (colsAt es i)[j]? = some s ∧ s.rel ρ' v := by
    intro i hi j hj
    have hj0 : j = 0 := by omega
    subst hj0
    obtain ⟨v, s, a1, a2, a3⟩ := hcell i hi
    exact ⟨v, s, by rw [← a1]; congr 1; omega, a2, a3 ρ' hlr⟩
  cases gr with
  | true =>
    refine ⟨ρ', ⟨fun id h => ?_, fun id h => ?_, hb, fun i C h => ?_, fun i j b o b' o' hij hi hj => ?_⟩, ⟨w.heap.size, G, hr0, hr1, hk, rfl⟩⟩
    · show (if _ then _ else _) = _
      rw [if_neg (by omega), if_neg (by omega)]
    · have h : mem.length + 2 ≤ id := h
      show (if _ then _ else _) = _
      rw [if_neg (by omega), if_neg (by omega)]; exact hm.dom id (by omega)
    · match i, h with
      | 0, h =>
        simp at h; subst h
        refine ⟨w.heap.size, hr0, Nat.le_refl _, ⟨cur, e, (0, 0), hheap, fun i hi j hj => ?_, ⟨rfl, rfl⟩, G, hr1, by rw [hG, hes]; omega, hk, hGm⟩, .mk0 hheap⟩
        have hszB : Blk.sz (.grow k es (mem.length + 1) e) = 1 := hes
        rw [hszB] at hj ⊢
        exact hcl i hi j hj
      | 1, h => simp at h
      | n + 2, h => simp at h
    · obtain ⟨B1, h1⟩ := hi
      obtain ⟨B2, h2⟩ := hj
      match i, j, h1, h2 with
      | 0, 0, _, _ => omega
      | 1, _, h1, _ => simp at h1
      | n + 2, _, h1, _ => simp at h1
      | _, 1, _, h2 => simp at h2
      | _, n + 2, _, h2 => simp at h2
  | false =>
    refine ⟨ρ', ⟨fun id h => ?_, fun id h => ?_, hb, fun i C h => ?_, fun i j b o b' o' hij hi hj => ?_⟩, ⟨_, G, rfl, hk, fun _ => ⟨w.heap.size, 0, hr0, by simp⟩⟩⟩
    · show (if _ then _ else _) = _
      rw [if_neg (by omega), if_neg (by omega)]
    · have h : mem.length + 1 ≤ id := h
      show (if _ then _ else _) = _
      rw [if_neg (by omega)]
      split
      · rfl
      · exact hm.dom id (by omega)
    · match i, h with
      | 0, h =>
        simp at h; subst h
        refine ⟨w.heap.size, hr0, Nat.le_refl _, ⟨cur, e, (0, 0), hheap, fun i hi j hj => ?_, trivial⟩, .mk0 hheap⟩
        have hszB : Blk.sz (.cols k es) = 1 := hes
        rw [hszB] at hj ⊢
        exact hcl i hi j hj
      | n + 1, h => simp at h
    · obtain ⟨B1, h1⟩ := hi
      obtain ⟨B2, h2⟩ := hj
      match i, j, h1, h2 with
      | 0, 0, _, _ => omega
      | n + 1, _, h1, _ => simp at h1
      | _, n + 1, _, h2 => simp at h2

def isNumCol : Col → Bool
  | .num _ _ => true
  | _ => false

/-- Bytes give a row that grows on, other cells one that is only read. -/
def evAppG (P : Program) (mem : Mem) (t : TypeId) (s x : AV) : Option (T (AV × Mem)) :=
  match s with
  | .one (.sl id 1 i0 n0 cap true) =>
    match mem[id]? with
    | some (some (.row n 1 g)) =>
      match Nat.beq n0 cap, litCol g i0 n0, P.underlying t with
      | true, some d, some (.slice e) =>
        match P.info? e, zeroCells P e, appX mem 1 n0 [d] x with
        | some ie, some z, some (m, q, es) =>
          if ie.size = 1 ∧ z.length = 1 ∧ ie.bytes ≤ 65536 then
            some (.need (decide (i0 + n0 ≤ n)) (.need q (.need (decide (0 < m)) (.need (decide (n0 + m ≤ 1073741824)) (.leaf
              ((match isNumCol d with | true => AV.one (.so mem.length 1 (n0 + m) (mem.length + 1)) | false => .one (.su mem.length 1 0 (n0 + m) true)),
               (match isNumCol d with | true => [some (.grow (n0 + m) es (mem.length + 1) e), none] | false => [some (.cols (n0 + m) es)])))))))
          else none
        | _, _, _ => none
      | _, _, _ => none
    | _ => none
  | _ => none

theorem evAppG_ok {P : Program} {ρ : Rho} {w : World} {mem : Mem} (hm : MemOK ρ w mem) (t ty : TypeId) {s x : AV} {u v : Value} (hs : s.rel ρ u) (hx : x.rel ρ v) {T0 : T (AV × Mem)} (hT : evAppG P mem t s x = some T0) :
    SemOK P ρ w mem.length (Builtin.append_ #[t, t] ty #[u, v]) T0 := by
  unfold evAppG at hT
  split at hT <;> try (cases hT; done)
  rename_i id i0 n0 cap
  split at hT <;> try (cases hT; done)
  rename_i n g hid
  split at hT <;> try (cases hT; done)
  rename_i d e hbeq hd hu
  split at hT <;> try (cases hT; done)
  rename_i ie z m q es hie hz hX
  split at hT <;> try (cases hT; done)
  rename_i hc
  obtain ⟨hsz, hzl, hby⟩ := hc
  cases hT
  refine .need fun h1 => .need fun h2 => .need fun h3 => .need fun h4 => ?_
  have h1 : i0 + n0 ≤ n := of_decide_eq_true h1
  have h3 : 0 < m := of_decide_eq_true h3
  have h4 : n0 + m ≤ 1073741824 := of_decide_eq_true h4
  have hcap : n0 = cap := Nat.eq_of_beq_eq_true hbeq
  subst hcap
  obtain ⟨b, o, hρ, rfl⟩ := hs
  obtain ⟨b', o', hρ', hblk⟩ := hm.blk id _ hid
  rw [hρ] at hρ'; cases hρ'
  obtain ⟨olds, l1, l2, l3, l4⟩ := news_of hblk i0 n0 h1 Nat.one_pos
  have hszB : Blk.sz (.row n 1 g) = 1 := rfl
  rw [hszB] at l1 l2 l4
  obtain ⟨⟨a, c, rfl, ha, news, hl, hnews, hone, hnew⟩, hesl, hold⟩ := appX_ok hm hx hX h2 (cs := [d]) rfl Nat.one_pos
  obtain ⟨a', rfl⟩ : ∃ a', a = some a' := ha.resolve_left (by omega)
  have hnews := hnews a' rfl
  obtain ⟨ie', zv, hie', hzv, hzr⟩ := zero_of (ρ := ρ) hz
  rw [hie] at hie'; cases hie'
  have hzs : zv.cells.size = 1 := by
    have := hzr.length
    simp at this; omega
  have hmul : (n0 + m) * ie.bytes ≤ 1073741824 * 65536 := Nat.mul_le_mul h4 hby
  have hr := run_append_grow (P := P) w t ty e ie zv hu hie hzv ⟨b, o + i0 * 1, none⟩ n0 n0 olds (by rw [hsz]; exact l1) l2 a' m c news (by rw [hsz]; exact hl) hnews (by omega) (by omega) (growslice_fits (by omega) (by omega))
  have hge := grownCap_ge w (n0 + m) n0 e
  have hle := grownCap_le_maxLen w (n0 + m) n0 e (by simp only [maxLen]; omega)
  generalize hG : grownCap w (n0 + m) n0 e = G at *
  intro next hnext
  obtain ⟨ρ', k1, k2⟩ := evAppG_new (w' := w.drew.alloc (.cells (olds.toArray ++ news.toArray ++ Builtin.zeroCells zv.cells (G - (n0 + m))) e)) hm (k := n0 + m) (es := es) (G := G) (heap_alloc_new w.drew _)
    ((show Below w.heap.size w w.drew from ⟨rfl, rfl, rfl, Nat.le_refl _, fun _ _ => rfl⟩).alloc (Nat.le_refl _) _) hesl (by simp only [Array.size_append, List.size_toArray, size_zeroCells, hzs, l1, hl]; omega) hge hle
    (fun i hi => by
      by_cases hin : i < n0
      · obtain ⟨u, s, b1, b2, b3⟩ := l4 i hin 0 Nat.one_pos
        obtain ⟨b4, b5⟩ := litCol_at hd i hin s b2
        refine ⟨u, d.at i, ?_, by rw [hold i hin]; rfl, fun ρ' hle' => b5 ρ' u (SV.rel_mono hle' b3)⟩
        rw [Array.getElem?_append_left (by simp; omega), Array.getElem?_append_left (by simp; omega)]
        rw [← b1]; simp
      · obtain ⟨u, s, b1, b2, b3⟩ := hnew (i - n0) (by omega) 0 Nat.one_pos
        refine ⟨u, s, ?_, by rw [← b2, show n0 + (i - n0) = i by omega], fun ρ' hle' => SV.rel_mono hle' b3⟩
        rw [Array.getElem?_append_left (by simp; omega), Array.getElem?_append_right (by simp; omega)]
        rw [← b1]; simp; congr 1; omega) (isNumCol d)
  exact ⟨_, _, hr, hnext ρ' _ _ k1 k2⟩

end Go.Proofs.Ytdmcpgbnomhahaa
