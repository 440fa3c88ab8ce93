/-
  A slice of bytes that comes in: its cells as a column; the bytes' range. No conditions.
-/
import Derived.Test.YtdmcpgbnomhahaaRs
namespace Go.Proofs.Ytdmcpgbnomhahaa
set_option linter.unusedVariables false
set_option linter.unusedSimpArgs false
open Go.RowKit Go.ChangeShapes Go.WideShapes

section
variable {H : Type} {enc : TypeId × Value → H} {P : Program} {W : World} {base : Nat} {spare : Nat → Bool} {held : Bool}

theorem open_rowB {r : Reach} {b0 n : Nat} {t e : TypeId} {v : Value} {d : DataW H} {ps : List MemPlace} (ht : P.underlying t = some (.slice e)) (hk : flat P n e = some [.num .u8]) (hsz : P.cellsOf e = 1)
    (hval : Value.okWide P W r b0 t v) (hd : DataW.Trod enc P W 0 (fun _ => true) true t v d ps) :
    v = .slice none 0 0 ∨ ∃ b o len cap, ∃ f : Nat → Int, v = .slice (some ⟨b, o, none⟩) len cap ∧ len ≤ maxLen ∧ (∀ ρ, BlkAt ρ W b o (.cols len [.num .u8 f])) ∧ len ≤ cap ∧ ∀ i, i < len → 0 ≤ f i ∧ f i < 256 := by
  have hp : plain [LK.num .u8] = true := rfl
  generalize hks : [LK.num .u8] = ks at hk hp
  have hsz : P.cellsOf e = ks.length := by rw [← hks]; exact hsz
  simp only [Value.okWide, ht, Cell.okWide] at hval
  obtain ⟨fuel, hf⟩ := hd
  have hc : v.cells = #[v] := by cases v <;> first | rfl | (simp [Cell.ok, ht] at hval)
  rw [hc] at hf
  rcases Go.Deep.open_slice ht hf with ⟨hcs, _⟩ | ⟨a, len, cap, m, n', D, Pl, hcs, _, hlc, hcm, hm, _, hel⟩
  · left; simpa using hcs
  · right
    obtain rfl : v = .slice (some a) len cap := by simpa using hcs
    simp only [Cell.ok, ht] at hval
    obtain ⟨_, _, _, hspot, row, cells, hshape, _⟩ := hval
    obtain ⟨b, o, spot⟩ := a
    have hspot : spot = none := hspot
    subst hspot
    have cells : ∀ i, i < len → ∃ cs', KRel enc P W 0 (fun _ => true) true ks cs' ∧ ∀ (j : Nat) (v : Value), cs'[j]? = some v → W.cell? ⟨b, o + (i * ks.length + (0 + j)), none⟩ = some v := by
      intro i hi
      obtain ⟨cs', h1, h2⟩ := hel i (by rw [hm]; simp; omega)
      have hk2 := flat_rel n e ks hk n' cs' _ h2
      have hcl := hk2.length
      refine ⟨cs', hk2, fun j v hv => ?_⟩
      have hj : j < ks.length := by rw [← hcl]; exact (List.getElem?_eq_some_iff.1 hv).1
      unfold World.cells? at h1
      split at h1
      · have := mapM_some_get h1 j j (by rw [hsz]; simp [hj])
        rw [hv, hsz] at this
        rw [← this, Nat.zero_add, Go.WideShapes.add_plain, Go.WideShapes.add_plain, Nat.add_assoc]
      · cases h1
    have hco : colsOf W b o ks.length 0 ks = [.num .u8 fun i => match W.cell? ⟨b, o + (i * ks.length + 0), none⟩ with | some (.int _ n) => n | _ => 0] := by rw [← hks]; rfl
    refine ⟨b, o, len, cap, (fun i => match W.cell? ⟨b, o + (i * ks.length + 0), none⟩ with | some (.int _ n) => n | _ => 0), rfl, Nat.le_trans hlc hcm, fun ρ => ?_, hlc, fun i hi => ?_⟩
    · rw [← hco]
      have hlen := colsOf_length W b o ks.length 0 ks
      obtain ⟨c, el, fz, hheap⟩ : ∃ c el fz, W.heap[b]? = some (.cells c el fz) := by
        unfold World.shape? at hshape
        split at hshape
        · rename_i c el fz h; exact ⟨c, el, fz, h⟩
        · cases hshape
      refine ⟨c, el, fz, hheap, fun i hi j hj => ?_, trivial⟩
      have hi : i < len := hi
      have hj : j < ks.length := by rw [← hlen]; exact hj
      obtain ⟨cs', hk2, hcell⟩ := cells i hi
      have hcl := hk2.length
      obtain ⟨v, hv⟩ : ∃ v, cs'[j]? = some v := ⟨cs'[j]'(by omega), by simp⟩
      obtain ⟨s, hs1, hs2⟩ := colsOf_rel (ρ := ρ) hp hk2 hcell j v hv
      refine ⟨v, s, ?_, hs1, hs2⟩
      have := hcell j v hv
      rw [Nat.zero_add] at this
      show c[o + (i * (colsOf W b o ks.length 0 ks).length + j)]? = some v
      rw [hlen]
      simpa [World.cell?, hheap] using this
    · obtain ⟨cs', hk2, hcell⟩ := cells i hi
      subst hks
      match cs', hk2, hcell with
      | u :: cs', hk2, hcell =>
        obtain ⟨z, rfl, hw⟩ := hk2.1
        have := hcell 0 _ rfl
        rw [Nat.zero_add] at this
        show 0 ≤ (match W.cell? ⟨b, o + (i * [LK.num IntKind.u8].length + 0), none⟩ with | some (.int _ n) => n | _ => 0 : Int) ∧ (match W.cell? ⟨b, o + (i * [LK.num IntKind.u8].length + 0), none⟩ with | some (.int _ n) => n | _ => 0 : Int) < 256
        rw [this]
        have hw : (decide (IntKind.u8.min ≤ z) && decide (z ≤ IntKind.u8.max)) = true := hw
        simp only [Bool.and_eq_true, decide_eq_true_eq] at hw
        have e1 : IntKind.u8.min = 0 := by decide
        have e2 : IntKind.u8.max = 255 := by decide
        rw [e1, e2] at hw
        exact ⟨hw.1, by show z < 256; omega⟩

theorem blk_empty {ρ : Rho} {W : World} {b o n : Nat} {cs : List Col} (h : BlkAt ρ W b o (.cols n cs)) : BlkAt ρ W b o (.cols 0 [.num .u8 fun _ => 0]) := by
  obtain ⟨c, e, fz, h1, _, _⟩ := h
  exact ⟨c, e, fz, h1, fun i hi => absurd hi (Nat.not_lt_zero i), trivial⟩

end

end Go.Proofs.Ytdmcpgbnomhahaa
