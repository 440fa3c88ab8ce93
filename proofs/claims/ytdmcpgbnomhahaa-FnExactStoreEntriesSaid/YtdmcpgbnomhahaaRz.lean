/-
  A slice that comes in and whose elements begin with a string: its cells as columns; how long the strings are. No conditions.
-/
import Derived.Test.YtdmcpgbnomhahaaRs
namespace Go.Proofs.Ytdmcpgbnomhahaa
set_option linter.unusedVariables false
set_option linter.unusedSimpArgs false
open Go.RowKit Go.ChangeShapes Go.WideShapes

section
variable {H : Type} {enc : TypeId × Value → H} {P : Program} {W : World} {base : Nat} {spare : Nat → Bool} {held : Bool}

theorem open_rowS {r : Reach} {b0 n : Nat} {t e : TypeId} {ks : List LK} {v : Value} {d : DataW H} {ps : List MemPlace} (ht : P.underlying t = some (.slice e)) (hk : flat P n e = some ks) (hp : plain ks = true) (hsz : P.cellsOf e = ks.length)
    (hs : ks.head? = some .str) (hval : Value.okWide P W r b0 t v) (hd : DataW.Trod enc P W 0 (fun _ => true) true t v d ps) :
    v = .slice none 0 0 ∨ ∃ b o len cap, v = .slice (some ⟨b, o, none⟩) len cap ∧ len ≤ maxLen ∧ (∀ ρ, BlkAt ρ W b o (.cols len (colsOf W b o ks.length 0 ks))) ∧ len ≤ cap ∧ ∀ i, i < len → (match W.cell? ⟨b, o + (i * ks.length + 0), none⟩ with | some (.string s) => s | _ => ⟨#[]⟩ : ByteArray).size ≤ maxLen := by
  simp only [Value.okWide, ht, Cell.okWide] at hval
  obtain ⟨fuel, hf⟩ := hd
  have hc : v.cells = #[v] := by cases v <;> first | rfl | (simp [Cell.ok, ht] at hval)
  rw [hc] at hf
  rcases Go.Deep.open_slice ht hf with ⟨hcs, _⟩ | ⟨a, len, cap, m, n', D, Pl, hcs, _, hlc, hcm, hm, _, hel⟩
  · left; simpa using hcs
  · right
    obtain rfl : v = .slice (some a) len cap := by simpa using hcs
    simp only [Cell.ok, ht] at hval
    obtain ⟨_, _, _, hspot, row, cells, hshape, _⟩ := hval
    obtain ⟨b, o, spot⟩ := a
    have hspot : spot = none := hspot
    subst hspot
    have cells : ∀ i, i < len → ∃ cs', KRel enc P W 0 (fun _ => true) true ks cs' ∧ ∀ (j : Nat) (v : Value), cs'[j]? = some v → W.cell? ⟨b, o + (i * ks.length + (0 + j)), none⟩ = some v := by
      intro i hi
      obtain ⟨cs', h1, h2⟩ := hel i (by rw [hm]; simp; omega)
      have hk2 := flat_rel n e ks hk n' cs' _ h2
      have hcl := hk2.length
      refine ⟨cs', hk2, fun j v hv => ?_⟩
      have hj : j < ks.length := by rw [← hcl]; exact (List.getElem?_eq_some_iff.1 hv).1
      unfold World.cells? at h1
      split at h1
      · have := mapM_some_get h1 j j (by rw [hsz]; simp [hj])
        rw [hv, hsz] at this
        rw [← this, Nat.zero_add, Go.WideShapes.add_plain, Go.WideShapes.add_plain, Nat.add_assoc]
      · cases h1
    refine ⟨b, o, len, cap, rfl, Nat.le_trans hlc hcm, fun ρ => ?_, hlc, fun i hi => ?_⟩
    · have hlen := colsOf_length W b o ks.length 0 ks
      obtain ⟨c, el, fz, hheap⟩ : ∃ c el fz, W.heap[b]? = some (.cells c el fz) := by
        unfold World.shape? at hshape
        split at hshape
        · rename_i c el fz h; exact ⟨c, el, fz, h⟩
        · cases hshape
      refine ⟨c, el, fz, hheap, fun i hi j hj => ?_, trivial⟩
      have hi : i < len := hi
      have hj : j < ks.length := by rw [← hlen]; exact hj
      obtain ⟨cs', hk2, hcell⟩ := cells i hi
      have hcl := hk2.length
      obtain ⟨v, hv⟩ : ∃ v, cs'[j]? = some v := ⟨cs'[j]'(by omega), by simp⟩
      obtain ⟨s, hs1, hs2⟩ := colsOf_rel (ρ := ρ) hp hk2 hcell j v hv
      refine ⟨v, s, ?_, hs1, hs2⟩
      have := hcell j v hv
      rw [Nat.zero_add] at this
      show c[o + (i * (colsOf W b o ks.length 0 ks).length + j)]? = some v
      rw [hlen]
      simpa [World.cell?, hheap] using this
    · obtain ⟨cs', hk2, hcell⟩ := cells i hi
      match ks, hs, cs', hk2, hcell with
      | .str :: ks', _, u :: cs', hk2, hcell =>
        obtain ⟨s, rfl, hw⟩ := hk2.1
        have := hcell 0 _ rfl
        rw [Nat.zero_add] at this
        rw [this]
        exact hw

end

end Go.Proofs.Ytdmcpgbnomhahaa
