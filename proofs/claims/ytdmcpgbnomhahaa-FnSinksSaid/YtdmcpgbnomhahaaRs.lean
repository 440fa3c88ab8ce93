/-
  A slice that comes in: its cells as columns. No conditions.
-/
import Derived.Test.YtdmcpgbnomhahaaRo
import Derived.Test.YtdmcpgbnomhahaaLp
namespace Go.Proofs.Ytdmcpgbnomhahaa
set_option linter.unusedVariables false
set_option linter.unusedSimpArgs false
open Go.RowKit Go.ChangeShapes Go.WideShapes

def colOf (W : World) (b o sz j : Nat) : LK → Col
  | .fl k => .fl k fun i => match W.cell? ⟨b, o + (i * sz + j), none⟩ with
    | some (.float _ x) => canon k x
    | _ => 0
  | .num k => .num k fun i => match W.cell? ⟨b, o + (i * sz + j), none⟩ with
    | some (.int _ n) => n
    | _ => 0
  | .bo => .bo fun i => match W.cell? ⟨b, o + (i * sz + j), none⟩ with
    | some (.bool x) => x
    | _ => false
  | .str => .str fun i => match W.cell? ⟨b, o + (i * sz + j), none⟩ with
    | some (.string s) => s
    | _ => ⟨#[]⟩
  | .sl _ => .bo fun _ => false

def colsOf (W : World) (b o sz : Nat) : Nat → List LK → List Col
  | _, [] => []
  | j, k :: ks => colOf W b o sz j k :: colsOf W b o sz (j + 1) ks

theorem colsOf_length (W : World) (b o sz : Nat) : ∀ (j : Nat) (ks : List LK), (colsOf W b o sz j ks).length = ks.length
  | _, [] => rfl
  | j, _ :: ks => congrArg (· + 1) (colsOf_length W b o sz (j + 1) ks)

section
variable {H : Type} {enc : TypeId × Value → H} {P : Program} {W : World} {base : Nat} {spare : Nat → Bool} {held : Bool}

theorem colsOf_rel {ρ : Rho} {b o sz i : Nat} : ∀ {ks : List LK} {cs : List Value} {j0 : Nat}, plain ks = true → KRel enc P W base spare held ks cs → (∀ (j : Nat) (v : Value), cs[j]? = some v → W.cell? ⟨b, o + (i * sz + (j0 + j)), none⟩ = some v) →
    ∀ (j : Nat) (v : Value), cs[j]? = some v → ∃ s : SV, (colsAt (colsOf W b o sz j0 ks) i)[j]? = some s ∧ s.rel ρ v
  | [], [], j0, _, _, _, j, v, h => by simp at h
  | k :: ks, u :: cs, j0, hp, hk, hc, j, v, h => by
    cases j with
    | succ j =>
      have hp' : plain ks = true := by cases k <;> simp_all [plain]
      have := colsOf_rel (ρ := ρ) (j0 := j0 + 1) hp' hk.2 (fun j v hv => by
        have := hc (j + 1) v (by simpa using hv)
        rw [show j0 + 1 + j = j0 + (j + 1) by omega]; exact this) j v (by simpa using h)
      simpa [colsOf, colsAt] using this
    | zero =>
      simp at h; subst h
      have h0 := hc 0 u rfl
      rw [Nat.add_zero] at h0
      refine ⟨_, rfl, ?_⟩
      cases k with
      | fl q => obtain ⟨x, rfl, hw⟩ := hk.1; simp only [colOf, Col.at, h0]; exact ⟨x, rfl, flIs_wf hw⟩
      | num q => obtain ⟨x, rfl, hw⟩ := hk.1; simp only [colOf, Col.at, h0]; rfl
      | bo => obtain ⟨x, rfl⟩ := hk.1; simp only [colOf, Col.at, h0]; rfl
      | str => obtain ⟨x, rfl, hw⟩ := hk.1; simp only [colOf, Col.at, h0]; rfl
      | sl e => simp [plain] at hp
theorem open_row {r : Reach} {b0 n : Nat} {t e : TypeId} {ks : List LK} {v : Value} {d : DataW H} {ps : List MemPlace} (ht : P.underlying t = some (.slice e)) (hk : flat P n e = some ks) (hp : plain ks = true) (hsz : P.cellsOf e = ks.length)
    (hval : Value.okWide P W r b0 t v) (hd : DataW.Trod enc P W 0 (fun _ => true) true t v d ps) :
    v = .slice none 0 0 ∨ ∃ b o len cap, v = .slice (some ⟨b, o, none⟩) len cap ∧ len ≤ maxLen ∧ ∀ ρ, BlkAt ρ W b o (.cols len (colsOf W b o ks.length 0 ks)) := by
  simp only [Value.okWide, ht, Cell.okWide] at hval
  obtain ⟨fuel, hf⟩ := hd
  have hc : v.cells = #[v] := by cases v <;> first | rfl | (simp [Cell.ok, ht] at hval)
  rw [hc] at hf
  rcases Go.Deep.open_slice ht hf with ⟨hcs, _⟩ | ⟨a, len, cap, m, n', D, Pl, hcs, _, hlc, hcm, hm, _, hel⟩
  · left; simpa using hcs
  · right
    obtain rfl : v = .slice (some a) len cap := by simpa using hcs
    simp only [Cell.ok, ht] at hval
    obtain ⟨_, _, _, hspot, row, cells, hshape, _⟩ := hval
    obtain ⟨b, o, spot⟩ := a
    have hspot : spot = none := hspot
    subst hspot
    refine ⟨b, o, len, cap, rfl, Nat.le_trans hlc hcm, fun ρ => ?_⟩
    have hlen := colsOf_length W b o ks.length 0 ks
    obtain ⟨c, el, fz, hheap⟩ : ∃ c el fz, W.heap[b]? = some (.cells c el fz) := by
      unfold World.shape? at hshape
      split at hshape
      · rename_i c el fz h; exact ⟨c, el, fz, h⟩
      · cases hshape
    refine ⟨c, el, fz, hheap, fun i hi j hj => ?_, trivial⟩
    have hi : i < len := hi
    have hj : j < ks.length := by rw [← hlen]; exact hj
    obtain ⟨cs', h1, h2⟩ := hel i (by rw [hm]; simp; omega)
    have hk2 := flat_rel n e ks hk n' cs' _ h2
    have hcl := hk2.length
    have hcell : ∀ (j : Nat) (v : Value), cs'[j]? = some v → W.cell? ⟨b, o + (i * ks.length + (0 + j)), none⟩ = some v := by
      intro j v hv
      have hj : j < ks.length := by rw [← hcl]; exact (List.getElem?_eq_some_iff.1 hv).1
      unfold World.cells? at h1
      split at h1
      · have := mapM_some_get h1 j j (by rw [hsz]; simp [hj])
        rw [hv, hsz] at this
        rw [← this, Nat.zero_add, Go.WideShapes.add_plain, Go.WideShapes.add_plain, Nat.add_assoc]
      · cases h1
    obtain ⟨v, hv⟩ : ∃ v, cs'[j]? = some v := ⟨cs'[j]'(by omega), by simp⟩
    obtain ⟨s, hs1, hs2⟩ := colsOf_rel (ρ := ρ) hp hk2 hcell j v hv
    refine ⟨v, s, ?_, hs1, hs2⟩
    have := hcell j v hv
    rw [Nat.zero_add] at this
    show c[o + (i * (colsOf W b o ks.length 0 ks).length + j)]? = some v
    rw [hlen]
    simpa [World.cell?, hheap] using this

end

/-- One block, by the name 0. -/
def rho1 (b o : Nat) : Rho := fun id => match id with
  | 0 => some (b, o)
  | _ => none

theorem memOK_one {W : World} {b o : Nat} {B : Blk} (h : ∀ ρ, BlkAt ρ W b o B) : MemOK (rho1 b o) W [some B] := by
  refine ⟨fun id hid => ?_, fun id C hC => ?_⟩
  · cases id with
    | zero => simp at hid
    | succ id => rfl
  · cases id with
    | zero => simp at hC; subst hC; exact ⟨b, o, rfl, h _⟩
    | succ id => simp at hC

def avPlain : AV → Bool
  | .one s => !svPtr s
  | .agg l => !svsPtr l
  | _ => false

theorem av_any {ρ ρ' : Rho} {a : AV} {v : Value} (h : avPlain a = true) (hr : a.rel ρ v) : a.rel ρ' v := by
  cases a <;> simp only [avPlain, Bool.not_eq_true', reduceCtorEq] at h
  · exact svPtr_rel h hr
  · obtain ⟨cs, h1, h2⟩ := hr; exact ⟨cs, h1, svsPtr_rel h h2⟩

/-- Two blocks, by the names 0 and 1. -/
def rho2 (b o b' o' : Nat) : Rho := fun id => match id with
  | 0 => some (b, o)
  | 1 => some (b', o')
  | _ => none

theorem memOK_two {W : World} {b o b' o' : Nat} {B B' : Blk} (h : ∀ ρ, BlkAt ρ W b o B) (h' : ∀ ρ, BlkAt ρ W b' o' B') : MemOK (rho2 b o b' o') W [some B, some B'] := by
  refine ⟨fun id hid => ?_, fun id C hC => ?_⟩
  · match id with
    | 0 => simp at hid
    | 1 => simp at hid
    | id + 2 => rfl
  · match id with
    | 0 => simp at hC; subst hC; exact ⟨b, o, rfl, h _⟩
    | 1 => simp at hC; subst hC; exact ⟨b', o', rfl, h' _⟩
    | id + 2 => simp at hC

/-- A tree whose conditions are closed. -/
def yesB : T Res → Bool
  | .leaf (.one (.tt b), _) => b
  | .leaf (.one (.bo b), _) => b
  | .leaf _ => false
  | .ite c t e => cond c (yesB t) (yesB e)
  | .need c t => cond c (yesB t) false
  | .fail => false
  | .all _ => false

theorem yesB_ok : ∀ {t : T Res}, yesB t = true → t.holds fun r => r.1 = .one (.tt true) ∨ r.1 = .one (.bo true)
  | .leaf (v, m), h => by
    cases v with
    | one s => cases s <;> first | (cases h; done) | (have h : _ = true := h; subst h; first | exact .inl rfl | exact .inr rfl) | exact absurd h (by simp [yesB])
    | _ => exact absurd h (by simp [yesB])
  | .ite c t e, h => by
    cases c with
    | true => exact T.h_ite (fun _ => yesB_ok (t := t) h) (fun hc => (nomatch hc))
    | false => exact T.h_ite (fun hc => (nomatch hc)) (fun _ => yesB_ok (t := e) h)
  | .need c t, h => by
    cases c with
    | true => exact ⟨rfl, yesB_ok (t := t) h⟩
    | false => cases h
  | .fail, h => by cases h
  | .all _, h => by cases h

theorem yes_of {P : Program} {C : Ctr P} {args : List AV} {mem : Mem} (h : yesB (C.run args mem) = true) : Yes C args mem := ⟨yesB_ok h⟩

end Go.Proofs.Ytdmcpgbnomhahaa
