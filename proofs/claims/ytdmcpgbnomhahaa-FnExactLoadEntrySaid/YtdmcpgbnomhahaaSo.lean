/-
  LoadEntry: both functions in words. No conditions.
-/
import Derived.Test.YtdmcpgbnomhahaaSz
import Derived.Laws.BitsAllLaws
namespace Go.Proofs.Ytdmcpgbnomhahaa
set_option linter.unusedVariables false
set_option linter.unusedSimpArgs false
open Go.RowKit

def numFrom : List AV → Mem → T Res
  | [.one (.num .u32 n)], _ => .need (decide (0 ≤ n ∧ n < 4294967296)) (.leaf (.one (.fl .f32 (canon .f32 n.toNat)), []))
  | _, _ => .fail
def numFromRun : List AV → T AV
  | [.one (.num .u32 n)] => .need (decide (0 ≤ n ∧ n < 4294967296)) (.leaf (.one (.fl .f32 (canon .f32 n.toNat))))
  | _ => .fail
theorem numFrom_ok {P : Program} (ρ : Rho) (w : World) (args : List AV) (vals : Array Value) (h : RelA ρ args vals.toList) : PureOK P ρ w (Extern.MathFloatBits.float32frombits vals) (numFromRun args) := by
  unfold numFromRun
  split <;> try exact .fail
  rename_i n
  obtain ⟨v, rfl, hv⟩ := one_val h
  have hv : v = .int .u32 n := hv
  subst hv
  refine .need fun hd => ?_
  obtain ⟨h0, h1⟩ : 0 ≤ n ∧ n < 4294967296 := of_decide_eq_true hd
  obtain ⟨q, rfl⟩ := Int.eq_ofNat_of_zero_le h0
  refine .leaf (v := .float .f32 q) rfl ⟨q, rfl, ?_, rfl⟩
  have e : (2 : Nat) ^ FloatKind.f32.format.width = 4294967296 := by decide
  omega
noncomputable def k_f32from : Ctr Try.prog := extCtr (f := 78) Try.func78 (by kernel_rfl) (by kernel_rfl) (by kernel_rfl) (e := Extern.MathFloatBits.float32frombits) (by kernel_rfl) numFromRun numFrom_ok
noncomputable def k_sSize : Ctr Try.prog := mkF0 Try.prog mix [] 76 Try.f76 (bodyOf Try.f76) Try.func76 (by kernel_rfl) (by kernel_rfl) [0, 2, 3, 6, 14, 198] 16 (by kernel_rfl) (by kernel_rfl) []
noncomputable def k_sFrom : Ctr Try.prog := mkF0 Try.prog mix [k_f32from] 77 Try.f77 (bodyOf Try.f77) Try.func77 (by kernel_rfl) (by kernel_rfl) [0, 2, 198] 6 (by kernel_rfl) (by kernel_rfl) []
noncomputable def k_sLd0 : Ctr Try.prog := mkF0 Try.prog mix [k_sSize, k_sFrom, k_en_sEntry, k_sSy] 42 Try.f42 (bodyOf Try.f42) Try.func42 (by kernel_rfl) (by kernel_rfl) [0, 2, 3, 4, 5, 6, 7, 8, 9, 19, 25, 88, 198] 91 (by kernel_rfl) (by kernel_rfl) []
noncomputable def k_iOf : Ctr Try.prog := mkF0 Try.prog mix [] 79 Try.f79 (bodyOf Try.f79) Try.func79 (by kernel_rfl) (by kernel_rfl) [0, 2, 198] 22 (by kernel_rfl) (by kernel_rfl) []
noncomputable def k_iLf0 : Ctr Try.prog := mkF0 Try.prog mix [k_f32from, k_iOf, k_iVe, k_iSy] 43 Try.f43 (bodyOf Try.f43) Try.func43 (by kernel_rfl) (by kernel_rfl) [0, 2, 3, 4, 5, 6, 7, 8, 9, 10, 22, 33, 34, 91, 198] 96 (by kernel_rfl) (by kernel_rfl) []
noncomputable def k_sLe0 : Ctr Try.prog := mkF0 Try.prog mix [k_sLd0] 13 Try.f13 (bodyOf Try.f13) Try.func13 (by kernel_rfl) (by kernel_rfl) [0, 2, 3, 199] 8 (by kernel_rfl) (by kernel_rfl) []
noncomputable def k_iLe0 : Ctr Try.prog := mkF0 Try.prog mix [k_iLf0] 14 Try.f14 (bodyOf Try.f14) Try.func14 (by kernel_rfl) (by kernel_rfl) [0, 2, 3, 4, 5, 6, 20, 199] 23 (by kernel_rfl) (by kernel_rfl) []
abbrev w64 := IntKind.i64.wrap
abbrev w32 := IntKind.u32.wrap
def sZ (s : ByteArray) : Int := bif decide ((s.size : Int) < 5) then 0 else bif decide ((s.size : Int) < w64 (35 + w64 (byteAt s (Int.toNat 4)))) then 0 else w64 (35 + w64 (byteAt s (Int.toNat 4)))
def sAt (s : ByteArray) (k : Int) : Int := w64 (w64 (sZ s - 30) + w64 (4 * k))
def sE (s : ByteArray) (k : Int) : ByteArray := s.extract (sAt s k).toNat (s.size : Int).toNat
def sNum (s : ByteArray) (k : Int) : Int := w32 (w64 (w64 (w64 (w64 (byteAt (sE s k) (Int.toNat 0)) + w64 (256 * w64 (byteAt (sE s k) (Int.toNat 1)))) + w64 (65536 * w64 (byteAt (sE s k) (Int.toNat 2)))) + w64 (16777216 * w64 (byteAt (sE s k) (Int.toNat 3)))))
def sX (s : ByteArray) (k : Int) : Nat := canon .f32 (sNum s k).toNat
def sNm (s : ByteArray) : ByteArray := s.extract (Int.toNat 5) (w64 (sZ s - 30)).toNat
def iAt (s : ByteArray) (k : Int) : Int := w64 (w64 (5 + w64 (byteAt s (Int.toNat 4))) + w64 (4 * k))
def iNum (s : ByteArray) (k : Int) : Int := Go.bits .or .u32 (Go.bits .or .u32 (Go.bits .or .u32 (w32 (byteAt s (iAt s k).toNat)) (w32 (w32 (byteAt s (w64 (iAt s k + 1)).toNat) * 2 ^ min (Int.toNat 8) IntKind.u32.bits))) (w32 (w32 (byteAt s (w64 (iAt s k + 2)).toNat) * 2 ^ min (Int.toNat 16) IntKind.u32.bits))) (w32 (w32 (byteAt s (w64 (iAt s k + 3)).toNat) * 2 ^ min (Int.toNat 24) IntKind.u32.bits))
def iX (s : ByteArray) (k : Int) : Nat := canon .f32 (iNum s k).toNat
def iNm (s : ByteArray) : ByteArray := s.extract (Int.toNat 5) (w64 (5 + w64 (byteAt s (Int.toNat 4)))).toNat
def ldP (s : ByteArray) (k : Nat) : Nat := 5 + (byteAt s 4).toNat + 4 * k
def ldN (s : ByteArray) (k : Nat) : Int := byteAt s (ldP s k) + 256 * byteAt s (ldP s k + 1) + 65536 * byteAt s (ldP s k + 2) + 16777216 * byteAt s (ldP s k + 3)
def ldX (s : ByteArray) (k : Nat) : Nat := canon .f32 (ldN s k).toNat
def ldNm (s : ByteArray) : ByteArray := s.extract 5 (5 + (byteAt s 4).toNat)
theorem byteAt_extract (s : ByteArray) (a e i : Nat) (h : a + i < e) (he : e ≤ s.size) : byteAt (s.extract a e) i = byteAt s (a + i) := by
  have h1 : (s.extract a e)[i]? = s[a + i]? := by
    have hi : i < (s.extract a e).size := by rw [ByteArray.size_extract]; omega
    have hj : a + i < s.size := by omega
    rw [getElem?_pos (s.extract a e) i hi, getElem?_pos s (a + i) hj]
    exact congrArg some (ByteArray.getElem_extract hi)
  unfold byteAt
  rw [h1]
theorem w64_in {n : Int} (h : -9223372036854775808 ≤ n ∧ n ≤ 9223372036854775807) : w64 n = n := IntWalk.i64_in n (by omega)
theorem w32_in {n : Int} (h : 0 ≤ n) (h2 : n < 4294967296) : w32 n = n := by
  show IntKind.u32.wrap n = n
  rw [IntKind.wrap_u32]; omega
theorem or_add {a b : Int} (i : Nat) (ha : 0 ≤ a) (ha2 : a < 2 ^ i) (c : Nat) (hb : b = 2 ^ i * (c : Int)) (hb2 : b < 4294967296) (ha3 : a < 4294967296) : Go.bits .or .u32 a b = a + b := by
  have hb0 : 0 ≤ b := by rw [hb]; exact Int.mul_nonneg (Int.pow_nonneg (by decide)) (Int.natCast_nonneg c)
  rw [u32_or a b ha ha3 hb0 hb2]
  have e1 : b.toNat = 2 ^ i * c := by
    rw [hb]
    have : ((2 : Int) ^ i * (c : Int)) = ((2 ^ i * c : Nat) : Int) := by simp
    rw [this]; exact Int.toNat_natCast _
  have e2 : a.toNat < 2 ^ i := by
    have h2 : ((2 : Int) ^ i) = ((2 ^ i : Nat) : Int) := by simp
    rw [h2] at ha2
    generalize (2 ^ i : Nat) = q at *
    omega
  rw [e1, Nat.or_comm, ← Nat.two_pow_add_eq_or_of_lt e2, ← e1]
  omega
theorem ldN_in (s : ByteArray) (k : Nat) : 0 ≤ ldN s k ∧ ldN s k < 4294967296 := by
  have h0 := byteAt_in s (ldP s k)
  have h1 := byteAt_in s (ldP s k + 1)
  have h2 := byteAt_in s (ldP s k + 2)
  have h3 := byteAt_in s (ldP s k + 3)
  unfold ldN
  omega
theorem sZ_eq {s : ByteArray} (H : (s.size : Int) = 35 + byteAt s 4) : sZ s = 35 + byteAt s 4 := by
  have hb := byteAt_in s 4
  unfold sZ
  have e : (Int.toNat 4) = 4 := rfl
  rw [e, w64_in (n := byteAt s 4) (by omega), w64_in (n := 35 + byteAt s 4) (by omega), decide_eq_false (by omega), decide_eq_false (by omega)]
  rfl
theorem sAt_eq {s : ByteArray} (H : (s.size : Int) = 35 + byteAt s 4) (k : Int) (hk : 0 ≤ k ∧ k ≤ 6) : sAt s k = 5 + byteAt s 4 + 4 * k := by
  have hb := byteAt_in s 4
  unfold sAt
  rw [sZ_eq H, w64_in (n := 4 * k) (by omega), w64_in (n := 35 + byteAt s 4 - 30) (by omega), w64_in (by omega)]
  omega
theorem sE_size {s : ByteArray} (H : (s.size : Int) = 35 + byteAt s 4) (k : Int) (hk : 0 ≤ k ∧ k ≤ 6) : 4 ≤ (sE s k).size := by
  have hb := byteAt_in s 4
  unfold sE
  rw [ByteArray.size_extract, sAt_eq H k hk]
  omega
theorem sNum_eq {s : ByteArray} (H : (s.size : Int) = 35 + byteAt s 4) (k : Nat) (hk : k ≤ 6) : sNum s (k : Int) = ldN s k := by
  have hb := byteAt_in s 4
  have hA := sAt_eq H (k : Int) (by omega)
  have hP : (sAt s (k : Int)).toNat = ldP s k := by rw [hA]; unfold ldP; omega
  have g : ∀ i, i < 4 → byteAt (sE s (k : Int)) i = byteAt s (ldP s k + i) := fun i hi => by
    unfold sE
    rw [hP]
    have hs : (s.size : Int).toNat = s.size := Int.toNat_natCast _
    rw [hs]
    refine byteAt_extract s _ _ i ?_ (Nat.le_refl _)
    unfold ldP
    omega
  have h0 := byteAt_in s (ldP s k)
  have h1 := byteAt_in s (ldP s k + 1)
  have h2 := byteAt_in s (ldP s k + 2)
  have h3 := byteAt_in s (ldP s k + 3)
  have g0 : byteAt (sE s (k : Int)) (Int.toNat 0) = byteAt s (ldP s k) := g 0 (by omega)
  have g1 : byteAt (sE s (k : Int)) (Int.toNat 1) = byteAt s (ldP s k + 1) := g 1 (by omega)
  have g2 : byteAt (sE s (k : Int)) (Int.toNat 2) = byteAt s (ldP s k + 2) := g 2 (by omega)
  have g3 : byteAt (sE s (k : Int)) (Int.toNat 3) = byteAt s (ldP s k + 3) := g 3 (by omega)
  unfold sNum ldN
  rw [g0, g1, g2, g3]
  generalize byteAt s (ldP s k) = b0 at *
  generalize byteAt s (ldP s k + 1) = b1 at *
  generalize byteAt s (ldP s k + 2) = b2 at *
  generalize byteAt s (ldP s k + 3) = b3 at *
  rw [w64_in (n := b0) (by omega), w64_in (n := b1) (by omega), w64_in (n := b2) (by omega), w64_in (n := b3) (by omega), w64_in (n := 256 * b1) (by omega), w64_in (n := 65536 * b2) (by omega), w64_in (n := 16777216 * b3) (by omega),
    w64_in (n := b0 + 256 * b1) (by omega), w64_in (n := b0 + 256 * b1 + 65536 * b2) (by omega), w64_in (n := b0 + 256 * b1 + 65536 * b2 + 16777216 * b3) (by omega), w32_in (by omega) (by omega)]
theorem iAt_eq (s : ByteArray) (k : Int) (hk : 0 ≤ k ∧ k ≤ 6) : iAt s k = 5 + byteAt s 4 + 4 * k := by
  have hb := byteAt_in s 4
  unfold iAt
  have e : (Int.toNat 4) = 4 := rfl
  rw [e, w64_in (n := byteAt s 4) (by omega), w64_in (n := 4 * k) (by omega), w64_in (n := 5 + byteAt s 4) (by omega), w64_in (by omega)]
theorem iNum_eq (s : ByteArray) (k : Nat) (hk : k ≤ 6) : iNum s (k : Int) = ldN s k := by
  have hb := byteAt_in s 4
  have hA := iAt_eq s (k : Int) (by omega)
  have hP : (iAt s (k : Int)).toNat = ldP s k := by rw [hA]; unfold ldP; omega
  have hQ : ∀ i : Nat, i < 4 → (w64 (iAt s (k : Int) + (i : Int))).toNat = ldP s k + i := fun i hi => by
    rw [hA, w64_in (by omega)]; unfold ldP; omega
  have g1 : (w64 (iAt s (k : Int) + 1)).toNat = ldP s k + 1 := hQ 1 (by omega)
  have g2 : (w64 (iAt s (k : Int) + 2)).toNat = ldP s k + 2 := hQ 2 (by omega)
  have g3 : (w64 (iAt s (k : Int) + 3)).toNat = ldP s k + 3 := hQ 3 (by omega)
  have h0 := byteAt_in s (ldP s k)
  have h1 := byteAt_in s (ldP s k + 1)
  have h2 := byteAt_in s (ldP s k + 2)
  have h3 := byteAt_in s (ldP s k + 3)
  have p1 : (2 : Int) ^ min (Int.toNat 8) IntKind.u32.bits = 256 := by decide
  have p2 : (2 : Int) ^ min (Int.toNat 16) IntKind.u32.bits = 65536 := by decide
  have p3 : (2 : Int) ^ min (Int.toNat 24) IntKind.u32.bits = 16777216 := by decide
  unfold iNum ldN
  rw [hP, g1, g2, g3, p1, p2, p3]
  generalize byteAt s (ldP s k) = b0 at *
  generalize byteAt s (ldP s k + 1) = b1 at *
  generalize byteAt s (ldP s k + 2) = b2 at *
  generalize byteAt s (ldP s k + 3) = b3 at *
  rw [w32_in (n := b0) (by omega) (by omega), w32_in (n := b1) (by omega) (by omega), w32_in (n := b2) (by omega) (by omega), w32_in (n := b3) (by omega) (by omega), w32_in (n := b1 * 256) (by omega) (by omega), w32_in (n := b2 * 65536) (by omega) (by omega), w32_in (n := b3 * 16777216) (by omega) (by omega)]
  rw [or_add (a := b0) (b := b1 * 256) 8 (by omega) (by omega) b1.toNat (by omega) (by omega) (by omega),
    or_add (a := b0 + b1 * 256) (b := b2 * 65536) 16 (by omega) (by omega) b2.toNat (by omega) (by omega) (by omega),
    or_add (a := b0 + b1 * 256 + b2 * 65536) (b := b3 * 16777216) 24 (by omega) (by omega) b3.toNat (by omega) (by omega) (by omega)]
  omega

end Go.Proofs.Ytdmcpgbnomhahaa
