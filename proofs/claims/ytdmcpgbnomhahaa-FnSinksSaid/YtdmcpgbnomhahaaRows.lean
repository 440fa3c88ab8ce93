/-
  No cell of these rows narrows 'for every input' (looked for: loops, veiled, ifaces, maps, wideKeys, modest, calm, conditions, laid).
  DERIVED. THE GIVEN ROWS OF THIS SEAT. 6 by the template 'for every input the law returns true; each argument reads behind the call as it read before'; 0 by the template 'total and deterministic' (their statements: YtdmcpgbnomhahaaTotals.lean).
  GIVEN WITH THE SEED: the statements are not yours to turn. If you find one false, say at which input.
  Laid BY PROGRAM, IN A SANDBOX (cutbox-rows.mjs): the forced cells as the released guide's own fill.sh prints them over the translation 20739190cedf13bd… (all of the seat's roots in one cut). By AI agents, Wed Nov 11 2026. No macro, syntax, notation, axiom, sorry.
-/
import Derived.Test.YtdmcpgbnomhahaaChecked
import GoSem.Claim
import GoSem.ClaimJoined
import GoSem.ClaimMapViews
import Derived.JoinedTies
import Derived.KernelRfl
namespace Go.Proofs.Ytdmcpgbnomhahaa
/- THE CELL 'sum', in the pinned program and in every row, IS THE sha256 OF THE DUMP (.gsa) THAT YtdmcpgbnomhahaaProg.lean LOADS. Nothing in Lean hashes anything: it is a label: what it is worth is what the hold of that sum in a sandbox is worth. -/
noncomputable def Try.pinned : Pinned := { name := "ytdmcpgbnomhahaa", sum := "20739190cedf13bdc6d74f9ab6ce28070d520926114655fa936f97020596063d", checked := Try.checked }
namespace Rows
def none {H : Type} : Left H := { results := [], args := [] }

/-- 'laws.FnExactStoreEntry': WHATEVER THE INPUT: true; the input reads as it did. -/
def fnExactStoreEntrySpec : ChangeSpec := { name := "fnExactStoreEntry", fn := fun _ => fun
  | [d] => { results := [.lit (.bool true)], args := [d] }
  | _ => none }
def fnExactStoreEntryRow : OpenClaim := { program := "ytdmcpgbnomhahaa", sum := "20739190cedf13bdc6d74f9ab6ce28070d520926114655fa936f97020596063d", func := "loop.example/g01284/laws.FnExactStoreEntry", spec := "fnExactStoreEntry", inPlace := ["math.Float32bits", "math.Float64bits", "math.Float64frombits"], unfollowed := true, recurses := true, apart := false }
def FnExactStoreEntrySaid : Prop := fnExactStoreEntryRow.holds Try.pinned (OpenSpec.ofChange fnExactStoreEntrySpec)

/-- ITS FALSE NEIGHBOUR: 'it returns false'. Refute it at one input. -/
def fnExactStoreEntryWrong : ChangeSpec := { name := "fnExactStoreEntry", fn := fun _ => fun
  | [d] => { results := [.lit (.bool false)], args := [d] }
  | _ => none }
def FnExactStoreEntryWrongFalsely : Prop := fnExactStoreEntryRow.holds Try.pinned (OpenSpec.ofChange fnExactStoreEntryWrong)

/-- 'laws.FnExactLoadEntry': WHATEVER THE INPUT: true; the input reads as it did. -/
def fnExactLoadEntrySpec : ChangeSpec := { name := "fnExactLoadEntry", fn := fun _ => fun
  | [d] => { results := [.lit (.bool true)], args := [d] }
  | _ => none }
def fnExactLoadEntryRow : OpenClaim := { program := "ytdmcpgbnomhahaa", sum := "20739190cedf13bdc6d74f9ab6ce28070d520926114655fa936f97020596063d", func := "loop.example/g01284/laws.FnExactLoadEntry", spec := "fnExactLoadEntry", inPlace := ["math.Float32frombits", "math.Float32bits", "math.Float64bits", "math.Float64frombits"], unfollowed := true, recurses := true, apart := false }
def FnExactLoadEntrySaid : Prop := fnExactLoadEntryRow.holds Try.pinned (OpenSpec.ofChange fnExactLoadEntrySpec)

/-- ITS FALSE NEIGHBOUR: 'it returns false'. Refute it at one input. -/
def fnExactLoadEntryWrong : ChangeSpec := { name := "fnExactLoadEntry", fn := fun _ => fun
  | [d] => { results := [.lit (.bool false)], args := [d] }
  | _ => none }
def FnExactLoadEntryWrongFalsely : Prop := fnExactLoadEntryRow.holds Try.pinned (OpenSpec.ofChange fnExactLoadEntryWrong)

/-- 'laws.FnExactStoreEntries': WHATEVER THE INPUT: true; the input reads as it did. -/
def fnExactStoreEntriesSpec : ChangeSpec := { name := "fnExactStoreEntries", fn := fun _ => fun
  | [d] => { results := [.lit (.bool true)], args := [d] }
  | _ => none }
def fnExactStoreEntriesRow : OpenClaim := { program := "ytdmcpgbnomhahaa", sum := "20739190cedf13bdc6d74f9ab6ce28070d520926114655fa936f97020596063d", func := "loop.example/g01284/laws.FnExactStoreEntries", spec := "fnExactStoreEntries", inPlace := ["math.Float32bits", "math.Float64bits", "math.Float64frombits"], unfollowed := true, recurses := true, apart := false }
def FnExactStoreEntriesSaid : Prop := fnExactStoreEntriesRow.holds Try.pinned (OpenSpec.ofChange fnExactStoreEntriesSpec)

/-- ITS FALSE NEIGHBOUR: 'it returns false'. Refute it at one input. -/
def fnExactStoreEntriesWrong : ChangeSpec := { name := "fnExactStoreEntries", fn := fun _ => fun
  | [d] => { results := [.lit (.bool false)], args := [d] }
  | _ => none }
def FnExactStoreEntriesWrongFalsely : Prop := fnExactStoreEntriesRow.holds Try.pinned (OpenSpec.ofChange fnExactStoreEntriesWrong)

/-- 'laws.FnExactSinkLong': WHATEVER THE INPUT: true; the input reads as it did. -/
def fnExactSinkLongSpec : ChangeSpec := { name := "fnExactSinkLong", fn := fun _ => fun
  | [d1, d2, d3, d4, d5, d6] => { results := [.lit (.bool true)], args := [d1, d2, d3, d4, d5, d6] }
  | _ => none }
def fnExactSinkLongRow : OpenClaim := { program := "ytdmcpgbnomhahaa", sum := "20739190cedf13bdc6d74f9ab6ce28070d520926114655fa936f97020596063d", func := "loop.example/g01284/laws.FnExactSinkLong", spec := "fnExactSinkLong", inPlace := ["math.Float64frombits", "math.sqrt", "math.Float64bits"], unfollowed := true, recurses := true, apart := false }
def FnExactSinkLongSaid : Prop := fnExactSinkLongRow.holds Try.pinned (OpenSpec.ofChange fnExactSinkLongSpec)

/-- ITS FALSE NEIGHBOUR: 'it returns false'. Refute it at one input. -/
def fnExactSinkLongWrong : ChangeSpec := { name := "fnExactSinkLong", fn := fun _ => fun
  | [d1, d2, d3, d4, d5, d6] => { results := [.lit (.bool false)], args := [d1, d2, d3, d4, d5, d6] }
  | _ => none }
def FnExactSinkLongWrongFalsely : Prop := fnExactSinkLongRow.holds Try.pinned (OpenSpec.ofChange fnExactSinkLongWrong)

/-- 'laws.FnExactSolveSquare': WHATEVER THE INPUT: true; the input reads as it did. -/
def fnExactSolveSquareSpec : ChangeSpec := { name := "fnExactSolveSquare", fn := fun _ => fun
  | [d1, d2] => { results := [.lit (.bool true)], args := [d1, d2] }
  | _ => none }
def fnExactSolveSquareRow : OpenClaim := { program := "ytdmcpgbnomhahaa", sum := "20739190cedf13bdc6d74f9ab6ce28070d520926114655fa936f97020596063d", func := "loop.example/g01284/laws.FnExactSolveSquare", spec := "fnExactSolveSquare", inPlace := ["math.Float64bits", "math.Float64frombits"], unfollowed := true, recurses := true, apart := false }
def FnExactSolveSquareSaid : Prop := fnExactSolveSquareRow.holds Try.pinned (OpenSpec.ofChange fnExactSolveSquareSpec)

/-- ITS FALSE NEIGHBOUR: 'it returns false'. Refute it at one input. -/
def fnExactSolveSquareWrong : ChangeSpec := { name := "fnExactSolveSquare", fn := fun _ => fun
  | [d1, d2] => { results := [.lit (.bool false)], args := [d1, d2] }
  | _ => none }
def FnExactSolveSquareWrongFalsely : Prop := fnExactSolveSquareRow.holds Try.pinned (OpenSpec.ofChange fnExactSolveSquareWrong)

/-- 'laws.FnSinks': WHATEVER THE INPUT: true; the input reads as it did. -/
def fnSinksSpec : ChangeSpec := { name := "fnSinks", fn := fun _ => fun
  | [d1, d2] => { results := [.lit (.bool true)], args := [d1, d2] }
  | _ => none }
def fnSinksRow : OpenClaim := { program := "ytdmcpgbnomhahaa", sum := "20739190cedf13bdc6d74f9ab6ce28070d520926114655fa936f97020596063d", func := "loop.example/g01284/laws.FnSinks", spec := "fnSinks", inPlace := ["math.Float64bits", "math.Float64frombits", "math.sqrt"], unfollowed := true, recurses := true, apart := false }
def FnSinksSaid : Prop := fnSinksRow.holds Try.pinned (OpenSpec.ofChange fnSinksSpec)

/-- ITS FALSE NEIGHBOUR: 'it returns false'. Refute it at one input. -/
def fnSinksWrong : ChangeSpec := { name := "fnSinks", fn := fun _ => fun
  | [d1, d2] => { results := [.lit (.bool false)], args := [d1, d2] }
  | _ => none }
def FnSinksWrongFalsely : Prop := fnSinksRow.holds Try.pinned (OpenSpec.ofChange fnSinksWrong)

/- THE SECOND FORM. 'bulk': how many values and letters a reading holds, each counted each time it is reached (what is shared counts as often as it is met; a slice's spare places count too). A statement '..UptoSaid' is the law's where the arguments, and the package variables that the reading takes, are together of bulk at most 1048576: NARROWER than '..Said'. Prove '..Said' where nothing that the law and all that it calls make is longer than what came in: it says more and counts as full. Else prove '..UptoSaid'. A law counts once. -/
mutual
def uptoBulk {H : Type} : DataW H → Nat
  | .lit (.string bytes) => bytes.length + 1
  | .lit _ => 1
  | .nil => 1
  | .ptr d => uptoBulk d + 1
  | .slice elems spare => uptoBulkAll elems + uptoBulkAll spare + 1
  | .agg parts => uptoBulkAll parts + 1
  | .iface _ d => uptoBulk d + 1
  | .map entries => uptoBulkEntries entries + 1
  | .held _ => 1
def uptoBulkAll {H : Type} : List (DataW H) → Nat
  | [] => 0
  | d :: r => uptoBulk d + uptoBulkAll r
def uptoBulkEntries {H : Type} : List (Lit × DataW H) → Nat
  | [] => 0
  | x :: r => uptoBulkEntry x + uptoBulkEntries r
def uptoBulkEntry {H : Type} : Lit × DataW H → Nat
  | (.string bytes, d) => bytes.length + uptoBulk d + 1
  | (_, d) => uptoBulk d + 1
 end
def uptoSmall : (H : Type) → List (DataW H) → Bool := fun _ ds => decide (uptoBulkAll ds ≤ 1048576)
def OpenSpec.upto (s : _root_.Go.ChangeSpec) : _root_.Go.OpenSpec := { _root_.Go.OpenSpec.ofChange s with cond := some uptoSmall }

/-- 'laws.FnExactStoreEntry', WHERE WHAT IT READS IS OF BULK AT MOST 1048576: true; the input reads as it did. -/
def fnExactStoreEntryUptoRow : OpenClaim := { program := "ytdmcpgbnomhahaa", sum := "20739190cedf13bdc6d74f9ab6ce28070d520926114655fa936f97020596063d", func := "loop.example/g01284/laws.FnExactStoreEntry", spec := "fnExactStoreEntry", inPlace := ["math.Float32bits", "math.Float64bits", "math.Float64frombits"], unfollowed := true, recurses := true, apart := false, narrowed := true }
def FnExactStoreEntryUptoSaid : Prop := fnExactStoreEntryUptoRow.holds Try.pinned (OpenSpec.upto fnExactStoreEntrySpec)

/-- 'laws.FnExactLoadEntry', WHERE WHAT IT READS IS OF BULK AT MOST 1048576: true; the input reads as it did. -/
def fnExactLoadEntryUptoRow : OpenClaim := { program := "ytdmcpgbnomhahaa", sum := "20739190cedf13bdc6d74f9ab6ce28070d520926114655fa936f97020596063d", func := "loop.example/g01284/laws.FnExactLoadEntry", spec := "fnExactLoadEntry", inPlace := ["math.Float32frombits", "math.Float32bits", "math.Float64bits", "math.Float64frombits"], unfollowed := true, recurses := true, apart := false, narrowed := true }
def FnExactLoadEntryUptoSaid : Prop := fnExactLoadEntryUptoRow.holds Try.pinned (OpenSpec.upto fnExactLoadEntrySpec)

/-- 'laws.FnExactStoreEntries', WHERE WHAT IT READS IS OF BULK AT MOST 1048576: true; the input reads as it did. -/
def fnExactStoreEntriesUptoRow : OpenClaim := { program := "ytdmcpgbnomhahaa", sum := "20739190cedf13bdc6d74f9ab6ce28070d520926114655fa936f97020596063d", func := "loop.example/g01284/laws.FnExactStoreEntries", spec := "fnExactStoreEntries", inPlace := ["math.Float32bits", "math.Float64bits", "math.Float64frombits"], unfollowed := true, recurses := true, apart := false, narrowed := true }
def FnExactStoreEntriesUptoSaid : Prop := fnExactStoreEntriesUptoRow.holds Try.pinned (OpenSpec.upto fnExactStoreEntriesSpec)

/-- 'laws.FnExactSinkLong', WHERE WHAT IT READS IS OF BULK AT MOST 1048576: true; the input reads as it did. -/
def fnExactSinkLongUptoRow : OpenClaim := { program := "ytdmcpgbnomhahaa", sum := "20739190cedf13bdc6d74f9ab6ce28070d520926114655fa936f97020596063d", func := "loop.example/g01284/laws.FnExactSinkLong", spec := "fnExactSinkLong", inPlace := ["math.Float64frombits", "math.sqrt", "math.Float64bits"], unfollowed := true, recurses := true, apart := false, narrowed := true }
def FnExactSinkLongUptoSaid : Prop := fnExactSinkLongUptoRow.holds Try.pinned (OpenSpec.upto fnExactSinkLongSpec)

/-- 'laws.FnExactSolveSquare', WHERE WHAT IT READS IS OF BULK AT MOST 1048576: true; the input reads as it did. -/
def fnExactSolveSquareUptoRow : OpenClaim := { program := "ytdmcpgbnomhahaa", sum := "20739190cedf13bdc6d74f9ab6ce28070d520926114655fa936f97020596063d", func := "loop.example/g01284/laws.FnExactSolveSquare", spec := "fnExactSolveSquare", inPlace := ["math.Float64bits", "math.Float64frombits"], unfollowed := true, recurses := true, apart := false, narrowed := true }
def FnExactSolveSquareUptoSaid : Prop := fnExactSolveSquareUptoRow.holds Try.pinned (OpenSpec.upto fnExactSolveSquareSpec)

/-- 'laws.FnSinks', WHERE WHAT IT READS IS OF BULK AT MOST 1048576: true; the input reads as it did. -/
def fnSinksUptoRow : OpenClaim := { program := "ytdmcpgbnomhahaa", sum := "20739190cedf13bdc6d74f9ab6ce28070d520926114655fa936f97020596063d", func := "loop.example/g01284/laws.FnSinks", spec := "fnSinks", inPlace := ["math.Float64bits", "math.Float64frombits", "math.sqrt"], unfollowed := true, recurses := true, apart := false, narrowed := true }
def FnSinksUptoSaid : Prop := fnSinksUptoRow.holds Try.pinned (OpenSpec.upto fnSinksSpec)

end Rows
end Go.Proofs.Ytdmcpgbnomhahaa
