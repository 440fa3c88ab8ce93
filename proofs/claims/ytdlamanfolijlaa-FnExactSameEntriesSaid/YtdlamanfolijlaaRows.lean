/-
  No cell of these rows narrows 'for every input' (looked for: loops, veiled, ifaces, maps, wideKeys, modest, calm, conditions, laid).
  DERIVED. THE GIVEN ROWS OF THIS SEAT. 12 by the template 'for every input the law returns true; each argument reads behind the call as it read before'; 0 by the template 'total and deterministic' (their statements: YtdlamanfolijlaaTotals.lean).
  GIVEN WITH THE SEED: the statements are not yours to turn. If you find one false, say at which input.
  Laid BY PROGRAM, IN A SANDBOX (cutbox-rows.mjs): the forced cells as the released guide's own fill.sh prints them over the translation 6a6e7445583513ae… (all of the seat's roots in one cut). By AI agents, Wed Nov 11 2026. No macro, syntax, notation, axiom, sorry.
-/
import Derived.Test.YtdlamanfolijlaaChecked
import GoSem.Claim
import GoSem.ClaimJoined
import GoSem.ClaimMapViews
import Derived.JoinedTies
import Derived.KernelRfl
namespace Go.Proofs.Ytdlamanfolijlaa
/- THE CELL 'sum', in the pinned program and in every row, IS THE sha256 OF THE DUMP (.gsa) THAT YtdlamanfolijlaaProg.lean LOADS. Nothing in Lean hashes anything: it is a label: what it is worth is what the hold of that sum in a sandbox is worth. -/
noncomputable def Try.pinned : Pinned := { name := "ytdlamanfolijlaa", sum := "6a6e7445583513ae92637d324f8432117f0dc67483a8e0f0a7937b168e3d09b0", checked := Try.checked }
namespace Rows
def none {H : Type} : Left H := { results := [], args := [] }

/-- 'laws.FnExactRisesIn': WHATEVER THE INPUT: true; the input reads as it did. -/
def fnExactRisesInSpec : ChangeSpec := { name := "fnExactRisesIn", fn := fun _ => fun
  | [d] => { results := [.lit (.bool true)], args := [d] }
  | _ => none }
def fnExactRisesInRow : OpenClaim := { program := "ytdlamanfolijlaa", sum := "6a6e7445583513ae92637d324f8432117f0dc67483a8e0f0a7937b168e3d09b0", func := "loop.example/g01284/laws.FnExactRisesIn", spec := "fnExactRisesIn", apart := false }
def FnExactRisesInSaid : Prop := fnExactRisesInRow.holds Try.pinned (OpenSpec.ofChange fnExactRisesInSpec)

/-- ITS FALSE NEIGHBOUR: 'it returns false'. Refute it at one input. -/
def fnExactRisesInWrong : ChangeSpec := { name := "fnExactRisesIn", fn := fun _ => fun
  | [d] => { results := [.lit (.bool false)], args := [d] }
  | _ => none }
def FnExactRisesInWrongFalsely : Prop := fnExactRisesInRow.holds Try.pinned (OpenSpec.ofChange fnExactRisesInWrong)

/-- 'laws.FnExactSetsIn': WHATEVER THE INPUT: true; the input reads as it did. -/
def fnExactSetsInSpec : ChangeSpec := { name := "fnExactSetsIn", fn := fun _ => fun
  | [d] => { results := [.lit (.bool true)], args := [d] }
  | _ => none }
def fnExactSetsInRow : OpenClaim := { program := "ytdlamanfolijlaa", sum := "6a6e7445583513ae92637d324f8432117f0dc67483a8e0f0a7937b168e3d09b0", func := "loop.example/g01284/laws.FnExactSetsIn", spec := "fnExactSetsIn", apart := false }
def FnExactSetsInSaid : Prop := fnExactSetsInRow.holds Try.pinned (OpenSpec.ofChange fnExactSetsInSpec)

/-- ITS FALSE NEIGHBOUR: 'it returns false'. Refute it at one input. -/
def fnExactSetsInWrong : ChangeSpec := { name := "fnExactSetsIn", fn := fun _ => fun
  | [d] => { results := [.lit (.bool false)], args := [d] }
  | _ => none }
def FnExactSetsInWrongFalsely : Prop := fnExactSetsInRow.holds Try.pinned (OpenSpec.ofChange fnExactSetsInWrong)

/-- 'laws.FnExactValidEntry': WHATEVER THE INPUT: true; the input reads as it did. -/
def fnExactValidEntrySpec : ChangeSpec := { name := "fnExactValidEntry", fn := fun _ => fun
  | [d] => { results := [.lit (.bool true)], args := [d] }
  | _ => none }
def fnExactValidEntryRow : OpenClaim := { program := "ytdlamanfolijlaa", sum := "6a6e7445583513ae92637d324f8432117f0dc67483a8e0f0a7937b168e3d09b0", func := "loop.example/g01284/laws.FnExactValidEntry", spec := "fnExactValidEntry", inPlace := ["math.Float64bits", "math.Float64frombits"], unfollowed := true, recurses := true, apart := false }
def FnExactValidEntrySaid : Prop := fnExactValidEntryRow.holds Try.pinned (OpenSpec.ofChange fnExactValidEntrySpec)

/-- ITS FALSE NEIGHBOUR: 'it returns false'. Refute it at one input. -/
def fnExactValidEntryWrong : ChangeSpec := { name := "fnExactValidEntry", fn := fun _ => fun
  | [d] => { results := [.lit (.bool false)], args := [d] }
  | _ => none }
def FnExactValidEntryWrongFalsely : Prop := fnExactValidEntryRow.holds Try.pinned (OpenSpec.ofChange fnExactValidEntryWrong)

/-- 'laws.FnExactSameEntries': WHATEVER THE INPUT: true; the input reads as it did. -/
def fnExactSameEntriesSpec : ChangeSpec := { name := "fnExactSameEntries", fn := fun _ => fun
  | [d1, d2] => { results := [.lit (.bool true)], args := [d1, d2] }
  | _ => none }
def fnExactSameEntriesRow : OpenClaim := { program := "ytdlamanfolijlaa", sum := "6a6e7445583513ae92637d324f8432117f0dc67483a8e0f0a7937b168e3d09b0", func := "loop.example/g01284/laws.FnExactSameEntries", spec := "fnExactSameEntries", inPlace := ["math.Float32bits", "math.Float64bits"], unfollowed := true, recurses := true, apart := false }
def FnExactSameEntriesSaid : Prop := fnExactSameEntriesRow.holds Try.pinned (OpenSpec.ofChange fnExactSameEntriesSpec)

/-- ITS FALSE NEIGHBOUR: 'it returns false'. Refute it at one input. -/
def fnExactSameEntriesWrong : ChangeSpec := { name := "fnExactSameEntries", fn := fun _ => fun
  | [d1, d2] => { results := [.lit (.bool false)], args := [d1, d2] }
  | _ => none }
def FnExactSameEntriesWrongFalsely : Prop := fnExactSameEntriesRow.holds Try.pinned (OpenSpec.ofChange fnExactSameEntriesWrong)

/-- 'laws.FnExactAreEntries': WHATEVER THE INPUT: true; the input reads as it did. -/
def fnExactAreEntriesSpec : ChangeSpec := { name := "fnExactAreEntries", fn := fun _ => fun
  | [d] => { results := [.lit (.bool true)], args := [d] }
  | _ => none }
def fnExactAreEntriesRow : OpenClaim := { program := "ytdlamanfolijlaa", sum := "6a6e7445583513ae92637d324f8432117f0dc67483a8e0f0a7937b168e3d09b0", func := "loop.example/g01284/laws.FnExactAreEntries", spec := "fnExactAreEntries", inPlace := ["math.Float64bits", "math.Float64frombits"], unfollowed := true, recurses := true, apart := false }
def FnExactAreEntriesSaid : Prop := fnExactAreEntriesRow.holds Try.pinned (OpenSpec.ofChange fnExactAreEntriesSpec)

/-- ITS FALSE NEIGHBOUR: 'it returns false'. Refute it at one input. -/
def fnExactAreEntriesWrong : ChangeSpec := { name := "fnExactAreEntries", fn := fun _ => fun
  | [d] => { results := [.lit (.bool false)], args := [d] }
  | _ => none }
def FnExactAreEntriesWrongFalsely : Prop := fnExactAreEntriesRow.holds Try.pinned (OpenSpec.ofChange fnExactAreEntriesWrong)

/-- 'laws.FnExactFindEntry': WHATEVER THE INPUT: true; the input reads as it did. -/
def fnExactFindEntrySpec : ChangeSpec := { name := "fnExactFindEntry", fn := fun _ => fun
  | [d1, d2] => { results := [.lit (.bool true)], args := [d1, d2] }
  | _ => none }
def fnExactFindEntryRow : OpenClaim := { program := "ytdlamanfolijlaa", sum := "6a6e7445583513ae92637d324f8432117f0dc67483a8e0f0a7937b168e3d09b0", func := "loop.example/g01284/laws.FnExactFindEntry", spec := "fnExactFindEntry", inPlace := ["math.Float64bits", "math.Float64frombits"], unfollowed := true, recurses := true, apart := false }
def FnExactFindEntrySaid : Prop := fnExactFindEntryRow.holds Try.pinned (OpenSpec.ofChange fnExactFindEntrySpec)

/-- ITS FALSE NEIGHBOUR: 'it returns false'. Refute it at one input. -/
def fnExactFindEntryWrong : ChangeSpec := { name := "fnExactFindEntry", fn := fun _ => fun
  | [d1, d2] => { results := [.lit (.bool false)], args := [d1, d2] }
  | _ => none }
def FnExactFindEntryWrongFalsely : Prop := fnExactFindEntryRow.holds Try.pinned (OpenSpec.ofChange fnExactFindEntryWrong)

/-- 'laws.FnExactStoreEntry': WHATEVER THE INPUT: true; the input reads as it did. -/
def fnExactStoreEntrySpec : ChangeSpec := { name := "fnExactStoreEntry", fn := fun _ => fun
  | [d] => { results := [.lit (.bool true)], args := [d] }
  | _ => none }
def fnExactStoreEntryRow : OpenClaim := { program := "ytdlamanfolijlaa", sum := "6a6e7445583513ae92637d324f8432117f0dc67483a8e0f0a7937b168e3d09b0", func := "loop.example/g01284/laws.FnExactStoreEntry", spec := "fnExactStoreEntry", inPlace := ["math.Float32bits", "math.Float64bits", "math.Float64frombits"], unfollowed := true, recurses := true, apart := false }
def FnExactStoreEntrySaid : Prop := fnExactStoreEntryRow.holds Try.pinned (OpenSpec.ofChange fnExactStoreEntrySpec)

/-- ITS FALSE NEIGHBOUR: 'it returns false'. Refute it at one input. -/
def fnExactStoreEntryWrong : ChangeSpec := { name := "fnExactStoreEntry", fn := fun _ => fun
  | [d] => { results := [.lit (.bool false)], args := [d] }
  | _ => none }
def FnExactStoreEntryWrongFalsely : Prop := fnExactStoreEntryRow.holds Try.pinned (OpenSpec.ofChange fnExactStoreEntryWrong)

/-- 'laws.FnExactLoadEntry': WHATEVER THE INPUT: true; the input reads as it did. -/
def fnExactLoadEntrySpec : ChangeSpec := { name := "fnExactLoadEntry", fn := fun _ => fun
  | [d] => { results := [.lit (.bool true)], args := [d] }
  | _ => none }
def fnExactLoadEntryRow : OpenClaim := { program := "ytdlamanfolijlaa", sum := "6a6e7445583513ae92637d324f8432117f0dc67483a8e0f0a7937b168e3d09b0", func := "loop.example/g01284/laws.FnExactLoadEntry", spec := "fnExactLoadEntry", inPlace := ["math.Float32frombits", "math.Float32bits", "math.Float64bits", "math.Float64frombits"], unfollowed := true, recurses := true, apart := false }
def FnExactLoadEntrySaid : Prop := fnExactLoadEntryRow.holds Try.pinned (OpenSpec.ofChange fnExactLoadEntrySpec)

/-- ITS FALSE NEIGHBOUR: 'it returns false'. Refute it at one input. -/
def fnExactLoadEntryWrong : ChangeSpec := { name := "fnExactLoadEntry", fn := fun _ => fun
  | [d] => { results := [.lit (.bool false)], args := [d] }
  | _ => none }
def FnExactLoadEntryWrongFalsely : Prop := fnExactLoadEntryRow.holds Try.pinned (OpenSpec.ofChange fnExactLoadEntryWrong)

/-- 'laws.FnExactStoreEntries': WHATEVER THE INPUT: true; the input reads as it did. -/
def fnExactStoreEntriesSpec : ChangeSpec := { name := "fnExactStoreEntries", fn := fun _ => fun
  | [d] => { results := [.lit (.bool true)], args := [d] }
  | _ => none }
def fnExactStoreEntriesRow : OpenClaim := { program := "ytdlamanfolijlaa", sum := "6a6e7445583513ae92637d324f8432117f0dc67483a8e0f0a7937b168e3d09b0", func := "loop.example/g01284/laws.FnExactStoreEntries", spec := "fnExactStoreEntries", inPlace := ["math.Float32bits", "math.Float64bits", "math.Float64frombits"], unfollowed := true, recurses := true, apart := false }
def FnExactStoreEntriesSaid : Prop := fnExactStoreEntriesRow.holds Try.pinned (OpenSpec.ofChange fnExactStoreEntriesSpec)

/-- ITS FALSE NEIGHBOUR: 'it returns false'. Refute it at one input. -/
def fnExactStoreEntriesWrong : ChangeSpec := { name := "fnExactStoreEntries", fn := fun _ => fun
  | [d] => { results := [.lit (.bool false)], args := [d] }
  | _ => none }
def FnExactStoreEntriesWrongFalsely : Prop := fnExactStoreEntriesRow.holds Try.pinned (OpenSpec.ofChange fnExactStoreEntriesWrong)

/-- 'laws.FnExactPutEntry': WHATEVER THE INPUT: true; the input reads as it did. -/
def fnExactPutEntrySpec : ChangeSpec := { name := "fnExactPutEntry", fn := fun _ => fun
  | [d1, d2] => { results := [.lit (.bool true)], args := [d1, d2] }
  | _ => none }
def fnExactPutEntryRow : OpenClaim := { program := "ytdlamanfolijlaa", sum := "6a6e7445583513ae92637d324f8432117f0dc67483a8e0f0a7937b168e3d09b0", func := "loop.example/g01284/laws.FnExactPutEntry", spec := "fnExactPutEntry", inPlace := ["math.Float64bits", "math.Float64frombits"], unfollowed := true, recurses := true, apart := false }
def FnExactPutEntrySaid : Prop := fnExactPutEntryRow.holds Try.pinned (OpenSpec.ofChange fnExactPutEntrySpec)

/-- ITS FALSE NEIGHBOUR: 'it returns false'. Refute it at one input. -/
def fnExactPutEntryWrong : ChangeSpec := { name := "fnExactPutEntry", fn := fun _ => fun
  | [d1, d2] => { results := [.lit (.bool false)], args := [d1, d2] }
  | _ => none }
def FnExactPutEntryWrongFalsely : Prop := fnExactPutEntryRow.holds Try.pinned (OpenSpec.ofChange fnExactPutEntryWrong)

/-- 'laws.FnExactDropEntry': WHATEVER THE INPUT: true; the input reads as it did. -/
def fnExactDropEntrySpec : ChangeSpec := { name := "fnExactDropEntry", fn := fun _ => fun
  | [d1, d2] => { results := [.lit (.bool true)], args := [d1, d2] }
  | _ => none }
def fnExactDropEntryRow : OpenClaim := { program := "ytdlamanfolijlaa", sum := "6a6e7445583513ae92637d324f8432117f0dc67483a8e0f0a7937b168e3d09b0", func := "loop.example/g01284/laws.FnExactDropEntry", spec := "fnExactDropEntry", inPlace := ["math.Float64bits", "math.Float64frombits"], unfollowed := true, recurses := true, apart := false }
def FnExactDropEntrySaid : Prop := fnExactDropEntryRow.holds Try.pinned (OpenSpec.ofChange fnExactDropEntrySpec)

/-- ITS FALSE NEIGHBOUR: 'it returns false'. Refute it at one input. -/
def fnExactDropEntryWrong : ChangeSpec := { name := "fnExactDropEntry", fn := fun _ => fun
  | [d1, d2] => { results := [.lit (.bool false)], args := [d1, d2] }
  | _ => none }
def FnExactDropEntryWrongFalsely : Prop := fnExactDropEntryRow.holds Try.pinned (OpenSpec.ofChange fnExactDropEntryWrong)

/-- 'laws.FnExactSolveSquare': WHATEVER THE INPUT: true; the input reads as it did. -/
def fnExactSolveSquareSpec : ChangeSpec := { name := "fnExactSolveSquare", fn := fun _ => fun
  | [d1, d2] => { results := [.lit (.bool true)], args := [d1, d2] }
  | _ => none }
def fnExactSolveSquareRow : OpenClaim := { program := "ytdlamanfolijlaa", sum := "6a6e7445583513ae92637d324f8432117f0dc67483a8e0f0a7937b168e3d09b0", func := "loop.example/g01284/laws.FnExactSolveSquare", spec := "fnExactSolveSquare", inPlace := ["math.Float64bits", "math.Float64frombits"], unfollowed := true, recurses := true, apart := false }
def FnExactSolveSquareSaid : Prop := fnExactSolveSquareRow.holds Try.pinned (OpenSpec.ofChange fnExactSolveSquareSpec)

/-- ITS FALSE NEIGHBOUR: 'it returns false'. Refute it at one input. -/
def fnExactSolveSquareWrong : ChangeSpec := { name := "fnExactSolveSquare", fn := fun _ => fun
  | [d1, d2] => { results := [.lit (.bool false)], args := [d1, d2] }
  | _ => none }
def FnExactSolveSquareWrongFalsely : Prop := fnExactSolveSquareRow.holds Try.pinned (OpenSpec.ofChange fnExactSolveSquareWrong)

/- THE SECOND FORM. 'bulk': how many values and letters a reading holds, each counted each time it is reached (what is shared counts as often as it is met; a slice's spare places count too). A statement '..UptoSaid' is the law's where the arguments, and the package variables that the reading takes, are together of bulk at most 1048576: NARROWER than '..Said'. Prove '..Said' where nothing that the law and all that it calls make is longer than what came in: it says more and counts as full. Else prove '..UptoSaid'. A law counts once. -/
mutual
def uptoBulk {H : Type} : DataW H → Nat
  | .lit (.string bytes) => bytes.length + 1
  | .lit _ => 1
  | .nil => 1
  | .ptr d => uptoBulk d + 1
  | .slice elems spare => uptoBulkAll elems + uptoBulkAll spare + 1
  | .agg parts => uptoBulkAll parts + 1
  | .iface _ d => uptoBulk d + 1
  | .map entries => uptoBulkEntries entries + 1
  | .held _ => 1
def uptoBulkAll {H : Type} : List (DataW H) → Nat
  | [] => 0
  | d :: r => uptoBulk d + uptoBulkAll r
def uptoBulkEntries {H : Type} : List (Lit × DataW H) → Nat
  | [] => 0
  | x :: r => uptoBulkEntry x + uptoBulkEntries r
def uptoBulkEntry {H : Type} : Lit × DataW H → Nat
  | (.string bytes, d) => bytes.length + uptoBulk d + 1
  | (_, d) => uptoBulk d + 1
 end
def uptoSmall : (H : Type) → List (DataW H) → Bool := fun _ ds => decide (uptoBulkAll ds ≤ 1048576)
def OpenSpec.upto (s : _root_.Go.ChangeSpec) : _root_.Go.OpenSpec := { _root_.Go.OpenSpec.ofChange s with cond := some uptoSmall }

/-- 'laws.FnExactRisesIn', WHERE WHAT IT READS IS OF BULK AT MOST 1048576: true; the input reads as it did. -/
def fnExactRisesInUptoRow : OpenClaim := { program := "ytdlamanfolijlaa", sum := "6a6e7445583513ae92637d324f8432117f0dc67483a8e0f0a7937b168e3d09b0", func := "loop.example/g01284/laws.FnExactRisesIn", spec := "fnExactRisesIn", apart := false, narrowed := true }
def FnExactRisesInUptoSaid : Prop := fnExactRisesInUptoRow.holds Try.pinned (OpenSpec.upto fnExactRisesInSpec)

/-- 'laws.FnExactSetsIn', WHERE WHAT IT READS IS OF BULK AT MOST 1048576: true; the input reads as it did. -/
def fnExactSetsInUptoRow : OpenClaim := { program := "ytdlamanfolijlaa", sum := "6a6e7445583513ae92637d324f8432117f0dc67483a8e0f0a7937b168e3d09b0", func := "loop.example/g01284/laws.FnExactSetsIn", spec := "fnExactSetsIn", apart := false, narrowed := true }
def FnExactSetsInUptoSaid : Prop := fnExactSetsInUptoRow.holds Try.pinned (OpenSpec.upto fnExactSetsInSpec)

/-- 'laws.FnExactValidEntry', WHERE WHAT IT READS IS OF BULK AT MOST 1048576: true; the input reads as it did. -/
def fnExactValidEntryUptoRow : OpenClaim := { program := "ytdlamanfolijlaa", sum := "6a6e7445583513ae92637d324f8432117f0dc67483a8e0f0a7937b168e3d09b0", func := "loop.example/g01284/laws.FnExactValidEntry", spec := "fnExactValidEntry", inPlace := ["math.Float64bits", "math.Float64frombits"], unfollowed := true, recurses := true, apart := false, narrowed := true }
def FnExactValidEntryUptoSaid : Prop := fnExactValidEntryUptoRow.holds Try.pinned (OpenSpec.upto fnExactValidEntrySpec)

/-- 'laws.FnExactSameEntries', WHERE WHAT IT READS IS OF BULK AT MOST 1048576: true; the input reads as it did. -/
def fnExactSameEntriesUptoRow : OpenClaim := { program := "ytdlamanfolijlaa", sum := "6a6e7445583513ae92637d324f8432117f0dc67483a8e0f0a7937b168e3d09b0", func := "loop.example/g01284/laws.FnExactSameEntries", spec := "fnExactSameEntries", inPlace := ["math.Float32bits", "math.Float64bits"], unfollowed := true, recurses := true, apart := false, narrowed := true }
def FnExactSameEntriesUptoSaid : Prop := fnExactSameEntriesUptoRow.holds Try.pinned (OpenSpec.upto fnExactSameEntriesSpec)

/-- 'laws.FnExactAreEntries', WHERE WHAT IT READS IS OF BULK AT MOST 1048576: true; the input reads as it did. -/
def fnExactAreEntriesUptoRow : OpenClaim := { program := "ytdlamanfolijlaa", sum := "6a6e7445583513ae92637d324f8432117f0dc67483a8e0f0a7937b168e3d09b0", func := "loop.example/g01284/laws.FnExactAreEntries", spec := "fnExactAreEntries", inPlace := ["math.Float64bits", "math.Float64frombits"], unfollowed := true, recurses := true, apart := false, narrowed := true }
def FnExactAreEntriesUptoSaid : Prop := fnExactAreEntriesUptoRow.holds Try.pinned (OpenSpec.upto fnExactAreEntriesSpec)

/-- 'laws.FnExactFindEntry', WHERE WHAT IT READS IS OF BULK AT MOST 1048576: true; the input reads as it did. -/
def fnExactFindEntryUptoRow : OpenClaim := { program := "ytdlamanfolijlaa", sum := "6a6e7445583513ae92637d324f8432117f0dc67483a8e0f0a7937b168e3d09b0", func := "loop.example/g01284/laws.FnExactFindEntry", spec := "fnExactFindEntry", inPlace := ["math.Float64bits", "math.Float64frombits"], unfollowed := true, recurses := true, apart := false, narrowed := true }
def FnExactFindEntryUptoSaid : Prop := fnExactFindEntryUptoRow.holds Try.pinned (OpenSpec.upto fnExactFindEntrySpec)

/-- 'laws.FnExactStoreEntry', WHERE WHAT IT READS IS OF BULK AT MOST 1048576: true; the input reads as it did. -/
def fnExactStoreEntryUptoRow : OpenClaim := { program := "ytdlamanfolijlaa", sum := "6a6e7445583513ae92637d324f8432117f0dc67483a8e0f0a7937b168e3d09b0", func := "loop.example/g01284/laws.FnExactStoreEntry", spec := "fnExactStoreEntry", inPlace := ["math.Float32bits", "math.Float64bits", "math.Float64frombits"], unfollowed := true, recurses := true, apart := false, narrowed := true }
def FnExactStoreEntryUptoSaid : Prop := fnExactStoreEntryUptoRow.holds Try.pinned (OpenSpec.upto fnExactStoreEntrySpec)

/-- 'laws.FnExactLoadEntry', WHERE WHAT IT READS IS OF BULK AT MOST 1048576: true; the input reads as it did. -/
def fnExactLoadEntryUptoRow : OpenClaim := { program := "ytdlamanfolijlaa", sum := "6a6e7445583513ae92637d324f8432117f0dc67483a8e0f0a7937b168e3d09b0", func := "loop.example/g01284/laws.FnExactLoadEntry", spec := "fnExactLoadEntry", inPlace := ["math.Float32frombits", "math.Float32bits", "math.Float64bits", "math.Float64frombits"], unfollowed := true, recurses := true, apart := false, narrowed := true }
def FnExactLoadEntryUptoSaid : Prop := fnExactLoadEntryUptoRow.holds Try.pinned (OpenSpec.upto fnExactLoadEntrySpec)

/-- 'laws.FnExactStoreEntries', WHERE WHAT IT READS IS OF BULK AT MOST 1048576: true; the input reads as it did. -/
def fnExactStoreEntriesUptoRow : OpenClaim := { program := "ytdlamanfolijlaa", sum := "6a6e7445583513ae92637d324f8432117f0dc67483a8e0f0a7937b168e3d09b0", func := "loop.example/g01284/laws.FnExactStoreEntries", spec := "fnExactStoreEntries", inPlace := ["math.Float32bits", "math.Float64bits", "math.Float64frombits"], unfollowed := true, recurses := true, apart := false, narrowed := true }
def FnExactStoreEntriesUptoSaid : Prop := fnExactStoreEntriesUptoRow.holds Try.pinned (OpenSpec.upto fnExactStoreEntriesSpec)

/-- 'laws.FnExactPutEntry', WHERE WHAT IT READS IS OF BULK AT MOST 1048576: true; the input reads as it did. -/
def fnExactPutEntryUptoRow : OpenClaim := { program := "ytdlamanfolijlaa", sum := "6a6e7445583513ae92637d324f8432117f0dc67483a8e0f0a7937b168e3d09b0", func := "loop.example/g01284/laws.FnExactPutEntry", spec := "fnExactPutEntry", inPlace := ["math.Float64bits", "math.Float64frombits"], unfollowed := true, recurses := true, apart := false, narrowed := true }
def FnExactPutEntryUptoSaid : Prop := fnExactPutEntryUptoRow.holds Try.pinned (OpenSpec.upto fnExactPutEntrySpec)

/-- 'laws.FnExactDropEntry', WHERE WHAT IT READS IS OF BULK AT MOST 1048576: true; the input reads as it did. -/
def fnExactDropEntryUptoRow : OpenClaim := { program := "ytdlamanfolijlaa", sum := "6a6e7445583513ae92637d324f8432117f0dc67483a8e0f0a7937b168e3d09b0", func := "loop.example/g01284/laws.FnExactDropEntry", spec := "fnExactDropEntry", inPlace := ["math.Float64bits", "math.Float64frombits"], unfollowed := true, recurses := true, apart := false, narrowed := true }
def FnExactDropEntryUptoSaid : Prop := fnExactDropEntryUptoRow.holds Try.pinned (OpenSpec.upto fnExactDropEntrySpec)

/-- 'laws.FnExactSolveSquare', WHERE WHAT IT READS IS OF BULK AT MOST 1048576: true; the input reads as it did. -/
def fnExactSolveSquareUptoRow : OpenClaim := { program := "ytdlamanfolijlaa", sum := "6a6e7445583513ae92637d324f8432117f0dc67483a8e0f0a7937b168e3d09b0", func := "loop.example/g01284/laws.FnExactSolveSquare", spec := "fnExactSolveSquare", inPlace := ["math.Float64bits", "math.Float64frombits"], unfollowed := true, recurses := true, apart := false, narrowed := true }
def FnExactSolveSquareUptoSaid : Prop := fnExactSolveSquareUptoRow.holds Try.pinned (OpenSpec.upto fnExactSolveSquareSpec)

end Rows
end Go.Proofs.Ytdlamanfolijlaa
