/-
  No cell of these rows narrows 'for every input' (looked for: loops, veiled, ifaces, maps, wideKeys, modest, calm, conditions, laid).
  DERIVED. THE GIVEN ROWS OF THIS SEAT. 6 by the template 'for every input the law returns true; each argument reads behind the call as it read before'; 0 by the template 'total and deterministic' (their statements: YtjaohecdhnhhbaaTotals.lean).
  GIVEN WITH THE SEED: the statements are not yours to turn. If you find one false, say at which input.
  Laid BY PROGRAM, IN A SANDBOX (cutbox-rows.mjs): the forced cells as the released guide's own fill.sh prints them over the translation f6353e24cb33e01a… (all of the seat's roots in one cut). By AI agents, Wed Nov 11 2026. No macro, syntax, notation, axiom, sorry.
-/
import Derived.Test.YtjaohecdhnhhbaaChecked
import GoSem.Claim
import GoSem.ClaimJoined
import GoSem.ClaimMapViews
import Derived.JoinedTies
import Derived.KernelRfl
namespace Go.Proofs.Ytjaohecdhnhhbaa
/- THE CELL 'sum', in the pinned program and in every row, IS THE sha256 OF THE DUMP (.gsa) THAT YtjaohecdhnhhbaaProg.lean LOADS. Nothing in Lean hashes anything: it is a label: what it is worth is what the hold of that sum in a sandbox is worth. -/
noncomputable def Try.pinned : Pinned := { name := "ytjaohecdhnhhbaa", sum := "f6353e24cb33e01adfb58dfe6a01f96b8f3dcc66ac77dc3865de09a8a1753088", checked := Try.checked }
namespace Rows
def none {H : Type} : Left H := { results := [], args := [] }

/-- 'laws.FnExactDropBody': WHATEVER THE INPUT: true; the input reads as it did. -/
def fnExactDropBodySpec : ChangeSpec := { name := "fnExactDropBody", fn := fun _ => fun
  | [d1, d2] => { results := [.lit (.bool true)], args := [d1, d2] }
  | _ => none }
def fnExactDropBodyRow : OpenClaim := { program := "ytjaohecdhnhhbaa", sum := "f6353e24cb33e01adfb58dfe6a01f96b8f3dcc66ac77dc3865de09a8a1753088", func := "loop.example/g01284/laws.FnExactDropBody", spec := "fnExactDropBody", inPlace := ["math.Float64bits", "math.Float64frombits"], unfollowed := true, recurses := true, apart := false }
def FnExactDropBodySaid : Prop := fnExactDropBodyRow.holds Try.pinned (OpenSpec.ofChange fnExactDropBodySpec)

/-- ITS FALSE NEIGHBOUR: 'it returns false'. Refute it at one input. -/
def fnExactDropBodyWrong : ChangeSpec := { name := "fnExactDropBody", fn := fun _ => fun
  | [d1, d2] => { results := [.lit (.bool false)], args := [d1, d2] }
  | _ => none }
def FnExactDropBodyWrongFalsely : Prop := fnExactDropBodyRow.holds Try.pinned (OpenSpec.ofChange fnExactDropBodyWrong)

/-- 'laws.FnExactDropEntry': WHATEVER THE INPUT: true; the input reads as it did. -/
def fnExactDropEntrySpec : ChangeSpec := { name := "fnExactDropEntry", fn := fun _ => fun
  | [d1, d2] => { results := [.lit (.bool true)], args := [d1, d2] }
  | _ => none }
def fnExactDropEntryRow : OpenClaim := { program := "ytjaohecdhnhhbaa", sum := "f6353e24cb33e01adfb58dfe6a01f96b8f3dcc66ac77dc3865de09a8a1753088", func := "loop.example/g01284/laws.FnExactDropEntry", spec := "fnExactDropEntry", inPlace := ["math.Float64bits", "math.Float64frombits"], unfollowed := true, recurses := true, apart := false }
def FnExactDropEntrySaid : Prop := fnExactDropEntryRow.holds Try.pinned (OpenSpec.ofChange fnExactDropEntrySpec)

/-- ITS FALSE NEIGHBOUR: 'it returns false'. Refute it at one input. -/
def fnExactDropEntryWrong : ChangeSpec := { name := "fnExactDropEntry", fn := fun _ => fun
  | [d1, d2] => { results := [.lit (.bool false)], args := [d1, d2] }
  | _ => none }
def FnExactDropEntryWrongFalsely : Prop := fnExactDropEntryRow.holds Try.pinned (OpenSpec.ofChange fnExactDropEntryWrong)

/-- 'laws.FnExactPutEntry': WHATEVER THE INPUT: true; the input reads as it did. -/
def fnExactPutEntrySpec : ChangeSpec := { name := "fnExactPutEntry", fn := fun _ => fun
  | [d1, d2] => { results := [.lit (.bool true)], args := [d1, d2] }
  | _ => none }
def fnExactPutEntryRow : OpenClaim := { program := "ytjaohecdhnhhbaa", sum := "f6353e24cb33e01adfb58dfe6a01f96b8f3dcc66ac77dc3865de09a8a1753088", func := "loop.example/g01284/laws.FnExactPutEntry", spec := "fnExactPutEntry", inPlace := ["math.Float64bits", "math.Float64frombits"], unfollowed := true, recurses := true, apart := false }
def FnExactPutEntrySaid : Prop := fnExactPutEntryRow.holds Try.pinned (OpenSpec.ofChange fnExactPutEntrySpec)

/-- ITS FALSE NEIGHBOUR: 'it returns false'. Refute it at one input. -/
def fnExactPutEntryWrong : ChangeSpec := { name := "fnExactPutEntry", fn := fun _ => fun
  | [d1, d2] => { results := [.lit (.bool false)], args := [d1, d2] }
  | _ => none }
def FnExactPutEntryWrongFalsely : Prop := fnExactPutEntryRow.holds Try.pinned (OpenSpec.ofChange fnExactPutEntryWrong)

/-- 'laws.FnExactStoreEntry': WHATEVER THE INPUT: true; the input reads as it did. -/
def fnExactStoreEntrySpec : ChangeSpec := { name := "fnExactStoreEntry", fn := fun _ => fun
  | [d] => { results := [.lit (.bool true)], args := [d] }
  | _ => none }
def fnExactStoreEntryRow : OpenClaim := { program := "ytjaohecdhnhhbaa", sum := "f6353e24cb33e01adfb58dfe6a01f96b8f3dcc66ac77dc3865de09a8a1753088", func := "loop.example/g01284/laws.FnExactStoreEntry", spec := "fnExactStoreEntry", inPlace := ["math.Float32bits", "math.Float64bits", "math.Float64frombits"], unfollowed := true, recurses := true, apart := false }
def FnExactStoreEntrySaid : Prop := fnExactStoreEntryRow.holds Try.pinned (OpenSpec.ofChange fnExactStoreEntrySpec)

/-- ITS FALSE NEIGHBOUR: 'it returns false'. Refute it at one input. -/
def fnExactStoreEntryWrong : ChangeSpec := { name := "fnExactStoreEntry", fn := fun _ => fun
  | [d] => { results := [.lit (.bool false)], args := [d] }
  | _ => none }
def FnExactStoreEntryWrongFalsely : Prop := fnExactStoreEntryRow.holds Try.pinned (OpenSpec.ofChange fnExactStoreEntryWrong)

/-- 'laws.FnExactLoadEntry': WHATEVER THE INPUT: true; the input reads as it did. -/
def fnExactLoadEntrySpec : ChangeSpec := { name := "fnExactLoadEntry", fn := fun _ => fun
  | [d] => { results := [.lit (.bool true)], args := [d] }
  | _ => none }
def fnExactLoadEntryRow : OpenClaim := { program := "ytjaohecdhnhhbaa", sum := "f6353e24cb33e01adfb58dfe6a01f96b8f3dcc66ac77dc3865de09a8a1753088", func := "loop.example/g01284/laws.FnExactLoadEntry", spec := "fnExactLoadEntry", inPlace := ["math.Float32frombits", "math.Float32bits", "math.Float64bits", "math.Float64frombits"], unfollowed := true, recurses := true, apart := false }
def FnExactLoadEntrySaid : Prop := fnExactLoadEntryRow.holds Try.pinned (OpenSpec.ofChange fnExactLoadEntrySpec)

/-- ITS FALSE NEIGHBOUR: 'it returns false'. Refute it at one input. -/
def fnExactLoadEntryWrong : ChangeSpec := { name := "fnExactLoadEntry", fn := fun _ => fun
  | [d] => { results := [.lit (.bool false)], args := [d] }
  | _ => none }
def FnExactLoadEntryWrongFalsely : Prop := fnExactLoadEntryRow.holds Try.pinned (OpenSpec.ofChange fnExactLoadEntryWrong)

/-- 'laws.FnExactStoreEntries': WHATEVER THE INPUT: true; the input reads as it did. -/
def fnExactStoreEntriesSpec : ChangeSpec := { name := "fnExactStoreEntries", fn := fun _ => fun
  | [d] => { results := [.lit (.bool true)], args := [d] }
  | _ => none }
def fnExactStoreEntriesRow : OpenClaim := { program := "ytjaohecdhnhhbaa", sum := "f6353e24cb33e01adfb58dfe6a01f96b8f3dcc66ac77dc3865de09a8a1753088", func := "loop.example/g01284/laws.FnExactStoreEntries", spec := "fnExactStoreEntries", inPlace := ["math.Float32bits", "math.Float64bits", "math.Float64frombits"], unfollowed := true, recurses := true, apart := false }
def FnExactStoreEntriesSaid : Prop := fnExactStoreEntriesRow.holds Try.pinned (OpenSpec.ofChange fnExactStoreEntriesSpec)

/-- ITS FALSE NEIGHBOUR: 'it returns false'. Refute it at one input. -/
def fnExactStoreEntriesWrong : ChangeSpec := { name := "fnExactStoreEntries", fn := fun _ => fun
  | [d] => { results := [.lit (.bool false)], args := [d] }
  | _ => none }
def FnExactStoreEntriesWrongFalsely : Prop := fnExactStoreEntriesRow.holds Try.pinned (OpenSpec.ofChange fnExactStoreEntriesWrong)

/- THE SECOND FORM. 'bulk': how many values and letters a reading holds, each counted each time it is reached (what is shared counts as often as it is met; a slice's spare places count too). A statement '..UptoSaid' is the law's where the arguments, and the package variables that the reading takes, are together of bulk at most 1048576: NARROWER than '..Said'. Prove '..Said' where nothing that the law and all that it calls make is longer than what came in: it says more and counts as full. Else prove '..UptoSaid'. A law counts once. -/
mutual
def uptoBulk {H : Type} : DataW H → Nat
  | .lit (.string bytes) => bytes.length + 1
  | .lit _ => 1
  | .nil => 1
  | .ptr d => uptoBulk d + 1
  | .slice elems spare => uptoBulkAll elems + uptoBulkAll spare + 1
  | .agg parts => uptoBulkAll parts + 1
  | .iface _ d => uptoBulk d + 1
  | .map entries => uptoBulkEntries entries + 1
  | .held _ => 1
def uptoBulkAll {H : Type} : List (DataW H) → Nat
  | [] => 0
  | d :: r => uptoBulk d + uptoBulkAll r
def uptoBulkEntries {H : Type} : List (Lit × DataW H) → Nat
  | [] => 0
  | x :: r => uptoBulkEntry x + uptoBulkEntries r
def uptoBulkEntry {H : Type} : Lit × DataW H → Nat
  | (.string bytes, d) => bytes.length + uptoBulk d + 1
  | (_, d) => uptoBulk d + 1
 end
def uptoSmall : (H : Type) → List (DataW H) → Bool := fun _ ds => decide (uptoBulkAll ds ≤ 1048576)
def OpenSpec.upto (s : _root_.Go.ChangeSpec) : _root_.Go.OpenSpec := { _root_.Go.OpenSpec.ofChange s with cond := some uptoSmall }

/-- 'laws.FnExactDropBody', WHERE WHAT IT READS IS OF BULK AT MOST 1048576: true; the input reads as it did. -/
def fnExactDropBodyUptoRow : OpenClaim := { program := "ytjaohecdhnhhbaa", sum := "f6353e24cb33e01adfb58dfe6a01f96b8f3dcc66ac77dc3865de09a8a1753088", func := "loop.example/g01284/laws.FnExactDropBody", spec := "fnExactDropBody", inPlace := ["math.Float64bits", "math.Float64frombits"], unfollowed := true, recurses := true, apart := false, narrowed := true }
def FnExactDropBodyUptoSaid : Prop := fnExactDropBodyUptoRow.holds Try.pinned (OpenSpec.upto fnExactDropBodySpec)

/-- 'laws.FnExactDropEntry', WHERE WHAT IT READS IS OF BULK AT MOST 1048576: true; the input reads as it did. -/
def fnExactDropEntryUptoRow : OpenClaim := { program := "ytjaohecdhnhhbaa", sum := "f6353e24cb33e01adfb58dfe6a01f96b8f3dcc66ac77dc3865de09a8a1753088", func := "loop.example/g01284/laws.FnExactDropEntry", spec := "fnExactDropEntry", inPlace := ["math.Float64bits", "math.Float64frombits"], unfollowed := true, recurses := true, apart := false, narrowed := true }
def FnExactDropEntryUptoSaid : Prop := fnExactDropEntryUptoRow.holds Try.pinned (OpenSpec.upto fnExactDropEntrySpec)

/-- 'laws.FnExactPutEntry', WHERE WHAT IT READS IS OF BULK AT MOST 1048576: true; the input reads as it did. -/
def fnExactPutEntryUptoRow : OpenClaim := { program := "ytjaohecdhnhhbaa", sum := "f6353e24cb33e01adfb58dfe6a01f96b8f3dcc66ac77dc3865de09a8a1753088", func := "loop.example/g01284/laws.FnExactPutEntry", spec := "fnExactPutEntry", inPlace := ["math.Float64bits", "math.Float64frombits"], unfollowed := true, recurses := true, apart := false, narrowed := true }
def FnExactPutEntryUptoSaid : Prop := fnExactPutEntryUptoRow.holds Try.pinned (OpenSpec.upto fnExactPutEntrySpec)

/-- 'laws.FnExactStoreEntry', WHERE WHAT IT READS IS OF BULK AT MOST 1048576: true; the input reads as it did. -/
def fnExactStoreEntryUptoRow : OpenClaim := { program := "ytjaohecdhnhhbaa", sum := "f6353e24cb33e01adfb58dfe6a01f96b8f3dcc66ac77dc3865de09a8a1753088", func := "loop.example/g01284/laws.FnExactStoreEntry", spec := "fnExactStoreEntry", inPlace := ["math.Float32bits", "math.Float64bits", "math.Float64frombits"], unfollowed := true, recurses := true, apart := false, narrowed := true }
def FnExactStoreEntryUptoSaid : Prop := fnExactStoreEntryUptoRow.holds Try.pinned (OpenSpec.upto fnExactStoreEntrySpec)

/-- 'laws.FnExactLoadEntry', WHERE WHAT IT READS IS OF BULK AT MOST 1048576: true; the input reads as it did. -/
def fnExactLoadEntryUptoRow : OpenClaim := { program := "ytjaohecdhnhhbaa", sum := "f6353e24cb33e01adfb58dfe6a01f96b8f3dcc66ac77dc3865de09a8a1753088", func := "loop.example/g01284/laws.FnExactLoadEntry", spec := "fnExactLoadEntry", inPlace := ["math.Float32frombits", "math.Float32bits", "math.Float64bits", "math.Float64frombits"], unfollowed := true, recurses := true, apart := false, narrowed := true }
def FnExactLoadEntryUptoSaid : Prop := fnExactLoadEntryUptoRow.holds Try.pinned (OpenSpec.upto fnExactLoadEntrySpec)

/-- 'laws.FnExactStoreEntries', WHERE WHAT IT READS IS OF BULK AT MOST 1048576: true; the input reads as it did. -/
def fnExactStoreEntriesUptoRow : OpenClaim := { program := "ytjaohecdhnhhbaa", sum := "f6353e24cb33e01adfb58dfe6a01f96b8f3dcc66ac77dc3865de09a8a1753088", func := "loop.example/g01284/laws.FnExactStoreEntries", spec := "fnExactStoreEntries", inPlace := ["math.Float32bits", "math.Float64bits", "math.Float64frombits"], unfollowed := true, recurses := true, apart := false, narrowed := true }
def FnExactStoreEntriesUptoSaid : Prop := fnExactStoreEntriesUptoRow.holds Try.pinned (OpenSpec.upto fnExactStoreEntriesSpec)

end Rows
end Go.Proofs.Ytjaohecdhnhhbaa
