/-
  No cell of these rows narrows 'for every input' (looked for: loops, veiled, ifaces, maps, wideKeys, modest, calm, conditions, laid).
  DERIVED. THE GIVEN ROWS OF THIS SEAT. 12 by the template 'for every input the law returns true; each argument reads behind the call as it read before'; 0 by the template 'total and deterministic' (their statements: YtjcofjelfaoecaaTotals.lean).
  GIVEN WITH THE SEED: the statements are not yours to turn. If you find one false, say at which input.
  Laid BY PROGRAM, IN A SANDBOX (cutbox-rows.mjs): the forced cells as the released guide's own fill.sh prints them over the translation 13c663d401eccbc7… (all of the seat's roots in one cut). By AI agents, Wed Nov 11 2026. No macro, syntax, notation, axiom, sorry.
-/
import Derived.Test.YtjcofjelfaoecaaChecked
import GoSem.Claim
import GoSem.ClaimJoined
import GoSem.ClaimMapViews
import Derived.JoinedTies
import Derived.KernelRfl
namespace Go.Proofs.Ytjcofjelfaoecaa
/- THE CELL 'sum', in the pinned program and in every row, IS THE sha256 OF THE DUMP (.gsa) THAT YtjcofjelfaoecaaProg.lean LOADS. Nothing in Lean hashes anything: it is a label: what it is worth is what the hold of that sum in a sandbox is worth. -/
noncomputable def Try.pinned : Pinned := { name := "ytjcofjelfaoecaa", sum := "13c663d401eccbc7202b0cc652471530c5c4028dc9a534416a7ec3f842cb5783", checked := Try.checked }
namespace Rows
def none {H : Type} : Left H := { results := [], args := [] }

/-- 'laws.FnExactBoundTo': WHATEVER THE INPUT: true; the input reads as it did. -/
def fnExactBoundToSpec : ChangeSpec := { name := "fnExactBoundTo", fn := fun _ => fun
  | [d1, d2, d3] => { results := [.lit (.bool true)], args := [d1, d2, d3] }
  | _ => none }
def fnExactBoundToRow : OpenClaim := { program := "ytjcofjelfaoecaa", sum := "13c663d401eccbc7202b0cc652471530c5c4028dc9a534416a7ec3f842cb5783", func := "loop.example/g01284/laws.FnExactBoundTo", spec := "fnExactBoundTo", inPlace := ["math.sqrt", "math.Float64bits", "math.Float64frombits"], unfollowed := true, recurses := true, apart := false }
def FnExactBoundToSaid : Prop := fnExactBoundToRow.holds Try.pinned (OpenSpec.ofChange fnExactBoundToSpec)

/-- ITS FALSE NEIGHBOUR: 'it returns false'. Refute it at one input. -/
def fnExactBoundToWrong : ChangeSpec := { name := "fnExactBoundTo", fn := fun _ => fun
  | [d1, d2, d3] => { results := [.lit (.bool false)], args := [d1, d2, d3] }
  | _ => none }
def FnExactBoundToWrongFalsely : Prop := fnExactBoundToRow.holds Try.pinned (OpenSpec.ofChange fnExactBoundToWrong)

/-- 'laws.FnExactEnergyOfBodies': WHATEVER THE INPUT: true; the input reads as it did. -/
def fnExactEnergyOfBodiesSpec : ChangeSpec := { name := "fnExactEnergyOfBodies", fn := fun _ => fun
  | [d1, d2] => { results := [.lit (.bool true)], args := [d1, d2] }
  | _ => none }
def fnExactEnergyOfBodiesRow : OpenClaim := { program := "ytjcofjelfaoecaa", sum := "13c663d401eccbc7202b0cc652471530c5c4028dc9a534416a7ec3f842cb5783", func := "loop.example/g01284/laws.FnExactEnergyOfBodies", spec := "fnExactEnergyOfBodies", inPlace := ["math.sqrt", "math.Float64bits", "math.Float64frombits"], unfollowed := true, recurses := true, apart := false }
def FnExactEnergyOfBodiesSaid : Prop := fnExactEnergyOfBodiesRow.holds Try.pinned (OpenSpec.ofChange fnExactEnergyOfBodiesSpec)

/-- ITS FALSE NEIGHBOUR: 'it returns false'. Refute it at one input. -/
def fnExactEnergyOfBodiesWrong : ChangeSpec := { name := "fnExactEnergyOfBodies", fn := fun _ => fun
  | [d1, d2] => { results := [.lit (.bool false)], args := [d1, d2] }
  | _ => none }
def FnExactEnergyOfBodiesWrongFalsely : Prop := fnExactEnergyOfBodiesRow.holds Try.pinned (OpenSpec.ofChange fnExactEnergyOfBodiesWrong)

/-- 'laws.FnExactNearestBodies': WHATEVER THE INPUT: true; the input reads as it did. -/
def fnExactNearestBodiesSpec : ChangeSpec := { name := "fnExactNearestBodies", fn := fun _ => fun
  | [d] => { results := [.lit (.bool true)], args := [d] }
  | _ => none }
def fnExactNearestBodiesRow : OpenClaim := { program := "ytjcofjelfaoecaa", sum := "13c663d401eccbc7202b0cc652471530c5c4028dc9a534416a7ec3f842cb5783", func := "loop.example/g01284/laws.FnExactNearestBodies", spec := "fnExactNearestBodies", inPlace := ["math.sqrt", "math.Float64bits", "math.Float64frombits"], unfollowed := true, recurses := true, apart := false }
def FnExactNearestBodiesSaid : Prop := fnExactNearestBodiesRow.holds Try.pinned (OpenSpec.ofChange fnExactNearestBodiesSpec)

/-- ITS FALSE NEIGHBOUR: 'it returns false'. Refute it at one input. -/
def fnExactNearestBodiesWrong : ChangeSpec := { name := "fnExactNearestBodies", fn := fun _ => fun
  | [d] => { results := [.lit (.bool false)], args := [d] }
  | _ => none }
def FnExactNearestBodiesWrongFalsely : Prop := fnExactNearestBodiesRow.holds Try.pinned (OpenSpec.ofChange fnExactNearestBodiesWrong)

/-- 'laws.FnExactPullAt': WHATEVER THE INPUT: true; the input reads as it did. -/
def fnExactPullAtSpec : ChangeSpec := { name := "fnExactPullAt", fn := fun _ => fun
  | [d1, d2, d3] => { results := [.lit (.bool true)], args := [d1, d2, d3] }
  | _ => none }
def fnExactPullAtRow : OpenClaim := { program := "ytjcofjelfaoecaa", sum := "13c663d401eccbc7202b0cc652471530c5c4028dc9a534416a7ec3f842cb5783", func := "loop.example/g01284/laws.FnExactPullAt", spec := "fnExactPullAt", inPlace := ["math.sqrt", "math.Float64bits", "math.Float64frombits"], unfollowed := true, recurses := true, apart := false }
def FnExactPullAtSaid : Prop := fnExactPullAtRow.holds Try.pinned (OpenSpec.ofChange fnExactPullAtSpec)

/-- ITS FALSE NEIGHBOUR: 'it returns false'. Refute it at one input. -/
def fnExactPullAtWrong : ChangeSpec := { name := "fnExactPullAt", fn := fun _ => fun
  | [d1, d2, d3] => { results := [.lit (.bool false)], args := [d1, d2, d3] }
  | _ => none }
def FnExactPullAtWrongFalsely : Prop := fnExactPullAtRow.holds Try.pinned (OpenSpec.ofChange fnExactPullAtWrong)

/-- 'laws.FnExactCentreOfBodies': WHATEVER THE INPUT: true; the input reads as it did. -/
def fnExactCentreOfBodiesSpec : ChangeSpec := { name := "fnExactCentreOfBodies", fn := fun _ => fun
  | [d] => { results := [.lit (.bool true)], args := [d] }
  | _ => none }
def fnExactCentreOfBodiesRow : OpenClaim := { program := "ytjcofjelfaoecaa", sum := "13c663d401eccbc7202b0cc652471530c5c4028dc9a534416a7ec3f842cb5783", func := "loop.example/g01284/laws.FnExactCentreOfBodies", spec := "fnExactCentreOfBodies", inPlace := ["math.Float64bits", "math.Float64frombits"], unfollowed := true, recurses := true, apart := false }
def FnExactCentreOfBodiesSaid : Prop := fnExactCentreOfBodiesRow.holds Try.pinned (OpenSpec.ofChange fnExactCentreOfBodiesSpec)

/-- ITS FALSE NEIGHBOUR: 'it returns false'. Refute it at one input. -/
def fnExactCentreOfBodiesWrong : ChangeSpec := { name := "fnExactCentreOfBodies", fn := fun _ => fun
  | [d] => { results := [.lit (.bool false)], args := [d] }
  | _ => none }
def FnExactCentreOfBodiesWrongFalsely : Prop := fnExactCentreOfBodiesRow.holds Try.pinned (OpenSpec.ofChange fnExactCentreOfBodiesWrong)

/-- 'laws.FnExactCircleBodies': WHATEVER THE INPUT: true; the input reads as it did. -/
def fnExactCircleBodiesSpec : ChangeSpec := { name := "fnExactCircleBodies", fn := fun _ => fun
  | [d1, d2, d3] => { results := [.lit (.bool true)], args := [d1, d2, d3] }
  | _ => none }
def fnExactCircleBodiesRow : OpenClaim := { program := "ytjcofjelfaoecaa", sum := "13c663d401eccbc7202b0cc652471530c5c4028dc9a534416a7ec3f842cb5783", func := "loop.example/g01284/laws.FnExactCircleBodies", spec := "fnExactCircleBodies", inPlace := ["math.sqrt", "math.Float64bits", "math.Float64frombits"], unfollowed := true, recurses := true, apart := false }
def FnExactCircleBodiesSaid : Prop := fnExactCircleBodiesRow.holds Try.pinned (OpenSpec.ofChange fnExactCircleBodiesSpec)

/-- ITS FALSE NEIGHBOUR: 'it returns false'. Refute it at one input. -/
def fnExactCircleBodiesWrong : ChangeSpec := { name := "fnExactCircleBodies", fn := fun _ => fun
  | [d1, d2, d3] => { results := [.lit (.bool false)], args := [d1, d2, d3] }
  | _ => none }
def FnExactCircleBodiesWrongFalsely : Prop := fnExactCircleBodiesRow.holds Try.pinned (OpenSpec.ofChange fnExactCircleBodiesWrong)

/-- 'laws.FnExactMirrorBodies': WHATEVER THE INPUT: true; the input reads as it did. -/
def fnExactMirrorBodiesSpec : ChangeSpec := { name := "fnExactMirrorBodies", fn := fun _ => fun
  | [d] => { results := [.lit (.bool true)], args := [d] }
  | _ => none }
def fnExactMirrorBodiesRow : OpenClaim := { program := "ytjcofjelfaoecaa", sum := "13c663d401eccbc7202b0cc652471530c5c4028dc9a534416a7ec3f842cb5783", func := "loop.example/g01284/laws.FnExactMirrorBodies", spec := "fnExactMirrorBodies", inPlace := ["math.Float64bits", "math.Float64frombits"], unfollowed := true, recurses := true, apart := false }
def FnExactMirrorBodiesSaid : Prop := fnExactMirrorBodiesRow.holds Try.pinned (OpenSpec.ofChange fnExactMirrorBodiesSpec)

/-- ITS FALSE NEIGHBOUR: 'it returns false'. Refute it at one input. -/
def fnExactMirrorBodiesWrong : ChangeSpec := { name := "fnExactMirrorBodies", fn := fun _ => fun
  | [d] => { results := [.lit (.bool false)], args := [d] }
  | _ => none }
def FnExactMirrorBodiesWrongFalsely : Prop := fnExactMirrorBodiesRow.holds Try.pinned (OpenSpec.ofChange fnExactMirrorBodiesWrong)

/-- 'laws.FnExactBackBodies': WHATEVER THE INPUT: true; the input reads as it did. -/
def fnExactBackBodiesSpec : ChangeSpec := { name := "fnExactBackBodies", fn := fun _ => fun
  | [d] => { results := [.lit (.bool true)], args := [d] }
  | _ => none }
def fnExactBackBodiesRow : OpenClaim := { program := "ytjcofjelfaoecaa", sum := "13c663d401eccbc7202b0cc652471530c5c4028dc9a534416a7ec3f842cb5783", func := "loop.example/g01284/laws.FnExactBackBodies", spec := "fnExactBackBodies", inPlace := ["math.Float64bits", "math.Float64frombits"], unfollowed := true, recurses := true, apart := false }
def FnExactBackBodiesSaid : Prop := fnExactBackBodiesRow.holds Try.pinned (OpenSpec.ofChange fnExactBackBodiesSpec)

/-- ITS FALSE NEIGHBOUR: 'it returns false'. Refute it at one input. -/
def fnExactBackBodiesWrong : ChangeSpec := { name := "fnExactBackBodies", fn := fun _ => fun
  | [d] => { results := [.lit (.bool false)], args := [d] }
  | _ => none }
def FnExactBackBodiesWrongFalsely : Prop := fnExactBackBodiesRow.holds Try.pinned (OpenSpec.ofChange fnExactBackBodiesWrong)

/-- 'laws.FnExactMoveBodies': WHATEVER THE INPUT: true; the input reads as it did. -/
def fnExactMoveBodiesSpec : ChangeSpec := { name := "fnExactMoveBodies", fn := fun _ => fun
  | [d1, d2, d3] => { results := [.lit (.bool true)], args := [d1, d2, d3] }
  | _ => none }
def fnExactMoveBodiesRow : OpenClaim := { program := "ytjcofjelfaoecaa", sum := "13c663d401eccbc7202b0cc652471530c5c4028dc9a534416a7ec3f842cb5783", func := "loop.example/g01284/laws.FnExactMoveBodies", spec := "fnExactMoveBodies", inPlace := ["math.Float64bits", "math.Float64frombits"], unfollowed := true, recurses := true, apart := false }
def FnExactMoveBodiesSaid : Prop := fnExactMoveBodiesRow.holds Try.pinned (OpenSpec.ofChange fnExactMoveBodiesSpec)

/-- ITS FALSE NEIGHBOUR: 'it returns false'. Refute it at one input. -/
def fnExactMoveBodiesWrong : ChangeSpec := { name := "fnExactMoveBodies", fn := fun _ => fun
  | [d1, d2, d3] => { results := [.lit (.bool false)], args := [d1, d2, d3] }
  | _ => none }
def FnExactMoveBodiesWrongFalsely : Prop := fnExactMoveBodiesRow.holds Try.pinned (OpenSpec.ofChange fnExactMoveBodiesWrong)

/-- 'laws.FnExactDropBody': WHATEVER THE INPUT: true; the input reads as it did. -/
def fnExactDropBodySpec : ChangeSpec := { name := "fnExactDropBody", fn := fun _ => fun
  | [d1, d2] => { results := [.lit (.bool true)], args := [d1, d2] }
  | _ => none }
def fnExactDropBodyRow : OpenClaim := { program := "ytjcofjelfaoecaa", sum := "13c663d401eccbc7202b0cc652471530c5c4028dc9a534416a7ec3f842cb5783", func := "loop.example/g01284/laws.FnExactDropBody", spec := "fnExactDropBody", inPlace := ["math.Float64bits", "math.Float64frombits"], unfollowed := true, recurses := true, apart := false }
def FnExactDropBodySaid : Prop := fnExactDropBodyRow.holds Try.pinned (OpenSpec.ofChange fnExactDropBodySpec)

/-- ITS FALSE NEIGHBOUR: 'it returns false'. Refute it at one input. -/
def fnExactDropBodyWrong : ChangeSpec := { name := "fnExactDropBody", fn := fun _ => fun
  | [d1, d2] => { results := [.lit (.bool false)], args := [d1, d2] }
  | _ => none }
def FnExactDropBodyWrongFalsely : Prop := fnExactDropBodyRow.holds Try.pinned (OpenSpec.ofChange fnExactDropBodyWrong)

/-- 'laws.FnExactPullsOf': WHATEVER THE INPUT: true; the input reads as it did. -/
def fnExactPullsOfSpec : ChangeSpec := { name := "fnExactPullsOf", fn := fun _ => fun
  | [d1, d2] => { results := [.lit (.bool true)], args := [d1, d2] }
  | _ => none }
def fnExactPullsOfRow : OpenClaim := { program := "ytjcofjelfaoecaa", sum := "13c663d401eccbc7202b0cc652471530c5c4028dc9a534416a7ec3f842cb5783", func := "loop.example/g01284/laws.FnExactPullsOf", spec := "fnExactPullsOf", inPlace := ["math.sqrt", "math.Float64bits", "math.Float64frombits"], unfollowed := true, recurses := true, apart := false }
def FnExactPullsOfSaid : Prop := fnExactPullsOfRow.holds Try.pinned (OpenSpec.ofChange fnExactPullsOfSpec)

/-- ITS FALSE NEIGHBOUR: 'it returns false'. Refute it at one input. -/
def fnExactPullsOfWrong : ChangeSpec := { name := "fnExactPullsOf", fn := fun _ => fun
  | [d1, d2] => { results := [.lit (.bool false)], args := [d1, d2] }
  | _ => none }
def FnExactPullsOfWrongFalsely : Prop := fnExactPullsOfRow.holds Try.pinned (OpenSpec.ofChange fnExactPullsOfWrong)

/-- 'laws.FnExactRestBodies': WHATEVER THE INPUT: true; the input reads as it did. -/
def fnExactRestBodiesSpec : ChangeSpec := { name := "fnExactRestBodies", fn := fun _ => fun
  | [d] => { results := [.lit (.bool true)], args := [d] }
  | _ => none }
def fnExactRestBodiesRow : OpenClaim := { program := "ytjcofjelfaoecaa", sum := "13c663d401eccbc7202b0cc652471530c5c4028dc9a534416a7ec3f842cb5783", func := "loop.example/g01284/laws.FnExactRestBodies", spec := "fnExactRestBodies", inPlace := ["math.Float64bits", "math.Float64frombits"], unfollowed := true, recurses := true, apart := false }
def FnExactRestBodiesSaid : Prop := fnExactRestBodiesRow.holds Try.pinned (OpenSpec.ofChange fnExactRestBodiesSpec)

/-- ITS FALSE NEIGHBOUR: 'it returns false'. Refute it at one input. -/
def fnExactRestBodiesWrong : ChangeSpec := { name := "fnExactRestBodies", fn := fun _ => fun
  | [d] => { results := [.lit (.bool false)], args := [d] }
  | _ => none }
def FnExactRestBodiesWrongFalsely : Prop := fnExactRestBodiesRow.holds Try.pinned (OpenSpec.ofChange fnExactRestBodiesWrong)

/- THE SECOND FORM. 'bulk': how many values and letters a reading holds, each counted each time it is reached (what is shared counts as often as it is met; a slice's spare places count too). A statement '..UptoSaid' is the law's where the arguments, and the package variables that the reading takes, are together of bulk at most 1048576: NARROWER than '..Said'. Prove '..Said' where nothing that the law and all that it calls make is longer than what came in: it says more and counts as full. Else prove '..UptoSaid'. A law counts once. -/
mutual
def uptoBulk {H : Type} : DataW H → Nat
  | .lit (.string bytes) => bytes.length + 1
  | .lit _ => 1
  | .nil => 1
  | .ptr d => uptoBulk d + 1
  | .slice elems spare => uptoBulkAll elems + uptoBulkAll spare + 1
  | .agg parts => uptoBulkAll parts + 1
  | .iface _ d => uptoBulk d + 1
  | .map entries => uptoBulkEntries entries + 1
  | .held _ => 1
def uptoBulkAll {H : Type} : List (DataW H) → Nat
  | [] => 0
  | d :: r => uptoBulk d + uptoBulkAll r
def uptoBulkEntries {H : Type} : List (Lit × DataW H) → Nat
  | [] => 0
  | x :: r => uptoBulkEntry x + uptoBulkEntries r
def uptoBulkEntry {H : Type} : Lit × DataW H → Nat
  | (.string bytes, d) => bytes.length + uptoBulk d + 1
  | (_, d) => uptoBulk d + 1
 end
def uptoSmall : (H : Type) → List (DataW H) → Bool := fun _ ds => decide (uptoBulkAll ds ≤ 1048576)
def OpenSpec.upto (s : _root_.Go.ChangeSpec) : _root_.Go.OpenSpec := { _root_.Go.OpenSpec.ofChange s with cond := some uptoSmall }

/-- 'laws.FnExactBoundTo', WHERE WHAT IT READS IS OF BULK AT MOST 1048576: true; the input reads as it did. -/
def fnExactBoundToUptoRow : OpenClaim := { program := "ytjcofjelfaoecaa", sum := "13c663d401eccbc7202b0cc652471530c5c4028dc9a534416a7ec3f842cb5783", func := "loop.example/g01284/laws.FnExactBoundTo", spec := "fnExactBoundTo", inPlace := ["math.sqrt", "math.Float64bits", "math.Float64frombits"], unfollowed := true, recurses := true, apart := false, narrowed := true }
def FnExactBoundToUptoSaid : Prop := fnExactBoundToUptoRow.holds Try.pinned (OpenSpec.upto fnExactBoundToSpec)

/-- 'laws.FnExactEnergyOfBodies', WHERE WHAT IT READS IS OF BULK AT MOST 1048576: true; the input reads as it did. -/
def fnExactEnergyOfBodiesUptoRow : OpenClaim := { program := "ytjcofjelfaoecaa", sum := "13c663d401eccbc7202b0cc652471530c5c4028dc9a534416a7ec3f842cb5783", func := "loop.example/g01284/laws.FnExactEnergyOfBodies", spec := "fnExactEnergyOfBodies", inPlace := ["math.sqrt", "math.Float64bits", "math.Float64frombits"], unfollowed := true, recurses := true, apart := false, narrowed := true }
def FnExactEnergyOfBodiesUptoSaid : Prop := fnExactEnergyOfBodiesUptoRow.holds Try.pinned (OpenSpec.upto fnExactEnergyOfBodiesSpec)

/-- 'laws.FnExactNearestBodies', WHERE WHAT IT READS IS OF BULK AT MOST 1048576: true; the input reads as it did. -/
def fnExactNearestBodiesUptoRow : OpenClaim := { program := "ytjcofjelfaoecaa", sum := "13c663d401eccbc7202b0cc652471530c5c4028dc9a534416a7ec3f842cb5783", func := "loop.example/g01284/laws.FnExactNearestBodies", spec := "fnExactNearestBodies", inPlace := ["math.sqrt", "math.Float64bits", "math.Float64frombits"], unfollowed := true, recurses := true, apart := false, narrowed := true }
def FnExactNearestBodiesUptoSaid : Prop := fnExactNearestBodiesUptoRow.holds Try.pinned (OpenSpec.upto fnExactNearestBodiesSpec)

/-- 'laws.FnExactPullAt', WHERE WHAT IT READS IS OF BULK AT MOST 1048576: true; the input reads as it did. -/
def fnExactPullAtUptoRow : OpenClaim := { program := "ytjcofjelfaoecaa", sum := "13c663d401eccbc7202b0cc652471530c5c4028dc9a534416a7ec3f842cb5783", func := "loop.example/g01284/laws.FnExactPullAt", spec := "fnExactPullAt", inPlace := ["math.sqrt", "math.Float64bits", "math.Float64frombits"], unfollowed := true, recurses := true, apart := false, narrowed := true }
def FnExactPullAtUptoSaid : Prop := fnExactPullAtUptoRow.holds Try.pinned (OpenSpec.upto fnExactPullAtSpec)

/-- 'laws.FnExactCentreOfBodies', WHERE WHAT IT READS IS OF BULK AT MOST 1048576: true; the input reads as it did. -/
def fnExactCentreOfBodiesUptoRow : OpenClaim := { program := "ytjcofjelfaoecaa", sum := "13c663d401eccbc7202b0cc652471530c5c4028dc9a534416a7ec3f842cb5783", func := "loop.example/g01284/laws.FnExactCentreOfBodies", spec := "fnExactCentreOfBodies", inPlace := ["math.Float64bits", "math.Float64frombits"], unfollowed := true, recurses := true, apart := false, narrowed := true }
def FnExactCentreOfBodiesUptoSaid : Prop := fnExactCentreOfBodiesUptoRow.holds Try.pinned (OpenSpec.upto fnExactCentreOfBodiesSpec)

/-- 'laws.FnExactCircleBodies', WHERE WHAT IT READS IS OF BULK AT MOST 1048576: true; the input reads as it did. -/
def fnExactCircleBodiesUptoRow : OpenClaim := { program := "ytjcofjelfaoecaa", sum := "13c663d401eccbc7202b0cc652471530c5c4028dc9a534416a7ec3f842cb5783", func := "loop.example/g01284/laws.FnExactCircleBodies", spec := "fnExactCircleBodies", inPlace := ["math.sqrt", "math.Float64bits", "math.Float64frombits"], unfollowed := true, recurses := true, apart := false, narrowed := true }
def FnExactCircleBodiesUptoSaid : Prop := fnExactCircleBodiesUptoRow.holds Try.pinned (OpenSpec.upto fnExactCircleBodiesSpec)

/-- 'laws.FnExactMirrorBodies', WHERE WHAT IT READS IS OF BULK AT MOST 1048576: true; the input reads as it did. -/
def fnExactMirrorBodiesUptoRow : OpenClaim := { program := "ytjcofjelfaoecaa", sum := "13c663d401eccbc7202b0cc652471530c5c4028dc9a534416a7ec3f842cb5783", func := "loop.example/g01284/laws.FnExactMirrorBodies", spec := "fnExactMirrorBodies", inPlace := ["math.Float64bits", "math.Float64frombits"], unfollowed := true, recurses := true, apart := false, narrowed := true }
def FnExactMirrorBodiesUptoSaid : Prop := fnExactMirrorBodiesUptoRow.holds Try.pinned (OpenSpec.upto fnExactMirrorBodiesSpec)

/-- 'laws.FnExactBackBodies', WHERE WHAT IT READS IS OF BULK AT MOST 1048576: true; the input reads as it did. -/
def fnExactBackBodiesUptoRow : OpenClaim := { program := "ytjcofjelfaoecaa", sum := "13c663d401eccbc7202b0cc652471530c5c4028dc9a534416a7ec3f842cb5783", func := "loop.example/g01284/laws.FnExactBackBodies", spec := "fnExactBackBodies", inPlace := ["math.Float64bits", "math.Float64frombits"], unfollowed := true, recurses := true, apart := false, narrowed := true }
def FnExactBackBodiesUptoSaid : Prop := fnExactBackBodiesUptoRow.holds Try.pinned (OpenSpec.upto fnExactBackBodiesSpec)

/-- 'laws.FnExactMoveBodies', WHERE WHAT IT READS IS OF BULK AT MOST 1048576: true; the input reads as it did. -/
def fnExactMoveBodiesUptoRow : OpenClaim := { program := "ytjcofjelfaoecaa", sum := "13c663d401eccbc7202b0cc652471530c5c4028dc9a534416a7ec3f842cb5783", func := "loop.example/g01284/laws.FnExactMoveBodies", spec := "fnExactMoveBodies", inPlace := ["math.Float64bits", "math.Float64frombits"], unfollowed := true, recurses := true, apart := false, narrowed := true }
def FnExactMoveBodiesUptoSaid : Prop := fnExactMoveBodiesUptoRow.holds Try.pinned (OpenSpec.upto fnExactMoveBodiesSpec)

/-- 'laws.FnExactDropBody', WHERE WHAT IT READS IS OF BULK AT MOST 1048576: true; the input reads as it did. -/
def fnExactDropBodyUptoRow : OpenClaim := { program := "ytjcofjelfaoecaa", sum := "13c663d401eccbc7202b0cc652471530c5c4028dc9a534416a7ec3f842cb5783", func := "loop.example/g01284/laws.FnExactDropBody", spec := "fnExactDropBody", inPlace := ["math.Float64bits", "math.Float64frombits"], unfollowed := true, recurses := true, apart := false, narrowed := true }
def FnExactDropBodyUptoSaid : Prop := fnExactDropBodyUptoRow.holds Try.pinned (OpenSpec.upto fnExactDropBodySpec)

/-- 'laws.FnExactPullsOf', WHERE WHAT IT READS IS OF BULK AT MOST 1048576: true; the input reads as it did. -/
def fnExactPullsOfUptoRow : OpenClaim := { program := "ytjcofjelfaoecaa", sum := "13c663d401eccbc7202b0cc652471530c5c4028dc9a534416a7ec3f842cb5783", func := "loop.example/g01284/laws.FnExactPullsOf", spec := "fnExactPullsOf", inPlace := ["math.sqrt", "math.Float64bits", "math.Float64frombits"], unfollowed := true, recurses := true, apart := false, narrowed := true }
def FnExactPullsOfUptoSaid : Prop := fnExactPullsOfUptoRow.holds Try.pinned (OpenSpec.upto fnExactPullsOfSpec)

/-- 'laws.FnExactRestBodies', WHERE WHAT IT READS IS OF BULK AT MOST 1048576: true; the input reads as it did. -/
def fnExactRestBodiesUptoRow : OpenClaim := { program := "ytjcofjelfaoecaa", sum := "13c663d401eccbc7202b0cc652471530c5c4028dc9a534416a7ec3f842cb5783", func := "loop.example/g01284/laws.FnExactRestBodies", spec := "fnExactRestBodies", inPlace := ["math.Float64bits", "math.Float64frombits"], unfollowed := true, recurses := true, apart := false, narrowed := true }
def FnExactRestBodiesUptoSaid : Prop := fnExactRestBodiesUptoRow.holds Try.pinned (OpenSpec.upto fnExactRestBodiesSpec)

end Rows
end Go.Proofs.Ytjcofjelfaoecaa
