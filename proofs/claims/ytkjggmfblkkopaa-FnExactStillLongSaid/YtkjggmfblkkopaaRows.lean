/-
  No cell of these rows narrows 'for every input' (looked for: loops, veiled, ifaces, maps, wideKeys, modest, calm, conditions, laid).
  DERIVED. THE GIVEN ROWS OF THIS SEAT. 12 by the template 'for every input the law returns true; each argument reads behind the call as it read before'; 0 by the template 'total and deterministic' (their statements: YtkjggmfblkkopaaTotals.lean).
  GIVEN WITH THE SEED: the statements are not yours to turn. If you find one false, say at which input.
  Laid BY PROGRAM, IN A SANDBOX (cutbox-rows.mjs): the forced cells as the released guide's own fill.sh prints them over the translation 58c99fe2791c9b51… (all of the seat's roots in one cut). By AI agents, Wed Nov 11 2026. No macro, syntax, notation, axiom, sorry.
-/
import Derived.Test.YtkjggmfblkkopaaChecked
import GoSem.Claim
import GoSem.ClaimJoined
import GoSem.ClaimMapViews
import Derived.JoinedTies
import Derived.KernelRfl
namespace Go.Proofs.Ytkjggmfblkkopaa
/- THE CELL 'sum', in the pinned program and in every row, IS THE sha256 OF THE DUMP (.gsa) THAT YtkjggmfblkkopaaProg.lean LOADS. Nothing in Lean hashes anything: it is a label: what it is worth is what the hold of that sum in a sandbox is worth. -/
noncomputable def Try.pinned : Pinned := { name := "ytkjggmfblkkopaa", sum := "58c99fe2791c9b5105d4b721770254db47588d80ec5029b49be956a92881fe6c", checked := Try.checked }
namespace Rows
def none {H : Type} : Left H := { results := [], args := [] }

/-- 'laws.FnExactInShadow': WHATEVER THE INPUT: true; the input reads as it did. -/
def fnExactInShadowSpec : ChangeSpec := { name := "fnExactInShadow", fn := fun _ => fun
  | [d1, d2, d3] => { results := [.lit (.bool true)], args := [d1, d2, d3] }
  | _ => none }
def fnExactInShadowRow : OpenClaim := { program := "ytkjggmfblkkopaa", sum := "58c99fe2791c9b5105d4b721770254db47588d80ec5029b49be956a92881fe6c", func := "loop.example/g01284/laws.FnExactInShadow", spec := "fnExactInShadow", inPlace := ["math.sqrt", "math.Float64bits", "math.Float64frombits"], unfollowed := true, recurses := true, apart := false }
def FnExactInShadowSaid : Prop := fnExactInShadowRow.holds Try.pinned (OpenSpec.ofChange fnExactInShadowSpec)

/-- ITS FALSE NEIGHBOUR: 'it returns false'. Refute it at one input. -/
def fnExactInShadowWrong : ChangeSpec := { name := "fnExactInShadow", fn := fun _ => fun
  | [d1, d2, d3] => { results := [.lit (.bool false)], args := [d1, d2, d3] }
  | _ => none }
def FnExactInShadowWrongFalsely : Prop := fnExactInShadowRow.holds Try.pinned (OpenSpec.ofChange fnExactInShadowWrong)

/-- 'laws.FnExactHorizonOf': WHATEVER THE INPUT: true; the input reads as it did. -/
def fnExactHorizonOfSpec : ChangeSpec := { name := "fnExactHorizonOf", fn := fun _ => fun
  | [d1, d2] => { results := [.lit (.bool true)], args := [d1, d2] }
  | _ => none }
def fnExactHorizonOfRow : OpenClaim := { program := "ytkjggmfblkkopaa", sum := "58c99fe2791c9b5105d4b721770254db47588d80ec5029b49be956a92881fe6c", func := "loop.example/g01284/laws.FnExactHorizonOf", spec := "fnExactHorizonOf", inPlace := ["math.sqrt", "math.Float64frombits", "math.Float64bits"], unfollowed := true, recurses := true, apart := false }
def FnExactHorizonOfSaid : Prop := fnExactHorizonOfRow.holds Try.pinned (OpenSpec.ofChange fnExactHorizonOfSpec)

/-- ITS FALSE NEIGHBOUR: 'it returns false'. Refute it at one input. -/
def fnExactHorizonOfWrong : ChangeSpec := { name := "fnExactHorizonOf", fn := fun _ => fun
  | [d1, d2] => { results := [.lit (.bool false)], args := [d1, d2] }
  | _ => none }
def FnExactHorizonOfWrongFalsely : Prop := fnExactHorizonOfRow.holds Try.pinned (OpenSpec.ofChange fnExactHorizonOfWrong)

/-- 'laws.FnExactPlaceOf': WHATEVER THE INPUT: true; the input reads as it did. -/
def fnExactPlaceOfSpec : ChangeSpec := { name := "fnExactPlaceOf", fn := fun _ => fun
  | [d1, d2, d3] => { results := [.lit (.bool true)], args := [d1, d2, d3] }
  | _ => none }
def fnExactPlaceOfRow : OpenClaim := { program := "ytkjggmfblkkopaa", sum := "58c99fe2791c9b5105d4b721770254db47588d80ec5029b49be956a92881fe6c", func := "loop.example/g01284/laws.FnExactPlaceOf", spec := "fnExactPlaceOf", inPlace := ["math.Float64frombits", "math.Float64bits", "math.archTrunc"], unfollowed := true, recurses := true, apart := false }
def FnExactPlaceOfSaid : Prop := fnExactPlaceOfRow.holds Try.pinned (OpenSpec.ofChange fnExactPlaceOfSpec)

/-- ITS FALSE NEIGHBOUR: 'it returns false'. Refute it at one input. -/
def fnExactPlaceOfWrong : ChangeSpec := { name := "fnExactPlaceOf", fn := fun _ => fun
  | [d1, d2, d3] => { results := [.lit (.bool false)], args := [d1, d2, d3] }
  | _ => none }
def FnExactPlaceOfWrongFalsely : Prop := fnExactPlaceOfRow.holds Try.pinned (OpenSpec.ofChange fnExactPlaceOfWrong)

/-- 'laws.FnExactArcBetween': WHATEVER THE INPUT: true; the input reads as it did. -/
def fnExactArcBetweenSpec : ChangeSpec := { name := "fnExactArcBetween", fn := fun _ => fun
  | [d1, d2] => { results := [.lit (.bool true)], args := [d1, d2] }
  | _ => none }
def fnExactArcBetweenRow : OpenClaim := { program := "ytkjggmfblkkopaa", sum := "58c99fe2791c9b5105d4b721770254db47588d80ec5029b49be956a92881fe6c", func := "loop.example/g01284/laws.FnExactArcBetween", spec := "fnExactArcBetween", inPlace := ["math.Float64frombits", "math.sqrt", "math.Float64bits", "math.archTrunc"], apart := false }
def FnExactArcBetweenSaid : Prop := fnExactArcBetweenRow.holds Try.pinned (OpenSpec.ofChange fnExactArcBetweenSpec)

/-- ITS FALSE NEIGHBOUR: 'it returns false'. Refute it at one input. -/
def fnExactArcBetweenWrong : ChangeSpec := { name := "fnExactArcBetween", fn := fun _ => fun
  | [d1, d2] => { results := [.lit (.bool false)], args := [d1, d2] }
  | _ => none }
def FnExactArcBetweenWrongFalsely : Prop := fnExactArcBetweenRow.holds Try.pinned (OpenSpec.ofChange fnExactArcBetweenWrong)

/-- 'laws.FnExactRiseAt': WHATEVER THE INPUT: true; the input reads as it did. -/
def fnExactRiseAtSpec : ChangeSpec := { name := "fnExactRiseAt", fn := fun _ => fun
  | [d1, d2, d3, d4] => { results := [.lit (.bool true)], args := [d1, d2, d3, d4] }
  | _ => none }
def fnExactRiseAtRow : OpenClaim := { program := "ytkjggmfblkkopaa", sum := "58c99fe2791c9b5105d4b721770254db47588d80ec5029b49be956a92881fe6c", func := "loop.example/g01284/laws.FnExactRiseAt", spec := "fnExactRiseAt", inPlace := ["math.Float64frombits", "math.sqrt", "math.Float64bits", "math.archTrunc"], unfollowed := true, recurses := true, apart := false }
def FnExactRiseAtSaid : Prop := fnExactRiseAtRow.holds Try.pinned (OpenSpec.ofChange fnExactRiseAtSpec)

/-- ITS FALSE NEIGHBOUR: 'it returns false'. Refute it at one input. -/
def fnExactRiseAtWrong : ChangeSpec := { name := "fnExactRiseAt", fn := fun _ => fun
  | [d1, d2, d3, d4] => { results := [.lit (.bool false)], args := [d1, d2, d3, d4] }
  | _ => none }
def FnExactRiseAtWrongFalsely : Prop := fnExactRiseAtRow.holds Try.pinned (OpenSpec.ofChange fnExactRiseAtWrong)

/-- 'laws.FnExactWrapTurn': WHATEVER THE INPUT: true; the input reads as it did. -/
def fnExactWrapTurnSpec : ChangeSpec := { name := "fnExactWrapTurn", fn := fun _ => fun
  | [d] => { results := [.lit (.bool true)], args := [d] }
  | _ => none }
def fnExactWrapTurnRow : OpenClaim := { program := "ytkjggmfblkkopaa", sum := "58c99fe2791c9b5105d4b721770254db47588d80ec5029b49be956a92881fe6c", func := "loop.example/g01284/laws.FnExactWrapTurn", spec := "fnExactWrapTurn", inPlace := ["math.archFloor", "math.Float64bits", "math.Float64frombits", "math.archTrunc"], apart := false }
def FnExactWrapTurnSaid : Prop := fnExactWrapTurnRow.holds Try.pinned (OpenSpec.ofChange fnExactWrapTurnSpec)

/-- ITS FALSE NEIGHBOUR: 'it returns false'. Refute it at one input. -/
def fnExactWrapTurnWrong : ChangeSpec := { name := "fnExactWrapTurn", fn := fun _ => fun
  | [d] => { results := [.lit (.bool false)], args := [d] }
  | _ => none }
def FnExactWrapTurnWrongFalsely : Prop := fnExactWrapTurnRow.holds Try.pinned (OpenSpec.ofChange fnExactWrapTurnWrong)

/-- 'laws.FnExactStillLong': WHATEVER THE INPUT: true; the input reads as it did. -/
def fnExactStillLongSpec : ChangeSpec := { name := "fnExactStillLong", fn := fun _ => fun
  | [d] => { results := [.lit (.bool true)], args := [d] }
  | _ => none }
def fnExactStillLongRow : OpenClaim := { program := "ytkjggmfblkkopaa", sum := "58c99fe2791c9b5105d4b721770254db47588d80ec5029b49be956a92881fe6c", func := "loop.example/g01284/laws.FnExactStillLong", spec := "fnExactStillLong", inPlace := ["math.Float64frombits", "math.Float64bits"], unfollowed := true, recurses := true, apart := false }
def FnExactStillLongSaid : Prop := fnExactStillLongRow.holds Try.pinned (OpenSpec.ofChange fnExactStillLongSpec)

/-- ITS FALSE NEIGHBOUR: 'it returns false'. Refute it at one input. -/
def fnExactStillLongWrong : ChangeSpec := { name := "fnExactStillLong", fn := fun _ => fun
  | [d] => { results := [.lit (.bool false)], args := [d] }
  | _ => none }
def FnExactStillLongWrongFalsely : Prop := fnExactStillLongRow.holds Try.pinned (OpenSpec.ofChange fnExactStillLongWrong)

/-- 'laws.FnExactSinkLong': WHATEVER THE INPUT: true; the input reads as it did. -/
def fnExactSinkLongSpec : ChangeSpec := { name := "fnExactSinkLong", fn := fun _ => fun
  | [d1, d2, d3, d4, d5, d6] => { results := [.lit (.bool true)], args := [d1, d2, d3, d4, d5, d6] }
  | _ => none }
def fnExactSinkLongRow : OpenClaim := { program := "ytkjggmfblkkopaa", sum := "58c99fe2791c9b5105d4b721770254db47588d80ec5029b49be956a92881fe6c", func := "loop.example/g01284/laws.FnExactSinkLong", spec := "fnExactSinkLong", inPlace := ["math.Float64frombits", "math.sqrt", "math.Float64bits"], unfollowed := true, recurses := true, apart := false }
def FnExactSinkLongSaid : Prop := fnExactSinkLongRow.holds Try.pinned (OpenSpec.ofChange fnExactSinkLongSpec)

/-- ITS FALSE NEIGHBOUR: 'it returns false'. Refute it at one input. -/
def fnExactSinkLongWrong : ChangeSpec := { name := "fnExactSinkLong", fn := fun _ => fun
  | [d1, d2, d3, d4, d5, d6] => { results := [.lit (.bool false)], args := [d1, d2, d3, d4, d5, d6] }
  | _ => none }
def FnExactSinkLongWrongFalsely : Prop := fnExactSinkLongRow.holds Try.pinned (OpenSpec.ofChange fnExactSinkLongWrong)

/-- 'laws.FnExactSinkRun': WHATEVER THE INPUT: true; the input reads as it did. -/
def fnExactSinkRunSpec : ChangeSpec := { name := "fnExactSinkRun", fn := fun _ => fun
  | [d1, d2, d3, d4, d5, d6, d7] => { results := [.lit (.bool true)], args := [d1, d2, d3, d4, d5, d6, d7] }
  | _ => none }
def fnExactSinkRunRow : OpenClaim := { program := "ytkjggmfblkkopaa", sum := "58c99fe2791c9b5105d4b721770254db47588d80ec5029b49be956a92881fe6c", func := "loop.example/g01284/laws.FnExactSinkRun", spec := "fnExactSinkRun", inPlace := ["math.Float64frombits", "math.sqrt", "math.Float64bits"], unfollowed := true, recurses := true, apart := false }
def FnExactSinkRunSaid : Prop := fnExactSinkRunRow.holds Try.pinned (OpenSpec.ofChange fnExactSinkRunSpec)

/-- ITS FALSE NEIGHBOUR: 'it returns false'. Refute it at one input. -/
def fnExactSinkRunWrong : ChangeSpec := { name := "fnExactSinkRun", fn := fun _ => fun
  | [d1, d2, d3, d4, d5, d6, d7] => { results := [.lit (.bool false)], args := [d1, d2, d3, d4, d5, d6, d7] }
  | _ => none }
def FnExactSinkRunWrongFalsely : Prop := fnExactSinkRunRow.holds Try.pinned (OpenSpec.ofChange fnExactSinkRunWrong)

/-- 'laws.FnExactCoverShare': WHATEVER THE INPUT: true; the input reads as it did. -/
def fnExactCoverShareSpec : ChangeSpec := { name := "fnExactCoverShare", fn := fun _ => fun
  | [d1, d2, d3] => { results := [.lit (.bool true)], args := [d1, d2, d3] }
  | _ => none }
def fnExactCoverShareRow : OpenClaim := { program := "ytkjggmfblkkopaa", sum := "58c99fe2791c9b5105d4b721770254db47588d80ec5029b49be956a92881fe6c", func := "loop.example/g01284/laws.FnExactCoverShare", spec := "fnExactCoverShare", inPlace := ["math.Float64frombits", "math.Float64bits", "math.archTrunc"], apart := false }
def FnExactCoverShareSaid : Prop := fnExactCoverShareRow.holds Try.pinned (OpenSpec.ofChange fnExactCoverShareSpec)

/-- ITS FALSE NEIGHBOUR: 'it returns false'. Refute it at one input. -/
def fnExactCoverShareWrong : ChangeSpec := { name := "fnExactCoverShare", fn := fun _ => fun
  | [d1, d2, d3] => { results := [.lit (.bool false)], args := [d1, d2, d3] }
  | _ => none }
def FnExactCoverShareWrongFalsely : Prop := fnExactCoverShareRow.holds Try.pinned (OpenSpec.ofChange fnExactCoverShareWrong)

/-- 'laws.FnExactTurnBodies': WHATEVER THE INPUT: true; the input reads as it did. -/
def fnExactTurnBodiesSpec : ChangeSpec := { name := "fnExactTurnBodies", fn := fun _ => fun
  | [d1, d2] => { results := [.lit (.bool true)], args := [d1, d2] }
  | _ => none }
def fnExactTurnBodiesRow : OpenClaim := { program := "ytkjggmfblkkopaa", sum := "58c99fe2791c9b5105d4b721770254db47588d80ec5029b49be956a92881fe6c", func := "loop.example/g01284/laws.FnExactTurnBodies", spec := "fnExactTurnBodies", inPlace := ["math.Float64frombits", "math.Float64bits", "math.archTrunc"], unfollowed := true, recurses := true, apart := false }
def FnExactTurnBodiesSaid : Prop := fnExactTurnBodiesRow.holds Try.pinned (OpenSpec.ofChange fnExactTurnBodiesSpec)

/-- ITS FALSE NEIGHBOUR: 'it returns false'. Refute it at one input. -/
def fnExactTurnBodiesWrong : ChangeSpec := { name := "fnExactTurnBodies", fn := fun _ => fun
  | [d1, d2] => { results := [.lit (.bool false)], args := [d1, d2] }
  | _ => none }
def FnExactTurnBodiesWrongFalsely : Prop := fnExactTurnBodiesRow.holds Try.pinned (OpenSpec.ofChange fnExactTurnBodiesWrong)

/-- 'laws.FnExactLongestPass': WHATEVER THE INPUT: true; the input reads as it did. -/
def fnExactLongestPassSpec : ChangeSpec := { name := "fnExactLongestPass", fn := fun _ => fun
  | [d] => { results := [.lit (.bool true)], args := [d] }
  | _ => none }
def fnExactLongestPassRow : OpenClaim := { program := "ytkjggmfblkkopaa", sum := "58c99fe2791c9b5105d4b721770254db47588d80ec5029b49be956a92881fe6c", func := "loop.example/g01284/laws.FnExactLongestPass", spec := "fnExactLongestPass", apart := false }
def FnExactLongestPassSaid : Prop := fnExactLongestPassRow.holds Try.pinned (OpenSpec.ofChange fnExactLongestPassSpec)

/-- ITS FALSE NEIGHBOUR: 'it returns false'. Refute it at one input. -/
def fnExactLongestPassWrong : ChangeSpec := { name := "fnExactLongestPass", fn := fun _ => fun
  | [d] => { results := [.lit (.bool false)], args := [d] }
  | _ => none }
def FnExactLongestPassWrongFalsely : Prop := fnExactLongestPassRow.holds Try.pinned (OpenSpec.ofChange fnExactLongestPassWrong)

/- THE SECOND FORM. 'bulk': how many values and letters a reading holds, each counted each time it is reached (what is shared counts as often as it is met; a slice's spare places count too). A statement '..UptoSaid' is the law's where the arguments, and the package variables that the reading takes, are together of bulk at most 1048576: NARROWER than '..Said'. Prove '..Said' where nothing that the law and all that it calls make is longer than what came in: it says more and counts as full. Else prove '..UptoSaid'. A law counts once. -/
mutual
def uptoBulk {H : Type} : DataW H → Nat
  | .lit (.string bytes) => bytes.length + 1
  | .lit _ => 1
  | .nil => 1
  | .ptr d => uptoBulk d + 1
  | .slice elems spare => uptoBulkAll elems + uptoBulkAll spare + 1
  | .agg parts => uptoBulkAll parts + 1
  | .iface _ d => uptoBulk d + 1
  | .map entries => uptoBulkEntries entries + 1
  | .held _ => 1
def uptoBulkAll {H : Type} : List (DataW H) → Nat
  | [] => 0
  | d :: r => uptoBulk d + uptoBulkAll r
def uptoBulkEntries {H : Type} : List (Lit × DataW H) → Nat
  | [] => 0
  | x :: r => uptoBulkEntry x + uptoBulkEntries r
def uptoBulkEntry {H : Type} : Lit × DataW H → Nat
  | (.string bytes, d) => bytes.length + uptoBulk d + 1
  | (_, d) => uptoBulk d + 1
 end
def uptoSmall : (H : Type) → List (DataW H) → Bool := fun _ ds => decide (uptoBulkAll ds ≤ 1048576)
def OpenSpec.upto (s : _root_.Go.ChangeSpec) : _root_.Go.OpenSpec := { _root_.Go.OpenSpec.ofChange s with cond := some uptoSmall }

/-- 'laws.FnExactInShadow', WHERE WHAT IT READS IS OF BULK AT MOST 1048576: true; the input reads as it did. -/
def fnExactInShadowUptoRow : OpenClaim := { program := "ytkjggmfblkkopaa", sum := "58c99fe2791c9b5105d4b721770254db47588d80ec5029b49be956a92881fe6c", func := "loop.example/g01284/laws.FnExactInShadow", spec := "fnExactInShadow", inPlace := ["math.sqrt", "math.Float64bits", "math.Float64frombits"], unfollowed := true, recurses := true, apart := false, narrowed := true }
def FnExactInShadowUptoSaid : Prop := fnExactInShadowUptoRow.holds Try.pinned (OpenSpec.upto fnExactInShadowSpec)

/-- 'laws.FnExactHorizonOf', WHERE WHAT IT READS IS OF BULK AT MOST 1048576: true; the input reads as it did. -/
def fnExactHorizonOfUptoRow : OpenClaim := { program := "ytkjggmfblkkopaa", sum := "58c99fe2791c9b5105d4b721770254db47588d80ec5029b49be956a92881fe6c", func := "loop.example/g01284/laws.FnExactHorizonOf", spec := "fnExactHorizonOf", inPlace := ["math.sqrt", "math.Float64frombits", "math.Float64bits"], unfollowed := true, recurses := true, apart := false, narrowed := true }
def FnExactHorizonOfUptoSaid : Prop := fnExactHorizonOfUptoRow.holds Try.pinned (OpenSpec.upto fnExactHorizonOfSpec)

/-- 'laws.FnExactPlaceOf', WHERE WHAT IT READS IS OF BULK AT MOST 1048576: true; the input reads as it did. -/
def fnExactPlaceOfUptoRow : OpenClaim := { program := "ytkjggmfblkkopaa", sum := "58c99fe2791c9b5105d4b721770254db47588d80ec5029b49be956a92881fe6c", func := "loop.example/g01284/laws.FnExactPlaceOf", spec := "fnExactPlaceOf", inPlace := ["math.Float64frombits", "math.Float64bits", "math.archTrunc"], unfollowed := true, recurses := true, apart := false, narrowed := true }
def FnExactPlaceOfUptoSaid : Prop := fnExactPlaceOfUptoRow.holds Try.pinned (OpenSpec.upto fnExactPlaceOfSpec)

/-- 'laws.FnExactArcBetween', WHERE WHAT IT READS IS OF BULK AT MOST 1048576: true; the input reads as it did. -/
def fnExactArcBetweenUptoRow : OpenClaim := { program := "ytkjggmfblkkopaa", sum := "58c99fe2791c9b5105d4b721770254db47588d80ec5029b49be956a92881fe6c", func := "loop.example/g01284/laws.FnExactArcBetween", spec := "fnExactArcBetween", inPlace := ["math.Float64frombits", "math.sqrt", "math.Float64bits", "math.archTrunc"], apart := false, narrowed := true }
def FnExactArcBetweenUptoSaid : Prop := fnExactArcBetweenUptoRow.holds Try.pinned (OpenSpec.upto fnExactArcBetweenSpec)

/-- 'laws.FnExactRiseAt', WHERE WHAT IT READS IS OF BULK AT MOST 1048576: true; the input reads as it did. -/
def fnExactRiseAtUptoRow : OpenClaim := { program := "ytkjggmfblkkopaa", sum := "58c99fe2791c9b5105d4b721770254db47588d80ec5029b49be956a92881fe6c", func := "loop.example/g01284/laws.FnExactRiseAt", spec := "fnExactRiseAt", inPlace := ["math.Float64frombits", "math.sqrt", "math.Float64bits", "math.archTrunc"], unfollowed := true, recurses := true, apart := false, narrowed := true }
def FnExactRiseAtUptoSaid : Prop := fnExactRiseAtUptoRow.holds Try.pinned (OpenSpec.upto fnExactRiseAtSpec)

/-- 'laws.FnExactWrapTurn', WHERE WHAT IT READS IS OF BULK AT MOST 1048576: true; the input reads as it did. -/
def fnExactWrapTurnUptoRow : OpenClaim := { program := "ytkjggmfblkkopaa", sum := "58c99fe2791c9b5105d4b721770254db47588d80ec5029b49be956a92881fe6c", func := "loop.example/g01284/laws.FnExactWrapTurn", spec := "fnExactWrapTurn", inPlace := ["math.archFloor", "math.Float64bits", "math.Float64frombits", "math.archTrunc"], apart := false, narrowed := true }
def FnExactWrapTurnUptoSaid : Prop := fnExactWrapTurnUptoRow.holds Try.pinned (OpenSpec.upto fnExactWrapTurnSpec)

/-- 'laws.FnExactStillLong', WHERE WHAT IT READS IS OF BULK AT MOST 1048576: true; the input reads as it did. -/
def fnExactStillLongUptoRow : OpenClaim := { program := "ytkjggmfblkkopaa", sum := "58c99fe2791c9b5105d4b721770254db47588d80ec5029b49be956a92881fe6c", func := "loop.example/g01284/laws.FnExactStillLong", spec := "fnExactStillLong", inPlace := ["math.Float64frombits", "math.Float64bits"], unfollowed := true, recurses := true, apart := false, narrowed := true }
def FnExactStillLongUptoSaid : Prop := fnExactStillLongUptoRow.holds Try.pinned (OpenSpec.upto fnExactStillLongSpec)

/-- 'laws.FnExactSinkLong', WHERE WHAT IT READS IS OF BULK AT MOST 1048576: true; the input reads as it did. -/
def fnExactSinkLongUptoRow : OpenClaim := { program := "ytkjggmfblkkopaa", sum := "58c99fe2791c9b5105d4b721770254db47588d80ec5029b49be956a92881fe6c", func := "loop.example/g01284/laws.FnExactSinkLong", spec := "fnExactSinkLong", inPlace := ["math.Float64frombits", "math.sqrt", "math.Float64bits"], unfollowed := true, recurses := true, apart := false, narrowed := true }
def FnExactSinkLongUptoSaid : Prop := fnExactSinkLongUptoRow.holds Try.pinned (OpenSpec.upto fnExactSinkLongSpec)

/-- 'laws.FnExactSinkRun', WHERE WHAT IT READS IS OF BULK AT MOST 1048576: true; the input reads as it did. -/
def fnExactSinkRunUptoRow : OpenClaim := { program := "ytkjggmfblkkopaa", sum := "58c99fe2791c9b5105d4b721770254db47588d80ec5029b49be956a92881fe6c", func := "loop.example/g01284/laws.FnExactSinkRun", spec := "fnExactSinkRun", inPlace := ["math.Float64frombits", "math.sqrt", "math.Float64bits"], unfollowed := true, recurses := true, apart := false, narrowed := true }
def FnExactSinkRunUptoSaid : Prop := fnExactSinkRunUptoRow.holds Try.pinned (OpenSpec.upto fnExactSinkRunSpec)

/-- 'laws.FnExactCoverShare', WHERE WHAT IT READS IS OF BULK AT MOST 1048576: true; the input reads as it did. -/
def fnExactCoverShareUptoRow : OpenClaim := { program := "ytkjggmfblkkopaa", sum := "58c99fe2791c9b5105d4b721770254db47588d80ec5029b49be956a92881fe6c", func := "loop.example/g01284/laws.FnExactCoverShare", spec := "fnExactCoverShare", inPlace := ["math.Float64frombits", "math.Float64bits", "math.archTrunc"], apart := false, narrowed := true }
def FnExactCoverShareUptoSaid : Prop := fnExactCoverShareUptoRow.holds Try.pinned (OpenSpec.upto fnExactCoverShareSpec)

/-- 'laws.FnExactTurnBodies', WHERE WHAT IT READS IS OF BULK AT MOST 1048576: true; the input reads as it did. -/
def fnExactTurnBodiesUptoRow : OpenClaim := { program := "ytkjggmfblkkopaa", sum := "58c99fe2791c9b5105d4b721770254db47588d80ec5029b49be956a92881fe6c", func := "loop.example/g01284/laws.FnExactTurnBodies", spec := "fnExactTurnBodies", inPlace := ["math.Float64frombits", "math.Float64bits", "math.archTrunc"], unfollowed := true, recurses := true, apart := false, narrowed := true }
def FnExactTurnBodiesUptoSaid : Prop := fnExactTurnBodiesUptoRow.holds Try.pinned (OpenSpec.upto fnExactTurnBodiesSpec)

/-- 'laws.FnExactLongestPass', WHERE WHAT IT READS IS OF BULK AT MOST 1048576: true; the input reads as it did. -/
def fnExactLongestPassUptoRow : OpenClaim := { program := "ytkjggmfblkkopaa", sum := "58c99fe2791c9b5105d4b721770254db47588d80ec5029b49be956a92881fe6c", func := "loop.example/g01284/laws.FnExactLongestPass", spec := "fnExactLongestPass", apart := false, narrowed := true }
def FnExactLongestPassUptoSaid : Prop := fnExactLongestPassUptoRow.holds Try.pinned (OpenSpec.upto fnExactLongestPassSpec)

end Rows
end Go.Proofs.Ytkjggmfblkkopaa
