/-
  No cell of these rows narrows 'for every input' (looked for: loops, veiled, ifaces, maps, wideKeys, modest, calm, conditions, laid).
  DERIVED. THE GIVEN ROWS OF THIS SEAT. 6 by the template 'for every input the law returns true; each argument reads behind the call as it read before'; 0 by the template 'total and deterministic' (their statements: YtjgmmhknelimmaaTotals.lean).
  GIVEN WITH THE SEED: the statements are not yours to turn. If you find one false, say at which input.
  Laid BY PROGRAM, IN A SANDBOX (cutbox-rows.mjs): the forced cells as the released guide's own fill.sh prints them over the translation 537d3766ba462424… (all of the seat's roots in one cut). By AI agents, Wed Nov 11 2026. No macro, syntax, notation, axiom, sorry.
-/
import Derived.Test.YtjgmmhknelimmaaChecked
import GoSem.Claim
import GoSem.ClaimJoined
import GoSem.ClaimMapViews
import Derived.JoinedTies
import Derived.KernelRfl
namespace Go.Proofs.Ytjgmmhknelimmaa
/- THE CELL 'sum', in the pinned program and in every row, IS THE sha256 OF THE DUMP (.gsa) THAT YtjgmmhknelimmaaProg.lean LOADS. Nothing in Lean hashes anything: it is a label: what it is worth is what the hold of that sum in a sandbox is worth. -/
noncomputable def Try.pinned : Pinned := { name := "ytjgmmhknelimmaa", sum := "537d3766ba462424eacfc87fcc4d94da57ea588f12cbdc320ca6cc208b5e239c", checked := Try.checked }
namespace Rows
def none {H : Type} : Left H := { results := [], args := [] }

/-- 'laws.FnExactValidMark': WHATEVER THE INPUT: true; the input reads as it did. -/
def fnExactValidMarkSpec : ChangeSpec := { name := "fnExactValidMark", fn := fun _ => fun
  | [d] => { results := [.lit (.bool true)], args := [d] }
  | _ => none }
def fnExactValidMarkRow : OpenClaim := { program := "ytjgmmhknelimmaa", sum := "537d3766ba462424eacfc87fcc4d94da57ea588f12cbdc320ca6cc208b5e239c", func := "loop.example/g01284/laws.FnExactValidMark", spec := "fnExactValidMark", inPlace := ["math.Float64bits", "math.Float64frombits"], apart := false }
def FnExactValidMarkSaid : Prop := fnExactValidMarkRow.holds Try.pinned (OpenSpec.ofChange fnExactValidMarkSpec)

/-- ITS FALSE NEIGHBOUR: 'it returns false'. Refute it at one input. -/
def fnExactValidMarkWrong : ChangeSpec := { name := "fnExactValidMark", fn := fun _ => fun
  | [d] => { results := [.lit (.bool false)], args := [d] }
  | _ => none }
def FnExactValidMarkWrongFalsely : Prop := fnExactValidMarkRow.holds Try.pinned (OpenSpec.ofChange fnExactValidMarkWrong)

/-- 'laws.FnExactSameMark': WHATEVER THE INPUT: true; the input reads as it did. -/
def fnExactSameMarkSpec : ChangeSpec := { name := "fnExactSameMark", fn := fun _ => fun
  | [d1, d2] => { results := [.lit (.bool true)], args := [d1, d2] }
  | _ => none }
def fnExactSameMarkRow : OpenClaim := { program := "ytjgmmhknelimmaa", sum := "537d3766ba462424eacfc87fcc4d94da57ea588f12cbdc320ca6cc208b5e239c", func := "loop.example/g01284/laws.FnExactSameMark", spec := "fnExactSameMark", inPlace := ["math.Float32bits", "math.Float64bits"], unfollowed := true, recurses := true, apart := false }
def FnExactSameMarkSaid : Prop := fnExactSameMarkRow.holds Try.pinned (OpenSpec.ofChange fnExactSameMarkSpec)

/-- ITS FALSE NEIGHBOUR: 'it returns false'. Refute it at one input. -/
def fnExactSameMarkWrong : ChangeSpec := { name := "fnExactSameMark", fn := fun _ => fun
  | [d1, d2] => { results := [.lit (.bool false)], args := [d1, d2] }
  | _ => none }
def FnExactSameMarkWrongFalsely : Prop := fnExactSameMarkRow.holds Try.pinned (OpenSpec.ofChange fnExactSameMarkWrong)

/-- 'laws.FnExactSameVector': WHATEVER THE INPUT: true; the input reads as it did. -/
def fnExactSameVectorSpec : ChangeSpec := { name := "fnExactSameVector", fn := fun _ => fun
  | [d1, d2] => { results := [.lit (.bool true)], args := [d1, d2] }
  | _ => none }
def fnExactSameVectorRow : OpenClaim := { program := "ytjgmmhknelimmaa", sum := "537d3766ba462424eacfc87fcc4d94da57ea588f12cbdc320ca6cc208b5e239c", func := "loop.example/g01284/laws.FnExactSameVector", spec := "fnExactSameVector", inPlace := ["math.Float32bits", "math.Float64bits"], unfollowed := true, recurses := true, apart := false }
def FnExactSameVectorSaid : Prop := fnExactSameVectorRow.holds Try.pinned (OpenSpec.ofChange fnExactSameVectorSpec)

/-- ITS FALSE NEIGHBOUR: 'it returns false'. Refute it at one input. -/
def fnExactSameVectorWrong : ChangeSpec := { name := "fnExactSameVector", fn := fun _ => fun
  | [d1, d2] => { results := [.lit (.bool false)], args := [d1, d2] }
  | _ => none }
def FnExactSameVectorWrongFalsely : Prop := fnExactSameVectorRow.holds Try.pinned (OpenSpec.ofChange fnExactSameVectorWrong)

/-- 'laws.FnExactSameBall': WHATEVER THE INPUT: true; the input reads as it did. -/
def fnExactSameBallSpec : ChangeSpec := { name := "fnExactSameBall", fn := fun _ => fun
  | [d1, d2] => { results := [.lit (.bool true)], args := [d1, d2] }
  | _ => none }
def fnExactSameBallRow : OpenClaim := { program := "ytjgmmhknelimmaa", sum := "537d3766ba462424eacfc87fcc4d94da57ea588f12cbdc320ca6cc208b5e239c", func := "loop.example/g01284/laws.FnExactSameBall", spec := "fnExactSameBall", inPlace := ["math.Float32bits", "math.Float64bits"], unfollowed := true, recurses := true, apart := false }
def FnExactSameBallSaid : Prop := fnExactSameBallRow.holds Try.pinned (OpenSpec.ofChange fnExactSameBallSpec)

/-- ITS FALSE NEIGHBOUR: 'it returns false'. Refute it at one input. -/
def fnExactSameBallWrong : ChangeSpec := { name := "fnExactSameBall", fn := fun _ => fun
  | [d1, d2] => { results := [.lit (.bool false)], args := [d1, d2] }
  | _ => none }
def FnExactSameBallWrongFalsely : Prop := fnExactSameBallRow.holds Try.pinned (OpenSpec.ofChange fnExactSameBallWrong)

/-- 'laws.FnExactLongestPass': WHATEVER THE INPUT: true; the input reads as it did. -/
def fnExactLongestPassSpec : ChangeSpec := { name := "fnExactLongestPass", fn := fun _ => fun
  | [d] => { results := [.lit (.bool true)], args := [d] }
  | _ => none }
def fnExactLongestPassRow : OpenClaim := { program := "ytjgmmhknelimmaa", sum := "537d3766ba462424eacfc87fcc4d94da57ea588f12cbdc320ca6cc208b5e239c", func := "loop.example/g01284/laws.FnExactLongestPass", spec := "fnExactLongestPass", apart := false }
def FnExactLongestPassSaid : Prop := fnExactLongestPassRow.holds Try.pinned (OpenSpec.ofChange fnExactLongestPassSpec)

/-- ITS FALSE NEIGHBOUR: 'it returns false'. Refute it at one input. -/
def fnExactLongestPassWrong : ChangeSpec := { name := "fnExactLongestPass", fn := fun _ => fun
  | [d] => { results := [.lit (.bool false)], args := [d] }
  | _ => none }
def FnExactLongestPassWrongFalsely : Prop := fnExactLongestPassRow.holds Try.pinned (OpenSpec.ofChange fnExactLongestPassWrong)

/-- 'laws.FnExactValidBall': WHATEVER THE INPUT: true; the input reads as it did. -/
def fnExactValidBallSpec : ChangeSpec := { name := "fnExactValidBall", fn := fun _ => fun
  | [d] => { results := [.lit (.bool true)], args := [d] }
  | _ => none }
def fnExactValidBallRow : OpenClaim := { program := "ytjgmmhknelimmaa", sum := "537d3766ba462424eacfc87fcc4d94da57ea588f12cbdc320ca6cc208b5e239c", func := "loop.example/g01284/laws.FnExactValidBall", spec := "fnExactValidBall", inPlace := ["math.Float64bits", "math.Float64frombits"], unfollowed := true, recurses := true, apart := false }
def FnExactValidBallSaid : Prop := fnExactValidBallRow.holds Try.pinned (OpenSpec.ofChange fnExactValidBallSpec)

/-- ITS FALSE NEIGHBOUR: 'it returns false'. Refute it at one input. -/
def fnExactValidBallWrong : ChangeSpec := { name := "fnExactValidBall", fn := fun _ => fun
  | [d] => { results := [.lit (.bool false)], args := [d] }
  | _ => none }
def FnExactValidBallWrongFalsely : Prop := fnExactValidBallRow.holds Try.pinned (OpenSpec.ofChange fnExactValidBallWrong)

/- THE SECOND FORM. 'bulk': how many values and letters a reading holds, each counted each time it is reached (what is shared counts as often as it is met; a slice's spare places count too). A statement '..UptoSaid' is the law's where the arguments, and the package variables that the reading takes, are together of bulk at most 1048576: NARROWER than '..Said'. Prove '..Said' where nothing that the law and all that it calls make is longer than what came in: it says more and counts as full. Else prove '..UptoSaid'. A law counts once. -/
mutual
def uptoBulk {H : Type} : DataW H → Nat
  | .lit (.string bytes) => bytes.length + 1
  | .lit _ => 1
  | .nil => 1
  | .ptr d => uptoBulk d + 1
  | .slice elems spare => uptoBulkAll elems + uptoBulkAll spare + 1
  | .agg parts => uptoBulkAll parts + 1
  | .iface _ d => uptoBulk d + 1
  | .map entries => uptoBulkEntries entries + 1
  | .held _ => 1
def uptoBulkAll {H : Type} : List (DataW H) → Nat
  | [] => 0
  | d :: r => uptoBulk d + uptoBulkAll r
def uptoBulkEntries {H : Type} : List (Lit × DataW H) → Nat
  | [] => 0
  | x :: r => uptoBulkEntry x + uptoBulkEntries r
def uptoBulkEntry {H : Type} : Lit × DataW H → Nat
  | (.string bytes, d) => bytes.length + uptoBulk d + 1
  | (_, d) => uptoBulk d + 1
 end
def uptoSmall : (H : Type) → List (DataW H) → Bool := fun _ ds => decide (uptoBulkAll ds ≤ 1048576)
def OpenSpec.upto (s : _root_.Go.ChangeSpec) : _root_.Go.OpenSpec := { _root_.Go.OpenSpec.ofChange s with cond := some uptoSmall }

/-- 'laws.FnExactValidMark', WHERE WHAT IT READS IS OF BULK AT MOST 1048576: true; the input reads as it did. -/
def fnExactValidMarkUptoRow : OpenClaim := { program := "ytjgmmhknelimmaa", sum := "537d3766ba462424eacfc87fcc4d94da57ea588f12cbdc320ca6cc208b5e239c", func := "loop.example/g01284/laws.FnExactValidMark", spec := "fnExactValidMark", inPlace := ["math.Float64bits", "math.Float64frombits"], apart := false, narrowed := true }
def FnExactValidMarkUptoSaid : Prop := fnExactValidMarkUptoRow.holds Try.pinned (OpenSpec.upto fnExactValidMarkSpec)

/-- 'laws.FnExactSameMark', WHERE WHAT IT READS IS OF BULK AT MOST 1048576: true; the input reads as it did. -/
def fnExactSameMarkUptoRow : OpenClaim := { program := "ytjgmmhknelimmaa", sum := "537d3766ba462424eacfc87fcc4d94da57ea588f12cbdc320ca6cc208b5e239c", func := "loop.example/g01284/laws.FnExactSameMark", spec := "fnExactSameMark", inPlace := ["math.Float32bits", "math.Float64bits"], unfollowed := true, recurses := true, apart := false, narrowed := true }
def FnExactSameMarkUptoSaid : Prop := fnExactSameMarkUptoRow.holds Try.pinned (OpenSpec.upto fnExactSameMarkSpec)

/-- 'laws.FnExactSameVector', WHERE WHAT IT READS IS OF BULK AT MOST 1048576: true; the input reads as it did. -/
def fnExactSameVectorUptoRow : OpenClaim := { program := "ytjgmmhknelimmaa", sum := "537d3766ba462424eacfc87fcc4d94da57ea588f12cbdc320ca6cc208b5e239c", func := "loop.example/g01284/laws.FnExactSameVector", spec := "fnExactSameVector", inPlace := ["math.Float32bits", "math.Float64bits"], unfollowed := true, recurses := true, apart := false, narrowed := true }
def FnExactSameVectorUptoSaid : Prop := fnExactSameVectorUptoRow.holds Try.pinned (OpenSpec.upto fnExactSameVectorSpec)

/-- 'laws.FnExactSameBall', WHERE WHAT IT READS IS OF BULK AT MOST 1048576: true; the input reads as it did. -/
def fnExactSameBallUptoRow : OpenClaim := { program := "ytjgmmhknelimmaa", sum := "537d3766ba462424eacfc87fcc4d94da57ea588f12cbdc320ca6cc208b5e239c", func := "loop.example/g01284/laws.FnExactSameBall", spec := "fnExactSameBall", inPlace := ["math.Float32bits", "math.Float64bits"], unfollowed := true, recurses := true, apart := false, narrowed := true }
def FnExactSameBallUptoSaid : Prop := fnExactSameBallUptoRow.holds Try.pinned (OpenSpec.upto fnExactSameBallSpec)

/-- 'laws.FnExactLongestPass', WHERE WHAT IT READS IS OF BULK AT MOST 1048576: true; the input reads as it did. -/
def fnExactLongestPassUptoRow : OpenClaim := { program := "ytjgmmhknelimmaa", sum := "537d3766ba462424eacfc87fcc4d94da57ea588f12cbdc320ca6cc208b5e239c", func := "loop.example/g01284/laws.FnExactLongestPass", spec := "fnExactLongestPass", apart := false, narrowed := true }
def FnExactLongestPassUptoSaid : Prop := fnExactLongestPassUptoRow.holds Try.pinned (OpenSpec.upto fnExactLongestPassSpec)

/-- 'laws.FnExactValidBall', WHERE WHAT IT READS IS OF BULK AT MOST 1048576: true; the input reads as it did. -/
def fnExactValidBallUptoRow : OpenClaim := { program := "ytjgmmhknelimmaa", sum := "537d3766ba462424eacfc87fcc4d94da57ea588f12cbdc320ca6cc208b5e239c", func := "loop.example/g01284/laws.FnExactValidBall", spec := "fnExactValidBall", inPlace := ["math.Float64bits", "math.Float64frombits"], unfollowed := true, recurses := true, apart := false, narrowed := true }
def FnExactValidBallUptoSaid : Prop := fnExactValidBallUptoRow.holds Try.pinned (OpenSpec.upto fnExactValidBallSpec)

end Rows
end Go.Proofs.Ytjgmmhknelimmaa
