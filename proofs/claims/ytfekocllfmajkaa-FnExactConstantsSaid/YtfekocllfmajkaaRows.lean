/-
  No cell of these rows narrows 'for every input' (looked for: loops, veiled, ifaces, maps, wideKeys, modest, calm, conditions, laid).
  DERIVED. THE GIVEN ROWS OF THIS SEAT. 12 by the template 'for every input the law returns true; each argument reads behind the call as it read before'; 0 by the template 'total and deterministic' (their statements: YtfekocllfmajkaaTotals.lean).
  GIVEN WITH THE SEED: the statements are not yours to turn. If you find one false, say at which input.
  Laid BY PROGRAM, IN A SANDBOX (cutbox-rows.mjs): the forced cells as the released guide's own fill.sh prints them over the translation 3816818cf5fdf6ae… (all of the seat's roots in one cut). By AI agents, Wed Nov 11 2026. No macro, syntax, notation, axiom, sorry.
-/
import Derived.Test.YtfekocllfmajkaaChecked
import GoSem.Claim
import GoSem.ClaimJoined
import GoSem.ClaimMapViews
import Derived.JoinedTies
import Derived.KernelRfl
namespace Go.Proofs.Ytfekocllfmajkaa
/- THE CELL 'sum', in the pinned program and in every row, IS THE sha256 OF THE DUMP (.gsa) THAT YtfekocllfmajkaaProg.lean LOADS. Nothing in Lean hashes anything: it is a label: what it is worth is what the hold of that sum in a sandbox is worth. -/
noncomputable def Try.pinned : Pinned := { name := "ytfekocllfmajkaa", sum := "3816818cf5fdf6aee181802875e3beb636a993ecf372d6f69fe1154dbcd49e39", checked := Try.checked }
namespace Rows
def none {H : Type} : Left H := { results := [], args := [] }

/-- 'laws.FnExactConstants': WHATEVER THE INPUT: true; the input reads as it did. -/
def fnExactConstantsSpec : ChangeSpec := { name := "fnExactConstants", fn := fun _ => fun
  | [] => { results := [.lit (.bool true)], args := [] }
  | _ => none }
def fnExactConstantsRow : OpenClaim := { program := "ytfekocllfmajkaa", sum := "3816818cf5fdf6aee181802875e3beb636a993ecf372d6f69fe1154dbcd49e39", func := "loop.example/g00808/laws.FnExactConstants", spec := "fnExactConstants", apart := false }
def FnExactConstantsSaid : Prop := fnExactConstantsRow.holds Try.pinned (OpenSpec.ofChange fnExactConstantsSpec)

/-- ITS FALSE NEIGHBOUR: 'it returns false'. Refute it at one input. -/
def fnExactConstantsWrong : ChangeSpec := { name := "fnExactConstants", fn := fun _ => fun
  | [] => { results := [.lit (.bool false)], args := [] }
  | _ => none }
def FnExactConstantsWrongFalsely : Prop := fnExactConstantsRow.holds Try.pinned (OpenSpec.ofChange fnExactConstantsWrong)

/-- 'laws.FnExactCutValue': WHATEVER THE INPUT: true; the input reads as it did. -/
def fnExactCutValueSpec : ChangeSpec := { name := "fnExactCutValue", fn := fun _ => fun
  | [d] => { results := [.lit (.bool true)], args := [d] }
  | _ => none }
def fnExactCutValueRow : OpenClaim := { program := "ytfekocllfmajkaa", sum := "3816818cf5fdf6aee181802875e3beb636a993ecf372d6f69fe1154dbcd49e39", func := "loop.example/g00808/laws.FnExactCutValue", spec := "fnExactCutValue", apart := false }
def FnExactCutValueSaid : Prop := fnExactCutValueRow.holds Try.pinned (OpenSpec.ofChange fnExactCutValueSpec)

/-- ITS FALSE NEIGHBOUR: 'it returns false'. Refute it at one input. -/
def fnExactCutValueWrong : ChangeSpec := { name := "fnExactCutValue", fn := fun _ => fun
  | [d] => { results := [.lit (.bool false)], args := [d] }
  | _ => none }
def FnExactCutValueWrongFalsely : Prop := fnExactCutValueRow.holds Try.pinned (OpenSpec.ofChange fnExactCutValueWrong)

/-- 'laws.FnExactNearBy': WHATEVER THE INPUT: true; the input reads as it did. -/
def fnExactNearBySpec : ChangeSpec := { name := "fnExactNearBy", fn := fun _ => fun
  | [d1, d2, d3] => { results := [.lit (.bool true)], args := [d1, d2, d3] }
  | _ => none }
def fnExactNearByRow : OpenClaim := { program := "ytfekocllfmajkaa", sum := "3816818cf5fdf6aee181802875e3beb636a993ecf372d6f69fe1154dbcd49e39", func := "loop.example/g00808/laws.FnExactNearBy", spec := "fnExactNearBy", apart := false }
def FnExactNearBySaid : Prop := fnExactNearByRow.holds Try.pinned (OpenSpec.ofChange fnExactNearBySpec)

/-- ITS FALSE NEIGHBOUR: 'it returns false'. Refute it at one input. -/
def fnExactNearByWrong : ChangeSpec := { name := "fnExactNearBy", fn := fun _ => fun
  | [d1, d2, d3] => { results := [.lit (.bool false)], args := [d1, d2, d3] }
  | _ => none }
def FnExactNearByWrongFalsely : Prop := fnExactNearByRow.holds Try.pinned (OpenSpec.ofChange fnExactNearByWrong)

/-- 'laws.FnExactCeilDiv': WHATEVER THE INPUT: true; the input reads as it did. -/
def fnExactCeilDivSpec : ChangeSpec := { name := "fnExactCeilDiv", fn := fun _ => fun
  | [d1, d2] => { results := [.lit (.bool true)], args := [d1, d2] }
  | _ => none }
def fnExactCeilDivRow : OpenClaim := { program := "ytfekocllfmajkaa", sum := "3816818cf5fdf6aee181802875e3beb636a993ecf372d6f69fe1154dbcd49e39", func := "loop.example/g00808/laws.FnExactCeilDiv", spec := "fnExactCeilDiv", apart := false }
def FnExactCeilDivSaid : Prop := fnExactCeilDivRow.holds Try.pinned (OpenSpec.ofChange fnExactCeilDivSpec)

/-- ITS FALSE NEIGHBOUR: 'it returns false'. Refute it at one input. -/
def fnExactCeilDivWrong : ChangeSpec := { name := "fnExactCeilDiv", fn := fun _ => fun
  | [d1, d2] => { results := [.lit (.bool false)], args := [d1, d2] }
  | _ => none }
def FnExactCeilDivWrongFalsely : Prop := fnExactCeilDivRow.holds Try.pinned (OpenSpec.ofChange fnExactCeilDivWrong)

/-- 'laws.FnExactFloorDiv': WHATEVER THE INPUT: true; the input reads as it did. -/
def fnExactFloorDivSpec : ChangeSpec := { name := "fnExactFloorDiv", fn := fun _ => fun
  | [d1, d2] => { results := [.lit (.bool true)], args := [d1, d2] }
  | _ => none }
def fnExactFloorDivRow : OpenClaim := { program := "ytfekocllfmajkaa", sum := "3816818cf5fdf6aee181802875e3beb636a993ecf372d6f69fe1154dbcd49e39", func := "loop.example/g00808/laws.FnExactFloorDiv", spec := "fnExactFloorDiv", apart := false }
def FnExactFloorDivSaid : Prop := fnExactFloorDivRow.holds Try.pinned (OpenSpec.ofChange fnExactFloorDivSpec)

/-- ITS FALSE NEIGHBOUR: 'it returns false'. Refute it at one input. -/
def fnExactFloorDivWrong : ChangeSpec := { name := "fnExactFloorDiv", fn := fun _ => fun
  | [d1, d2] => { results := [.lit (.bool false)], args := [d1, d2] }
  | _ => none }
def FnExactFloorDivWrongFalsely : Prop := fnExactFloorDivRow.holds Try.pinned (OpenSpec.ofChange fnExactFloorDivWrong)

/-- 'laws.FnExactNameOk': WHATEVER THE INPUT: true; the input reads as it did. -/
def fnExactNameOkSpec : ChangeSpec := { name := "fnExactNameOk", fn := fun _ => fun
  | [d] => { results := [.lit (.bool true)], args := [d] }
  | _ => none }
def fnExactNameOkRow : OpenClaim := { program := "ytfekocllfmajkaa", sum := "3816818cf5fdf6aee181802875e3beb636a993ecf372d6f69fe1154dbcd49e39", func := "loop.example/g00808/laws.FnExactNameOk", spec := "fnExactNameOk", apart := false }
def FnExactNameOkSaid : Prop := fnExactNameOkRow.holds Try.pinned (OpenSpec.ofChange fnExactNameOkSpec)

/-- ITS FALSE NEIGHBOUR: 'it returns false'. Refute it at one input. -/
def fnExactNameOkWrong : ChangeSpec := { name := "fnExactNameOk", fn := fun _ => fun
  | [d] => { results := [.lit (.bool false)], args := [d] }
  | _ => none }
def FnExactNameOkWrongFalsely : Prop := fnExactNameOkRow.holds Try.pinned (OpenSpec.ofChange fnExactNameOkWrong)

/-- 'laws.FnExactCompareRatios': WHATEVER THE INPUT: true; the input reads as it did. -/
def fnExactCompareRatiosSpec : ChangeSpec := { name := "fnExactCompareRatios", fn := fun _ => fun
  | [d1, d2, d3, d4] => { results := [.lit (.bool true)], args := [d1, d2, d3, d4] }
  | _ => none }
def fnExactCompareRatiosRow : OpenClaim := { program := "ytfekocllfmajkaa", sum := "3816818cf5fdf6aee181802875e3beb636a993ecf372d6f69fe1154dbcd49e39", func := "loop.example/g00808/laws.FnExactCompareRatios", spec := "fnExactCompareRatios", apart := false }
def FnExactCompareRatiosSaid : Prop := fnExactCompareRatiosRow.holds Try.pinned (OpenSpec.ofChange fnExactCompareRatiosSpec)

/-- ITS FALSE NEIGHBOUR: 'it returns false'. Refute it at one input. -/
def fnExactCompareRatiosWrong : ChangeSpec := { name := "fnExactCompareRatios", fn := fun _ => fun
  | [d1, d2, d3, d4] => { results := [.lit (.bool false)], args := [d1, d2, d3, d4] }
  | _ => none }
def FnExactCompareRatiosWrongFalsely : Prop := fnExactCompareRatiosRow.holds Try.pinned (OpenSpec.ofChange fnExactCompareRatiosWrong)

/-- 'laws.FnExactSampleOk': WHATEVER THE INPUT: true; the input reads as it did. -/
def fnExactSampleOkSpec : ChangeSpec := { name := "fnExactSampleOk", fn := fun _ => fun
  | [d] => { results := [.lit (.bool true)], args := [d] }
  | _ => none }
def fnExactSampleOkRow : OpenClaim := { program := "ytfekocllfmajkaa", sum := "3816818cf5fdf6aee181802875e3beb636a993ecf372d6f69fe1154dbcd49e39", func := "loop.example/g00808/laws.FnExactSampleOk", spec := "fnExactSampleOk", apart := false }
def FnExactSampleOkSaid : Prop := fnExactSampleOkRow.holds Try.pinned (OpenSpec.ofChange fnExactSampleOkSpec)

/-- ITS FALSE NEIGHBOUR: 'it returns false'. Refute it at one input. -/
def fnExactSampleOkWrong : ChangeSpec := { name := "fnExactSampleOk", fn := fun _ => fun
  | [d] => { results := [.lit (.bool false)], args := [d] }
  | _ => none }
def FnExactSampleOkWrongFalsely : Prop := fnExactSampleOkRow.holds Try.pinned (OpenSpec.ofChange fnExactSampleOkWrong)

/-- 'laws.FnExactAddValues': WHATEVER THE INPUT: true; the input reads as it did. -/
def fnExactAddValuesSpec : ChangeSpec := { name := "fnExactAddValues", fn := fun _ => fun
  | [d] => { results := [.lit (.bool true)], args := [d] }
  | _ => none }
def fnExactAddValuesRow : OpenClaim := { program := "ytfekocllfmajkaa", sum := "3816818cf5fdf6aee181802875e3beb636a993ecf372d6f69fe1154dbcd49e39", func := "loop.example/g00808/laws.FnExactAddValues", spec := "fnExactAddValues", apart := false }
def FnExactAddValuesSaid : Prop := fnExactAddValuesRow.holds Try.pinned (OpenSpec.ofChange fnExactAddValuesSpec)

/-- ITS FALSE NEIGHBOUR: 'it returns false'. Refute it at one input. -/
def fnExactAddValuesWrong : ChangeSpec := { name := "fnExactAddValues", fn := fun _ => fun
  | [d] => { results := [.lit (.bool false)], args := [d] }
  | _ => none }
def FnExactAddValuesWrongFalsely : Prop := fnExactAddValuesRow.holds Try.pinned (OpenSpec.ofChange fnExactAddValuesWrong)

/-- 'laws.FnExactMulDiv': WHATEVER THE INPUT: true; the input reads as it did. -/
def fnExactMulDivSpec : ChangeSpec := { name := "fnExactMulDiv", fn := fun _ => fun
  | [d1, d2, d3, d4] => { results := [.lit (.bool true)], args := [d1, d2, d3, d4] }
  | _ => none }
def fnExactMulDivRow : OpenClaim := { program := "ytfekocllfmajkaa", sum := "3816818cf5fdf6aee181802875e3beb636a993ecf372d6f69fe1154dbcd49e39", func := "loop.example/g00808/laws.FnExactMulDiv", spec := "fnExactMulDiv", apart := false }
def FnExactMulDivSaid : Prop := fnExactMulDivRow.holds Try.pinned (OpenSpec.ofChange fnExactMulDivSpec)

/-- ITS FALSE NEIGHBOUR: 'it returns false'. Refute it at one input. -/
def fnExactMulDivWrong : ChangeSpec := { name := "fnExactMulDiv", fn := fun _ => fun
  | [d1, d2, d3, d4] => { results := [.lit (.bool false)], args := [d1, d2, d3, d4] }
  | _ => none }
def FnExactMulDivWrongFalsely : Prop := fnExactMulDivRow.holds Try.pinned (OpenSpec.ofChange fnExactMulDivWrong)

/-- 'laws.FnExactMeanOf': WHATEVER THE INPUT: true; the input reads as it did. -/
def fnExactMeanOfSpec : ChangeSpec := { name := "fnExactMeanOf", fn := fun _ => fun
  | [d] => { results := [.lit (.bool true)], args := [d] }
  | _ => none }
def fnExactMeanOfRow : OpenClaim := { program := "ytfekocllfmajkaa", sum := "3816818cf5fdf6aee181802875e3beb636a993ecf372d6f69fe1154dbcd49e39", func := "loop.example/g00808/laws.FnExactMeanOf", spec := "fnExactMeanOf", apart := false }
def FnExactMeanOfSaid : Prop := fnExactMeanOfRow.holds Try.pinned (OpenSpec.ofChange fnExactMeanOfSpec)

/-- ITS FALSE NEIGHBOUR: 'it returns false'. Refute it at one input. -/
def fnExactMeanOfWrong : ChangeSpec := { name := "fnExactMeanOf", fn := fun _ => fun
  | [d] => { results := [.lit (.bool false)], args := [d] }
  | _ => none }
def FnExactMeanOfWrongFalsely : Prop := fnExactMeanOfRow.holds Try.pinned (OpenSpec.ofChange fnExactMeanOfWrong)

/-- 'laws.FnExactSumOfMetric': WHATEVER THE INPUT: true; the input reads as it did. -/
def fnExactSumOfMetricSpec : ChangeSpec := { name := "fnExactSumOfMetric", fn := fun _ => fun
  | [d1, d2, d3] => { results := [.lit (.bool true)], args := [d1, d2, d3] }
  | _ => none }
def fnExactSumOfMetricRow : OpenClaim := { program := "ytfekocllfmajkaa", sum := "3816818cf5fdf6aee181802875e3beb636a993ecf372d6f69fe1154dbcd49e39", func := "loop.example/g00808/laws.FnExactSumOfMetric", spec := "fnExactSumOfMetric", apart := false }
def FnExactSumOfMetricSaid : Prop := fnExactSumOfMetricRow.holds Try.pinned (OpenSpec.ofChange fnExactSumOfMetricSpec)

/-- ITS FALSE NEIGHBOUR: 'it returns false'. Refute it at one input. -/
def fnExactSumOfMetricWrong : ChangeSpec := { name := "fnExactSumOfMetric", fn := fun _ => fun
  | [d1, d2, d3] => { results := [.lit (.bool false)], args := [d1, d2, d3] }
  | _ => none }
def FnExactSumOfMetricWrongFalsely : Prop := fnExactSumOfMetricRow.holds Try.pinned (OpenSpec.ofChange fnExactSumOfMetricWrong)

/- THE SECOND FORM. 'bulk': how many values and letters a reading holds, each counted each time it is reached (what is shared counts as often as it is met; a slice's spare places count too). A statement '..UptoSaid' is the law's where the arguments, and the package variables that the reading takes, are together of bulk at most 1048576: NARROWER than '..Said'. Prove '..Said' where nothing that the law and all that it calls make is longer than what came in: it says more and counts as full. Else prove '..UptoSaid'. A law counts once. -/
mutual
def uptoBulk {H : Type} : DataW H → Nat
  | .lit (.string bytes) => bytes.length + 1
  | .lit _ => 1
  | .nil => 1
  | .ptr d => uptoBulk d + 1
  | .slice elems spare => uptoBulkAll elems + uptoBulkAll spare + 1
  | .agg parts => uptoBulkAll parts + 1
  | .iface _ d => uptoBulk d + 1
  | .map entries => uptoBulkEntries entries + 1
  | .held _ => 1
def uptoBulkAll {H : Type} : List (DataW H) → Nat
  | [] => 0
  | d :: r => uptoBulk d + uptoBulkAll r
def uptoBulkEntries {H : Type} : List (Lit × DataW H) → Nat
  | [] => 0
  | x :: r => uptoBulkEntry x + uptoBulkEntries r
def uptoBulkEntry {H : Type} : Lit × DataW H → Nat
  | (.string bytes, d) => bytes.length + uptoBulk d + 1
  | (_, d) => uptoBulk d + 1
 end
def uptoSmall : (H : Type) → List (DataW H) → Bool := fun _ ds => decide (uptoBulkAll ds ≤ 1048576)
def OpenSpec.upto (s : _root_.Go.ChangeSpec) : _root_.Go.OpenSpec := { _root_.Go.OpenSpec.ofChange s with cond := some uptoSmall }

/-- 'laws.FnExactConstants', WHERE WHAT IT READS IS OF BULK AT MOST 1048576: true; the input reads as it did. -/
def fnExactConstantsUptoRow : OpenClaim := { program := "ytfekocllfmajkaa", sum := "3816818cf5fdf6aee181802875e3beb636a993ecf372d6f69fe1154dbcd49e39", func := "loop.example/g00808/laws.FnExactConstants", spec := "fnExactConstants", apart := false, narrowed := true }
def FnExactConstantsUptoSaid : Prop := fnExactConstantsUptoRow.holds Try.pinned (OpenSpec.upto fnExactConstantsSpec)

/-- 'laws.FnExactCutValue', WHERE WHAT IT READS IS OF BULK AT MOST 1048576: true; the input reads as it did. -/
def fnExactCutValueUptoRow : OpenClaim := { program := "ytfekocllfmajkaa", sum := "3816818cf5fdf6aee181802875e3beb636a993ecf372d6f69fe1154dbcd49e39", func := "loop.example/g00808/laws.FnExactCutValue", spec := "fnExactCutValue", apart := false, narrowed := true }
def FnExactCutValueUptoSaid : Prop := fnExactCutValueUptoRow.holds Try.pinned (OpenSpec.upto fnExactCutValueSpec)

/-- 'laws.FnExactNearBy', WHERE WHAT IT READS IS OF BULK AT MOST 1048576: true; the input reads as it did. -/
def fnExactNearByUptoRow : OpenClaim := { program := "ytfekocllfmajkaa", sum := "3816818cf5fdf6aee181802875e3beb636a993ecf372d6f69fe1154dbcd49e39", func := "loop.example/g00808/laws.FnExactNearBy", spec := "fnExactNearBy", apart := false, narrowed := true }
def FnExactNearByUptoSaid : Prop := fnExactNearByUptoRow.holds Try.pinned (OpenSpec.upto fnExactNearBySpec)

/-- 'laws.FnExactCeilDiv', WHERE WHAT IT READS IS OF BULK AT MOST 1048576: true; the input reads as it did. -/
def fnExactCeilDivUptoRow : OpenClaim := { program := "ytfekocllfmajkaa", sum := "3816818cf5fdf6aee181802875e3beb636a993ecf372d6f69fe1154dbcd49e39", func := "loop.example/g00808/laws.FnExactCeilDiv", spec := "fnExactCeilDiv", apart := false, narrowed := true }
def FnExactCeilDivUptoSaid : Prop := fnExactCeilDivUptoRow.holds Try.pinned (OpenSpec.upto fnExactCeilDivSpec)

/-- 'laws.FnExactFloorDiv', WHERE WHAT IT READS IS OF BULK AT MOST 1048576: true; the input reads as it did. -/
def fnExactFloorDivUptoRow : OpenClaim := { program := "ytfekocllfmajkaa", sum := "3816818cf5fdf6aee181802875e3beb636a993ecf372d6f69fe1154dbcd49e39", func := "loop.example/g00808/laws.FnExactFloorDiv", spec := "fnExactFloorDiv", apart := false, narrowed := true }
def FnExactFloorDivUptoSaid : Prop := fnExactFloorDivUptoRow.holds Try.pinned (OpenSpec.upto fnExactFloorDivSpec)

/-- 'laws.FnExactNameOk', WHERE WHAT IT READS IS OF BULK AT MOST 1048576: true; the input reads as it did. -/
def fnExactNameOkUptoRow : OpenClaim := { program := "ytfekocllfmajkaa", sum := "3816818cf5fdf6aee181802875e3beb636a993ecf372d6f69fe1154dbcd49e39", func := "loop.example/g00808/laws.FnExactNameOk", spec := "fnExactNameOk", apart := false, narrowed := true }
def FnExactNameOkUptoSaid : Prop := fnExactNameOkUptoRow.holds Try.pinned (OpenSpec.upto fnExactNameOkSpec)

/-- 'laws.FnExactCompareRatios', WHERE WHAT IT READS IS OF BULK AT MOST 1048576: true; the input reads as it did. -/
def fnExactCompareRatiosUptoRow : OpenClaim := { program := "ytfekocllfmajkaa", sum := "3816818cf5fdf6aee181802875e3beb636a993ecf372d6f69fe1154dbcd49e39", func := "loop.example/g00808/laws.FnExactCompareRatios", spec := "fnExactCompareRatios", apart := false, narrowed := true }
def FnExactCompareRatiosUptoSaid : Prop := fnExactCompareRatiosUptoRow.holds Try.pinned (OpenSpec.upto fnExactCompareRatiosSpec)

/-- 'laws.FnExactSampleOk', WHERE WHAT IT READS IS OF BULK AT MOST 1048576: true; the input reads as it did. -/
def fnExactSampleOkUptoRow : OpenClaim := { program := "ytfekocllfmajkaa", sum := "3816818cf5fdf6aee181802875e3beb636a993ecf372d6f69fe1154dbcd49e39", func := "loop.example/g00808/laws.FnExactSampleOk", spec := "fnExactSampleOk", apart := false, narrowed := true }
def FnExactSampleOkUptoSaid : Prop := fnExactSampleOkUptoRow.holds Try.pinned (OpenSpec.upto fnExactSampleOkSpec)

/-- 'laws.FnExactAddValues', WHERE WHAT IT READS IS OF BULK AT MOST 1048576: true; the input reads as it did. -/
def fnExactAddValuesUptoRow : OpenClaim := { program := "ytfekocllfmajkaa", sum := "3816818cf5fdf6aee181802875e3beb636a993ecf372d6f69fe1154dbcd49e39", func := "loop.example/g00808/laws.FnExactAddValues", spec := "fnExactAddValues", apart := false, narrowed := true }
def FnExactAddValuesUptoSaid : Prop := fnExactAddValuesUptoRow.holds Try.pinned (OpenSpec.upto fnExactAddValuesSpec)

/-- 'laws.FnExactMulDiv', WHERE WHAT IT READS IS OF BULK AT MOST 1048576: true; the input reads as it did. -/
def fnExactMulDivUptoRow : OpenClaim := { program := "ytfekocllfmajkaa", sum := "3816818cf5fdf6aee181802875e3beb636a993ecf372d6f69fe1154dbcd49e39", func := "loop.example/g00808/laws.FnExactMulDiv", spec := "fnExactMulDiv", apart := false, narrowed := true }
def FnExactMulDivUptoSaid : Prop := fnExactMulDivUptoRow.holds Try.pinned (OpenSpec.upto fnExactMulDivSpec)

/-- 'laws.FnExactMeanOf', WHERE WHAT IT READS IS OF BULK AT MOST 1048576: true; the input reads as it did. -/
def fnExactMeanOfUptoRow : OpenClaim := { program := "ytfekocllfmajkaa", sum := "3816818cf5fdf6aee181802875e3beb636a993ecf372d6f69fe1154dbcd49e39", func := "loop.example/g00808/laws.FnExactMeanOf", spec := "fnExactMeanOf", apart := false, narrowed := true }
def FnExactMeanOfUptoSaid : Prop := fnExactMeanOfUptoRow.holds Try.pinned (OpenSpec.upto fnExactMeanOfSpec)

/-- 'laws.FnExactSumOfMetric', WHERE WHAT IT READS IS OF BULK AT MOST 1048576: true; the input reads as it did. -/
def fnExactSumOfMetricUptoRow : OpenClaim := { program := "ytfekocllfmajkaa", sum := "3816818cf5fdf6aee181802875e3beb636a993ecf372d6f69fe1154dbcd49e39", func := "loop.example/g00808/laws.FnExactSumOfMetric", spec := "fnExactSumOfMetric", apart := false, narrowed := true }
def FnExactSumOfMetricUptoSaid : Prop := fnExactSumOfMetricUptoRow.holds Try.pinned (OpenSpec.upto fnExactSumOfMetricSpec)

end Rows
end Go.Proofs.Ytfekocllfmajkaa
