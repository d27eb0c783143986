/-
  No cell of these rows narrows 'for every input' (looked for: loops, veiled, ifaces, maps, wideKeys, modest, calm, conditions, laid).
  DERIVED. THE GIVEN ROWS OF THIS SEAT. 3 by the template 'for every input the law returns true; each argument reads behind the call as it read before'; 0 by the template 'total and deterministic' (their statements: YtebmlghhgccloaaTotals.lean).
  GIVEN WITH THE SEED: the statements are not yours to turn. If you find one false, say at which input.
  Laid BY PROGRAM, IN A SANDBOX (cutbox-rows.mjs): the forced cells as the released guide's own fill.sh prints them over the translation 8834a0753e14d500… (all of the seat's roots in one cut). By AI agents, Wed Nov 11 2026. No macro, syntax, notation, axiom, sorry.
-/
import Derived.Test.YtebmlghhgccloaaChecked
import GoSem.Claim
import GoSem.ClaimJoined
import GoSem.ClaimMapViews
import Derived.JoinedTies
import Derived.KernelRfl
namespace Go.Proofs.Ytebmlghhgccloaa
/- THE CELL 'sum', in the pinned program and in every row, IS THE sha256 OF THE DUMP (.gsa) THAT YtebmlghhgccloaaProg.lean LOADS. Nothing in Lean hashes anything: it is a label: what it is worth is what the hold of that sum in a sandbox is worth. -/
noncomputable def Try.pinned : Pinned := { name := "ytebmlghhgccloaa", sum := "8834a0753e14d50000bdcadb3bf13068f83eb7aebc8dfdf318b9d9bfbda16873", checked := Try.checked }
namespace Rows
def none {H : Type} : Left H := { results := [], args := [] }

/-- 'laws.FnExact': WHATEVER THE INPUT: true; the input reads as it did. -/
def fnExactSpec : ChangeSpec := { name := "fnExact", fn := fun _ => fun
  | [d] => { results := [.lit (.bool true)], args := [d] }
  | _ => none }
def fnExactRow : OpenClaim := { program := "ytebmlghhgccloaa", sum := "8834a0753e14d50000bdcadb3bf13068f83eb7aebc8dfdf318b9d9bfbda16873", func := "loop.example/g00808/laws.FnExact", spec := "fnExact", apart := false }
def FnExactSaid : Prop := fnExactRow.holds Try.pinned (OpenSpec.ofChange fnExactSpec)

/-- ITS FALSE NEIGHBOUR: 'it returns false'. Refute it at one input. -/
def fnExactWrong : ChangeSpec := { name := "fnExact", fn := fun _ => fun
  | [d] => { results := [.lit (.bool false)], args := [d] }
  | _ => none }
def FnExactWrongFalsely : Prop := fnExactRow.holds Try.pinned (OpenSpec.ofChange fnExactWrong)

/-- 'laws.FnExactSortSamples': WHATEVER THE INPUT: true; the input reads as it did. -/
def fnExactSortSamplesSpec : ChangeSpec := { name := "fnExactSortSamples", fn := fun _ => fun
  | [d] => { results := [.lit (.bool true)], args := [d] }
  | _ => none }
def fnExactSortSamplesRow : OpenClaim := { program := "ytebmlghhgccloaa", sum := "8834a0753e14d50000bdcadb3bf13068f83eb7aebc8dfdf318b9d9bfbda16873", func := "loop.example/g00808/laws.FnExactSortSamples", spec := "fnExactSortSamples", unfollowed := true, recurses := true, apart := false }
def FnExactSortSamplesSaid : Prop := fnExactSortSamplesRow.holds Try.pinned (OpenSpec.ofChange fnExactSortSamplesSpec)

/-- ITS FALSE NEIGHBOUR: 'it returns false'. Refute it at one input. -/
def fnExactSortSamplesWrong : ChangeSpec := { name := "fnExactSortSamples", fn := fun _ => fun
  | [d] => { results := [.lit (.bool false)], args := [d] }
  | _ => none }
def FnExactSortSamplesWrongFalsely : Prop := fnExactSortSamplesRow.holds Try.pinned (OpenSpec.ofChange fnExactSortSamplesWrong)

/-- 'laws.FnExactPodsIn': WHATEVER THE INPUT: true; the input reads as it did. -/
def fnExactPodsInSpec : ChangeSpec := { name := "fnExactPodsIn", fn := fun _ => fun
  | [d] => { results := [.lit (.bool true)], args := [d] }
  | _ => none }
def fnExactPodsInRow : OpenClaim := { program := "ytebmlghhgccloaa", sum := "8834a0753e14d50000bdcadb3bf13068f83eb7aebc8dfdf318b9d9bfbda16873", func := "loop.example/g00808/laws.FnExactPodsIn", spec := "fnExactPodsIn", recurses := true, apart := false }
def FnExactPodsInSaid : Prop := fnExactPodsInRow.holds Try.pinned (OpenSpec.ofChange fnExactPodsInSpec)

/-- ITS FALSE NEIGHBOUR: 'it returns false'. Refute it at one input. -/
def fnExactPodsInWrong : ChangeSpec := { name := "fnExactPodsIn", fn := fun _ => fun
  | [d] => { results := [.lit (.bool false)], args := [d] }
  | _ => none }
def FnExactPodsInWrongFalsely : Prop := fnExactPodsInRow.holds Try.pinned (OpenSpec.ofChange fnExactPodsInWrong)

/- THE SECOND FORM. 'bulk': how many values and letters a reading holds, each counted each time it is reached (what is shared counts as often as it is met; a slice's spare places count too). A statement '..UptoSaid' is the law's where the arguments, and the package variables that the reading takes, are together of bulk at most 1048576: NARROWER than '..Said'. Prove '..Said' where nothing that the law and all that it calls make is longer than what came in: it says more and counts as full. Else prove '..UptoSaid'. A law counts once. -/
mutual
def uptoBulk {H : Type} : DataW H → Nat
  | .lit (.string bytes) => bytes.length + 1
  | .lit _ => 1
  | .nil => 1
  | .ptr d => uptoBulk d + 1
  | .slice elems spare => uptoBulkAll elems + uptoBulkAll spare + 1
  | .agg parts => uptoBulkAll parts + 1
  | .iface _ d => uptoBulk d + 1
  | .map entries => uptoBulkEntries entries + 1
  | .held _ => 1
def uptoBulkAll {H : Type} : List (DataW H) → Nat
  | [] => 0
  | d :: r => uptoBulk d + uptoBulkAll r
def uptoBulkEntries {H : Type} : List (Lit × DataW H) → Nat
  | [] => 0
  | x :: r => uptoBulkEntry x + uptoBulkEntries r
def uptoBulkEntry {H : Type} : Lit × DataW H → Nat
  | (.string bytes, d) => bytes.length + uptoBulk d + 1
  | (_, d) => uptoBulk d + 1
 end
def uptoSmall : (H : Type) → List (DataW H) → Bool := fun _ ds => decide (uptoBulkAll ds ≤ 1048576)
def OpenSpec.upto (s : _root_.Go.ChangeSpec) : _root_.Go.OpenSpec := { _root_.Go.OpenSpec.ofChange s with cond := some uptoSmall }

/-- 'laws.FnExact', WHERE WHAT IT READS IS OF BULK AT MOST 1048576: true; the input reads as it did. -/
def fnExactUptoRow : OpenClaim := { program := "ytebmlghhgccloaa", sum := "8834a0753e14d50000bdcadb3bf13068f83eb7aebc8dfdf318b9d9bfbda16873", func := "loop.example/g00808/laws.FnExact", spec := "fnExact", apart := false, narrowed := true }
def FnExactUptoSaid : Prop := fnExactUptoRow.holds Try.pinned (OpenSpec.upto fnExactSpec)

/-- 'laws.FnExactSortSamples', WHERE WHAT IT READS IS OF BULK AT MOST 1048576: true; the input reads as it did. -/
def fnExactSortSamplesUptoRow : OpenClaim := { program := "ytebmlghhgccloaa", sum := "8834a0753e14d50000bdcadb3bf13068f83eb7aebc8dfdf318b9d9bfbda16873", func := "loop.example/g00808/laws.FnExactSortSamples", spec := "fnExactSortSamples", unfollowed := true, recurses := true, apart := false, narrowed := true }
def FnExactSortSamplesUptoSaid : Prop := fnExactSortSamplesUptoRow.holds Try.pinned (OpenSpec.upto fnExactSortSamplesSpec)

/-- 'laws.FnExactPodsIn', WHERE WHAT IT READS IS OF BULK AT MOST 1048576: true; the input reads as it did. -/
def fnExactPodsInUptoRow : OpenClaim := { program := "ytebmlghhgccloaa", sum := "8834a0753e14d50000bdcadb3bf13068f83eb7aebc8dfdf318b9d9bfbda16873", func := "loop.example/g00808/laws.FnExactPodsIn", spec := "fnExactPodsIn", recurses := true, apart := false, narrowed := true }
def FnExactPodsInUptoSaid : Prop := fnExactPodsInUptoRow.holds Try.pinned (OpenSpec.upto fnExactPodsInSpec)

end Rows
end Go.Proofs.Ytebmlghhgccloaa
