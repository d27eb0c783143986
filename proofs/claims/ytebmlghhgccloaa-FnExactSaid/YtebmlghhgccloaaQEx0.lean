/- Functions of the program that laws of this seat use: each returns what the Lean function of its name tells (where it tells some answer). Conditions: those that each theorem names. Written by a program of this session (wip/print/myprint.py) out of Lean's print of the loaded functions. -/
import Derived.Test.YtebmlghhgccloaaProg
import Derived.Below
import Derived.Deep.Draws
import Derived.Deep.AppendLies
import Derived.Maps.AppendAt
import Derived.OwnWalk
import Derived.Laws.BytesArg
import Derived.Laws.MakeOwn
import Derived.Laws.OwnMore
import Derived.Deep.OwnRows
import Derived.Tactics
import Derived.Lib.ConvBytes
import Derived.Laws.Slices
import Derived.WalkKit
import Derived.KernelRfl
import Derived.RowKit3
import Derived.Deep.LoopGhost
import Derived.Deep.QuietTactic
import Derived.BigQuiet
import Derived.WideLaws
import Derived.Deep.DeepCutAuto
import Derived.Deep.CutBlock
import Derived.Deep.RegionHeld3
import Derived.Laws.Rows
import Derived.Lib.AppendStr
import Derived.ArgAppend
import Derived.Laws.IdiomCopy
import Derived.OrdersHeld
import Derived.Laws.BitsLemmas
import Derived.RowKit
import Derived.Test.YtebmlghhgccloaaWWords
import Derived.Test.YtebmlghhgccloaaWLast
import Derived.Test.YtebmlghhgccloaaWTab
import Derived.Test.YtebmlghhgccloaaWFour
import Derived.Test.YtebmlghhgccloaaWQPut
import Derived.Test.YtebmlghhgccloaaWApart
import Derived.Test.YtebmlghhgccloaaWArr
import Derived.Test.YtebmlghhgccloaaWZeros
import Derived.Test.YtebmlghhgccloaaWFoot
import Derived.Test.YtebmlghhgccloaaWKept
import Derived.Test.YtebmlghhgccloaaWShare
import Derived.Test.YtebmlghhgccloaaWN
import Derived.Test.YtebmlghhgccloaaWFootNe
import Derived.Test.YtebmlghhgccloaaWAt
import Derived.Test.YtebmlghhgccloaaWEqStruct
import Derived.Test.YtebmlghhgccloaaWRepsOne
import Derived.Test.YtebmlghhgccloaaWInv
import Derived.Test.YtebmlghhgccloaaWInvWords
import Derived.Test.YtebmlghhgccloaaWGuard
import Derived.Test.YtebmlghhgccloaaWNEv
import Derived.Test.YtebmlghhgccloaaWMore
namespace Go.Proofs.Ytebmlghhgccloaa.QE
open Go.RowKit Go.Proofs.YtebmlghhgccloaaW.PrintWords Go.Proofs.YtebmlghhgccloaaW.PrintLast Go.Proofs.YtebmlghhgccloaaW.PrintMore
attribute [local go_sem] max2_int min2_int max_two min_two max_three min_three max_four min_four   -- for this text's walks alone
set_option linter.unusedVariables false
set_option linter.unusedSimpArgs false



def errW : Option Int → Value
  | none => .nilIface
  | some c => .iface 0 (.int .i64 c)
theorem errW_none : errW none = .nilIface := rfl
theorem errW_some (c : Int) : errW (some c) = .iface 0 (.int .i64 c) := rfl

theorem info3 : (Try.prog.info? 3).map (fun i => (i.zero, i.size, i.bytes)) = some (some (.int .i64 0), 1, 8) := by kernel_rfl
theorem info5 : (Try.prog.info? 5).map (fun i => (i.zero, i.size, i.bytes)) = some (some (.int .u8 0), 1, 1) := by kernel_rfl
-- the values' own types

end Go.Proofs.Ytebmlghhgccloaa.QE
