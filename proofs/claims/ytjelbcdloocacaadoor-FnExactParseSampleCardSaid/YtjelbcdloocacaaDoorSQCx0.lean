/- Functions of the program that laws of this seat use: each returns what the Lean function of its name tells (where it tells some answer). Conditions: those that each theorem names. Written by a program of this session (wip/print/myprint.py) out of Lean's print of the loaded functions. -/
import Derived.Test.YtjelbcdloocacaaDoorProg
import Derived.Below
import Derived.Deep.Draws
import Derived.Deep.AppendLies
import Derived.Maps.AppendAt
import Derived.OwnWalk
import Derived.Laws.BytesArg
import Derived.Laws.MakeOwn
import Derived.Laws.OwnMore
import Derived.Deep.OwnRows
import Derived.Tactics
import Derived.Lib.ConvBytes
import Derived.Laws.Slices
import Derived.WalkKit
import Derived.KernelRfl
import Derived.RowKit3
import Derived.Deep.LoopGhost
import Derived.Deep.QuietTactic
import Derived.BigQuiet
import Derived.WideLaws
import Derived.Deep.DeepCutAuto
import Derived.Deep.CutBlock
import Derived.Deep.RegionHeld3
import Derived.Laws.Rows
import Derived.Lib.AppendStr
import Derived.ArgAppend
import Derived.Laws.IdiomCopy
import Derived.OrdersHeld
import Derived.Laws.BitsLemmas
import Derived.RowKit
import Derived.Test.YtjelbcdloocacaaDoorGiven
import Derived.Test.YtjelbcdloocacaaDoorWWords
import Derived.Test.YtjelbcdloocacaaDoorWLast
import Derived.Test.YtjelbcdloocacaaDoorWTab
import Derived.Test.YtjelbcdloocacaaDoorWFour
import Derived.Test.YtjelbcdloocacaaDoorWQPut
import Derived.Test.YtjelbcdloocacaaDoorWApart
import Derived.Test.YtjelbcdloocacaaDoorWArr
import Derived.Test.YtjelbcdloocacaaDoorWZeros
import Derived.Test.YtjelbcdloocacaaDoorWFoot
import Derived.Test.YtjelbcdloocacaaDoorWKept
import Derived.Test.YtjelbcdloocacaaDoorWShare
import Derived.Test.YtjelbcdloocacaaDoorWN
import Derived.Test.YtjelbcdloocacaaDoorWFootNe
import Derived.Test.YtjelbcdloocacaaDoorWAt
import Derived.Test.YtjelbcdloocacaaDoorWEqStruct
import Derived.Test.YtjelbcdloocacaaDoorWRepsOne
import Derived.Test.YtjelbcdloocacaaDoorWInv
import Derived.Test.YtjelbcdloocacaaDoorWInvWords
import Derived.Test.YtjelbcdloocacaaDoorWGuard
import Derived.Test.YtjelbcdloocacaaDoorWNEv
import Derived.Test.YtjelbcdloocacaaDoorWMore
import Derived.Test.YtjelbcdloocacaaDoorSQAx0
import Derived.Test.YtjelbcdloocacaaDoorSHand
namespace Go.Proofs.YtjelbcdloocacaaDoor.QC
open Go.Proofs.YtjelbcdloocacaaDoor.Given
open Go.Proofs.YtjelbcdloocacaaDoor.QA
open Go.Proofs.YtjelbcdloocacaaDoor.Hand
open Go.RowKit Go.Proofs.YtjelbcdloocacaaDoorW.PrintWords Go.Proofs.YtjelbcdloocacaaDoorW.PrintLast Go.Proofs.YtjelbcdloocacaaDoorW.PrintMore
attribute [local go_sem] max2_int min2_int max_two min_two max_three min_three max_four min_four   -- for this text's walks alone
set_option linter.unusedVariables false
set_option linter.unusedSimpArgs false




theorem info3 : (Tryd.prog.info? 3).map (fun i => (i.zero, i.size, i.bytes)) = some (some (.int .i64 0), 1, 8) := by kernel_rfl


-- the values' own types

end Go.Proofs.YtjelbcdloocacaaDoor.QC
