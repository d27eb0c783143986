/- Functions of the program that laws of this seat use: each returns what the Lean function of its name tells (where it tells some answer). Conditions: those that each theorem names. Written by a program of this session (wip/print/myprint.py) out of Lean's print of the loaded functions. -/
import Derived.Test.YtjelbcdloocacaaGreatDoorProg
import Derived.Below
import Derived.Deep.Draws
import Derived.Deep.AppendLies
import Derived.Maps.AppendAt
import Derived.OwnWalk
import Derived.Laws.BytesArg
import Derived.Laws.MakeOwn
import Derived.Laws.OwnMore
import Derived.Deep.OwnRows
import Derived.Tactics
import Derived.Lib.ConvBytes
import Derived.Laws.Slices
import Derived.WalkKit
import Derived.KernelRfl
import Derived.RowKit3
import Derived.Deep.LoopGhost
import Derived.Deep.QuietTactic
import Derived.BigQuiet
import Derived.WideLaws
import Derived.Deep.DeepCutAuto
import Derived.Deep.CutBlock
import Derived.Deep.RegionHeld3
import Derived.Laws.Rows
import Derived.Lib.AppendStr
import Derived.ArgAppend
import Derived.Laws.IdiomCopy
import Derived.OrdersHeld
import Derived.Laws.BitsLemmas
import Derived.RowKit
import Derived.Test.YtjelbcdloocacaaGreatDoorSGiven
import Derived.Test.YtjelbcdloocacaaGreatDoorSWWords
import Derived.Test.YtjelbcdloocacaaGreatDoorSWLast
import Derived.Test.YtjelbcdloocacaaGreatDoorSWTab
import Derived.Test.YtjelbcdloocacaaGreatDoorSWApart
import Derived.Test.YtjelbcdloocacaaGreatDoorSWFoot
import Derived.Test.YtjelbcdloocacaaGreatDoorSWKept
import Derived.Test.YtjelbcdloocacaaGreatDoorSWShare
import Derived.Test.YtjelbcdloocacaaGreatDoorSWN
import Derived.Laws.StructEq
import Derived.Test.YtjelbcdloocacaaGreatDoorSWRepsOne
import Derived.Test.YtjelbcdloocacaaGreatDoorSWGuard
import Derived.Test.YtjelbcdloocacaaGreatDoorSWMore
import Derived.Test.YtjelbcdloocacaaGreatDoorSQAx0
import Derived.Test.YtjelbcdloocacaaGreatDoorSHand
import Derived.Test.YtjelbcdloocacaaGreatDoorSContains
namespace Go.Proofs.YtjelbcdloocacaaGreatDoor.QC
open Go.Proofs.YtjelbcdloocacaaGreatDoor.Given
open Go.Proofs.YtjelbcdloocacaaGreatDoor.QA
open Go.Proofs.YtjelbcdloocacaaGreatDoor.Hand
open Go.Proofs.YtjelbcdloocacaaGreatDoor.Contains
open Go.RowKit Go.Proofs.YtjelbcdloocacaaGreatDoorW.PrintWords Go.Proofs.YtjelbcdloocacaaGreatDoorW.PrintLast Go.Proofs.YtjelbcdloocacaaGreatDoorW.PrintMore
attribute [local go_sem] max2_int min2_int max_two min_two max_three min_three max_four min_four   -- for this text's walks alone
set_option linter.unusedVariables false
set_option linter.unusedSimpArgs false








-- the values' own types
/-! #### struct type 34 -/
end Go.Proofs.YtjelbcdloocacaaGreatDoor.QC
