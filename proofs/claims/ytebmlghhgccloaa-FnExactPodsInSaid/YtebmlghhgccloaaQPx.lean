/- Functions of the program that laws of this seat use: each returns what the Lean function of its name tells (where it tells some answer). Conditions: those that each theorem names. Written by a program of this session (wip/print/myprint.py) out of Lean's print of the loaded functions. -/
import Derived.Test.YtebmlghhgccloaaQPx0
import Derived.Test.YtebmlghhgccloaaQPx1
import Derived.Test.YtebmlghhgccloaaQPx2
import Derived.Test.YtebmlghhgccloaaQPx3
import Derived.Test.YtebmlghhgccloaaQPx4
import Derived.Test.YtebmlghhgccloaaQPx5
namespace Go.Proofs.Ytebmlghhgccloaa.QP
open Go.RowKit Go.Proofs.YtebmlghhgccloaaW.PrintWords Go.Proofs.YtebmlghhgccloaaW.PrintLast Go.Proofs.YtebmlghhgccloaaW.PrintMore
attribute [local go_sem] max2_int min2_int max_two min_two max_three min_three max_four min_four   -- for this text's walks alone
set_option linter.unusedVariables false
set_option linter.unusedSimpArgs false

end Go.Proofs.Ytebmlghhgccloaa.QP
