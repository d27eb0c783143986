/- Functions of the program that laws of this seat use: each returns what the Lean function of its name tells (where it tells some answer). Conditions: those that each theorem names. Written by a program of this session (wip/print/myprint.py) out of Lean's print of the loaded functions. -/
import Derived.Test.YtjelbcdloocacaaDoorQAx0
import Derived.Test.YtjelbcdloocacaaDoorQAx1
import Derived.Test.YtjelbcdloocacaaDoorQAx2
import Derived.Test.YtjelbcdloocacaaDoorQAx3
import Derived.Test.YtjelbcdloocacaaDoorQAx4
import Derived.Test.YtjelbcdloocacaaDoorQAx5
namespace Go.Proofs.YtjelbcdloocacaaDoor.QA
open Go.Proofs.YtjelbcdloocacaaDoor.Given
open Go.RowKit Go.Proofs.YtjelbcdloocacaaDoorW.PrintWords Go.Proofs.YtjelbcdloocacaaDoorW.PrintLast Go.Proofs.YtjelbcdloocacaaDoorW.PrintMore
attribute [local go_sem] max2_int min2_int max_two min_two max_three min_three max_four min_four   -- for this text's walks alone
set_option linter.unusedVariables false
set_option linter.unusedSimpArgs false

end Go.Proofs.YtjelbcdloocacaaDoor.QA
