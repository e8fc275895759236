/- Printed by a program of this session's own (wip/myprint.py): the functions that FnExactRepairText reaches as plain Lean functions, and that Go's calls do what they say. Conditions: as each theorem states. -/
import Derived.Test.YtoihdifnmcnegaaDoorQFnExactRepairTextx0
import Derived.Test.YtoihdifnmcnegaaDoorQFnExactRepairTextx1
namespace Go.Proofs.YtoihdifnmcnegaaDoor.QFnExactRepairText
open Go.RowKit Go.Proofs.YtoihdifnmcnegaaDoorW.PrintWords Go.Proofs.YtoihdifnmcnegaaDoorW.PrintLast Go.Proofs.YtoihdifnmcnegaaDoorW.PrintMore
attribute [local go_sem] max2_int min2_int max_two min_two max_three min_three max_four min_four   -- for this text's walks alone
set_option linter.unusedVariables false
set_option linter.unusedSimpArgs false

end Go.Proofs.YtoihdifnmcnegaaDoor.QFnExactRepairText
