/- Printed by a program of this session's own (wip/myprint.py): the functions that FnExactEscapeXml reaches as plain Lean functions, and that Go's calls do what they say. Conditions: as each theorem states. -/
import Derived.Test.YteknchhlineciaaDoorQFnExactEscapeXmlx0
import Derived.Test.YteknchhlineciaaDoorQFnExactEscapeXmlx1
import Derived.Test.YteknchhlineciaaDoorQFnExactEscapeXmlx2
namespace Go.Proofs.YteknchhlineciaaDoor.QFnExactEscapeXml
open Go.RowKit Go.Proofs.YteknchhlineciaaDoorW.PrintWords Go.Proofs.YteknchhlineciaaDoorW.PrintLast Go.Proofs.YteknchhlineciaaDoorW.PrintMore
attribute [local go_sem] max2_int min2_int max_two min_two max_three min_three max_four min_four   -- for this text's walks alone
set_option linter.unusedVariables false
set_option linter.unusedSimpArgs false

end Go.Proofs.YteknchhlineciaaDoor.QFnExactEscapeXml
