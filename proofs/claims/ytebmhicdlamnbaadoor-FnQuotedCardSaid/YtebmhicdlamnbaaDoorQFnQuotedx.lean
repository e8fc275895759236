/- Printed by a program of this session's own (wip/myprint.py): the functions that FnQuoted reaches as plain Lean functions, and that Go's calls do what they say. Conditions: as each theorem states. -/
import Derived.Test.YtebmhicdlamnbaaDoorQFnQuotedx0
import Derived.Test.YtebmhicdlamnbaaDoorQFnQuotedx1
import Derived.Test.YtebmhicdlamnbaaDoorQFnQuotedx2
import Derived.Test.YtebmhicdlamnbaaDoorQFnQuotedx3
import Derived.Test.YtebmhicdlamnbaaDoorQFnQuotedx4
import Derived.Test.YtebmhicdlamnbaaDoorQFnQuotedx5
import Derived.Test.YtebmhicdlamnbaaDoorQFnQuotedx6
namespace Go.Proofs.YtebmhicdlamnbaaDoor.QFnQuoted
open Go.RowKit Go.Proofs.YtebmhicdlamnbaaDoorW.PrintWords Go.Proofs.YtebmhicdlamnbaaDoorW.PrintLast Go.Proofs.YtebmhicdlamnbaaDoorW.PrintMore
attribute [local go_sem] max2_int min2_int max_two min_two max_three min_three max_four min_four   -- for this text's walks alone
set_option linter.unusedVariables false
set_option linter.unusedSimpArgs false

end Go.Proofs.YtebmhicdlamnbaaDoor.QFnQuoted
