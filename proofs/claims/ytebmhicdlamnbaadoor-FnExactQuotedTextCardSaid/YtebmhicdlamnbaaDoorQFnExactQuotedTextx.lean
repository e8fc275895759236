/- Printed by a program of this session's own (wip/myprint.py): the functions that FnExactQuotedText reaches as plain Lean functions, and that Go's calls do what they say. Conditions: as each theorem states. -/
import Derived.Test.YtebmhicdlamnbaaDoorQFnExactQuotedTextx0
import Derived.Test.YtebmhicdlamnbaaDoorQFnExactQuotedTextx1
import Derived.Test.YtebmhicdlamnbaaDoorQFnExactQuotedTextx2
import Derived.Test.YtebmhicdlamnbaaDoorQFnExactQuotedTextx3
import Derived.Test.YtebmhicdlamnbaaDoorQFnExactQuotedTextx4
import Derived.Test.YtebmhicdlamnbaaDoorQFnExactQuotedTextx5
namespace Go.Proofs.YtebmhicdlamnbaaDoor.QFnExactQuotedText
open Go.RowKit Go.Proofs.YtebmhicdlamnbaaDoorW.PrintWords Go.Proofs.YtebmhicdlamnbaaDoorW.PrintLast Go.Proofs.YtebmhicdlamnbaaDoorW.PrintMore
attribute [local go_sem] max2_int min2_int max_two min_two max_three min_three max_four min_four   -- for this text's walks alone
set_option linter.unusedVariables false
set_option linter.unusedSimpArgs false

end Go.Proofs.YtebmhicdlamnbaaDoor.QFnExactQuotedText
