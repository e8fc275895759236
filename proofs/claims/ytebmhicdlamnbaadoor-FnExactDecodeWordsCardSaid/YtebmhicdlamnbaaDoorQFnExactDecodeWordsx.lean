/- Printed by a program of this session's own (wip/myprint.py): the functions that FnExactDecodeWords reaches as plain Lean functions, and that Go's calls do what they say. Conditions: as each theorem states. -/
import Derived.Test.YtebmhicdlamnbaaDoorQFnExactDecodeWordsx0
import Derived.Test.YtebmhicdlamnbaaDoorQFnExactDecodeWordsx1
import Derived.Test.YtebmhicdlamnbaaDoorQFnExactDecodeWordsx2
import Derived.Test.YtebmhicdlamnbaaDoorQFnExactDecodeWordsx3
import Derived.Test.YtebmhicdlamnbaaDoorQFnExactDecodeWordsx4
import Derived.Test.YtebmhicdlamnbaaDoorQFnExactDecodeWordsx5
import Derived.Test.YtebmhicdlamnbaaDoorQFnExactDecodeWordsx6
import Derived.Test.YtebmhicdlamnbaaDoorQFnExactDecodeWordsx7
namespace Go.Proofs.YtebmhicdlamnbaaDoor.QFnExactDecodeWords
open Go.RowKit Go.Proofs.YtebmhicdlamnbaaDoorW.PrintWords Go.Proofs.YtebmhicdlamnbaaDoorW.PrintLast Go.Proofs.YtebmhicdlamnbaaDoorW.PrintMore
attribute [local go_sem] max2_int min2_int max_two min_two max_three min_three max_four min_four   -- for this text's walks alone
set_option linter.unusedVariables false
set_option linter.unusedSimpArgs false

end Go.Proofs.YtebmhicdlamnbaaDoor.QFnExactDecodeWords
