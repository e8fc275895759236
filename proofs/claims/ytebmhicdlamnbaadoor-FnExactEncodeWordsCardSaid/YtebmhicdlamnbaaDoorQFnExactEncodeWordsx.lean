/- Printed by a program of this session's own (wip/myprint.py): the functions that FnExactEncodeWords reaches as plain Lean functions, and that Go's calls do what they say. Conditions: as each theorem states. -/
import Derived.Test.YtebmhicdlamnbaaDoorQFnExactEncodeWordsx0
import Derived.Test.YtebmhicdlamnbaaDoorQFnExactEncodeWordsx1
import Derived.Test.YtebmhicdlamnbaaDoorQFnExactEncodeWordsx2
import Derived.Test.YtebmhicdlamnbaaDoorQFnExactEncodeWordsx3
import Derived.Test.YtebmhicdlamnbaaDoorQFnExactEncodeWordsx4
import Derived.Test.YtebmhicdlamnbaaDoorQFnExactEncodeWordsx5
import Derived.Test.YtebmhicdlamnbaaDoorQFnExactEncodeWordsx6
namespace Go.Proofs.YtebmhicdlamnbaaDoor.QFnExactEncodeWords
open Go.RowKit Go.Proofs.YtebmhicdlamnbaaDoorW.PrintWords Go.Proofs.YtebmhicdlamnbaaDoorW.PrintLast Go.Proofs.YtebmhicdlamnbaaDoorW.PrintMore
attribute [local go_sem] max2_int min2_int max_two min_two max_three min_three max_four min_four   -- for this text's walks alone
set_option linter.unusedVariables false
set_option linter.unusedSimpArgs false

end Go.Proofs.YtebmhicdlamnbaaDoor.QFnExactEncodeWords
