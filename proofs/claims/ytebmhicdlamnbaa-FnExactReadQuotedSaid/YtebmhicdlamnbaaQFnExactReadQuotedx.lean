/- Printed by a program of this session's own (wip/myprint.py): the functions that FnExactReadQuoted reaches as plain Lean functions, and that Go's calls do what they say. Conditions: as each theorem states. -/
import Derived.Test.YtebmhicdlamnbaaQFnExactReadQuotedx0
import Derived.Test.YtebmhicdlamnbaaQFnExactReadQuotedx1
import Derived.Test.YtebmhicdlamnbaaQFnExactReadQuotedx2
import Derived.Test.YtebmhicdlamnbaaQFnExactReadQuotedx3
namespace Go.Proofs.Ytebmhicdlamnbaa.QFnExactReadQuoted
open Go.RowKit Go.Proofs.YtebmhicdlamnbaaW.PrintWords Go.Proofs.YtebmhicdlamnbaaW.PrintLast Go.Proofs.YtebmhicdlamnbaaW.PrintMore
attribute [local go_sem] max2_int min2_int max_two min_two max_three min_three max_four min_four   -- for this text's walks alone
set_option linter.unusedVariables false
set_option linter.unusedSimpArgs false

end Go.Proofs.Ytebmhicdlamnbaa.QFnExactReadQuoted
