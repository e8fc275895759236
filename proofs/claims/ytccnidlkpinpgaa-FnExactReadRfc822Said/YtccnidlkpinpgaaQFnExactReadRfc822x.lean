/- Printed by a program of this session's own (wip/myprint.py): the functions that FnExactReadRfc822 reaches as plain Lean functions, and that Go's calls do what they say. Conditions: as each theorem states. -/
import Derived.Test.YtccnidlkpinpgaaQFnExactReadRfc822x0
import Derived.Test.YtccnidlkpinpgaaQFnExactReadRfc822x1
import Derived.Test.YtccnidlkpinpgaaQFnExactReadRfc822x2
import Derived.Test.YtccnidlkpinpgaaQFnExactReadRfc822x3
import Derived.Test.YtccnidlkpinpgaaQFnExactReadRfc822x4
import Derived.Test.YtccnidlkpinpgaaQFnExactReadRfc822x5
import Derived.Test.YtccnidlkpinpgaaQFnExactReadRfc822x6
import Derived.Test.YtccnidlkpinpgaaQFnExactReadRfc822x7
namespace Go.Proofs.Ytccnidlkpinpgaa.QFnExactReadRfc822
open Go.RowKit Go.Proofs.YtccnidlkpinpgaaW.PrintWords Go.Proofs.YtccnidlkpinpgaaW.PrintLast Go.Proofs.YtccnidlkpinpgaaW.PrintMore
attribute [local go_sem] max2_int min2_int max_two min_two max_three min_three max_four min_four   -- for this text's walks alone
set_option linter.unusedVariables false
set_option linter.unusedSimpArgs false

end Go.Proofs.Ytccnidlkpinpgaa.QFnExactReadRfc822
