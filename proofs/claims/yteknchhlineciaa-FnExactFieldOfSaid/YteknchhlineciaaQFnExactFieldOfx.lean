/- Printed by a program of this session's own (wip/myprint.py): the functions that FnExactFieldOf reaches as plain Lean functions, and that Go's calls do what they say. Conditions: as each theorem states. -/
import Derived.Test.YteknchhlineciaaQFnExactFieldOfx0
import Derived.Test.YteknchhlineciaaQFnExactFieldOfx1
import Derived.Test.YteknchhlineciaaQFnExactFieldOfx2
import Derived.Test.YteknchhlineciaaQFnExactFieldOfx3
namespace Go.Proofs.Yteknchhlineciaa.QFnExactFieldOf
open Go.RowKit Go.Proofs.YteknchhlineciaaW.PrintWords Go.Proofs.YteknchhlineciaaW.PrintLast Go.Proofs.YteknchhlineciaaW.PrintMore
attribute [local go_sem] max2_int min2_int max_two min_two max_three min_three max_four min_four   -- for this text's walks alone
set_option linter.unusedVariables false
set_option linter.unusedSimpArgs false

end Go.Proofs.Yteknchhlineciaa.QFnExactFieldOf
