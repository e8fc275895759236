/- Printed by a program of this session's own (wip/myprint.py): the functions that FnExactAttrOf reaches as plain Lean functions, and that Go's calls do what they say. Conditions: as each theorem states. -/
import Derived.Test.YteknchhlineciaaQFnExactAttrOfx0
import Derived.Test.YteknchhlineciaaQFnExactAttrOfx1
import Derived.Test.YteknchhlineciaaQFnExactAttrOfx2
import Derived.Test.YteknchhlineciaaQFnExactAttrOfx3
namespace Go.Proofs.Yteknchhlineciaa.QFnExactAttrOf
open Go.RowKit Go.Proofs.YteknchhlineciaaW.PrintWords Go.Proofs.YteknchhlineciaaW.PrintLast Go.Proofs.YteknchhlineciaaW.PrintMore
attribute [local go_sem] max2_int min2_int max_two min_two max_three min_three max_four min_four   -- for this text's walks alone
set_option linter.unusedVariables false
set_option linter.unusedSimpArgs false

end Go.Proofs.Yteknchhlineciaa.QFnExactAttrOf
