/- Printed by a program of this session's own (wip/myprint.py): the functions that FnExactRfc822Text reaches as plain Lean functions, and that Go's calls do what they say. Conditions: as each theorem states. -/
import Derived.Test.YtccnidlkpinpgaaDoorQFnExactRfc822Textx0
import Derived.Test.YtccnidlkpinpgaaDoorQFnExactRfc822Textx1
import Derived.Test.YtccnidlkpinpgaaDoorQFnExactRfc822Textx2
import Derived.Test.YtccnidlkpinpgaaDoorQFnExactRfc822Textx3
import Derived.Test.YtccnidlkpinpgaaDoorQFnExactRfc822Textx4
namespace Go.Proofs.YtccnidlkpinpgaaDoor.QFnExactRfc822Text
open Go.RowKit Go.Proofs.YtccnidlkpinpgaaDoorW.PrintWords Go.Proofs.YtccnidlkpinpgaaDoorW.PrintLast Go.Proofs.YtccnidlkpinpgaaDoorW.PrintMore
attribute [local go_sem] max2_int min2_int max_two min_two max_three min_three max_four min_four   -- for this text's walks alone
set_option linter.unusedVariables false
set_option linter.unusedSimpArgs false

end Go.Proofs.YtccnidlkpinpgaaDoor.QFnExactRfc822Text
