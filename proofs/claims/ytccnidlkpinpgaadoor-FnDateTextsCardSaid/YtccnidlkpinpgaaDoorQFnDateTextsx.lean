/- Printed by a program of this session's own (wip/myprint.py): the functions that FnDateTexts reaches as plain Lean functions, and that Go's calls do what they say. Conditions: as each theorem states. -/
import Derived.Test.YtccnidlkpinpgaaDoorQFnDateTextsx0
import Derived.Test.YtccnidlkpinpgaaDoorQFnDateTextsx1
import Derived.Test.YtccnidlkpinpgaaDoorQFnDateTextsx2
import Derived.Test.YtccnidlkpinpgaaDoorQFnDateTextsx3
import Derived.Test.YtccnidlkpinpgaaDoorQFnDateTextsx4
import Derived.Test.YtccnidlkpinpgaaDoorQFnDateTextsx5
import Derived.Test.YtccnidlkpinpgaaDoorQFnDateTextsx6
import Derived.Test.YtccnidlkpinpgaaDoorQFnDateTextsx7
import Derived.Test.YtccnidlkpinpgaaDoorQFnDateTextsx8
import Derived.Test.YtccnidlkpinpgaaDoorQFnDateTextsx9
namespace Go.Proofs.YtccnidlkpinpgaaDoor.QFnDateTexts
open Go.RowKit Go.Proofs.YtccnidlkpinpgaaDoorW.PrintWords Go.Proofs.YtccnidlkpinpgaaDoorW.PrintLast Go.Proofs.YtccnidlkpinpgaaDoorW.PrintMore
attribute [local go_sem] max2_int min2_int max_two min_two max_three min_three max_four min_four   -- for this text's walks alone
set_option linter.unusedVariables false
set_option linter.unusedSimpArgs false

end Go.Proofs.YtccnidlkpinpgaaDoor.QFnDateTexts
