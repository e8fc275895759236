/- What this claim uses of the words that print.sh (or the shelf) lays for the seat, cut from them by this session's slim.py. Conditions: as each theorem states. -/

import Derived.Test.YtccnidlkpinpgaaDoorWInv
import Derived.Test.YtccnidlkpinpgaaDoorWFootNe
namespace Go.Proofs.YtccnidlkpinpgaaDoorW.PrintWords
open Go.RowKit
end Go.Proofs.YtccnidlkpinpgaaDoorW.PrintWords
namespace Go.Proofs.YtccnidlkpinpgaaDoorW.PrintLast
section
variable {ops : Array Oper} {a : Act} {o og : Oper} {g : Nat} {t : Tmp} {u : Bool}
end
end Go.Proofs.YtccnidlkpinpgaaDoorW.PrintLast

