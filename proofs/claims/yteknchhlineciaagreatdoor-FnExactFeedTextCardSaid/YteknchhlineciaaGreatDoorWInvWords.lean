/- What this claim uses of the words that print.sh (or the shelf) lays for the seat, cut from them by this session's slim.py. Conditions: as each theorem states. -/

import Derived.Test.YteknchhlineciaaGreatDoorWInv
import Derived.Test.YteknchhlineciaaGreatDoorWFootNe
namespace Go.Proofs.YteknchhlineciaaGreatDoorW.PrintWords
open Go.RowKit
end Go.Proofs.YteknchhlineciaaGreatDoorW.PrintWords
namespace Go.Proofs.YteknchhlineciaaGreatDoorW.PrintLast
section
variable {ops : Array Oper} {a : Act} {o og : Oper} {g : Nat} {t : Tmp} {u : Bool}
end
end Go.Proofs.YteknchhlineciaaGreatDoorW.PrintLast

