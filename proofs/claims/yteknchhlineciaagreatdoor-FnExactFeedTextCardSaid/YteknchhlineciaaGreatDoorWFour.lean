/- What this claim uses of the words that print.sh (or the shelf) lays for the seat, cut from them by this session's slim.py. Conditions: as each theorem states. -/

import Derived.Test.YteknchhlineciaaGreatDoorWTab
namespace Go.Proofs.YteknchhlineciaaGreatDoorW.PrintLast
section
variable {P : Program} {ops : Array Oper} {Q : Exit → Act → World → Prop} {md : Region.Mode} {S : World → Prop} {ds : List Nat} {T : Bool × List (List Nat × List Nat)}
end
end Go.Proofs.YteknchhlineciaaGreatDoorW.PrintLast

