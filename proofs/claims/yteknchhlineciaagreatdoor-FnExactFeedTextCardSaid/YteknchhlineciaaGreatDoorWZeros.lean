/- What this claim uses of the words that print.sh (or the shelf) lays for the seat, cut from them by this session's slim.py. Conditions: as each theorem states. -/

import Derived.Test.YteknchhlineciaaGreatDoorWApart
import Derived.Test.YteknchhlineciaaGreatDoorWArr
namespace Go.Proofs.YteknchhlineciaaGreatDoorW.PrintWords
open Go.RowKit
section
variable {P : Program}
end
namespace Kd
section
variable {P : Program} {ops : Array Oper} {rest : List Oper} {o : Oper} {a : Act} {Q : Exit → Act → World → Prop} {Kc : Act → World → Prop} {α : Type}
end
section
variable {α : Type} {d : Kd α} {e : Nat} {w : World} {base : Nat} {ok : Nat → Prop} {v : Value} {xs : List α}
end
section
variable {P : Program} {ops : Array Oper} {rest : List Oper} {o : Oper} {a : Act} {Q : Exit → Act → World → Prop} {Kc : Act → World → Prop} {α : Type}
end
end Kd
end Go.Proofs.YteknchhlineciaaGreatDoorW.PrintWords

