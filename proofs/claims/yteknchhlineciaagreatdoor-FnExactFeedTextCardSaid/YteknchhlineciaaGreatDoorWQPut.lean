/- What this claim uses of the words that print.sh (or the shelf) lays for the seat, cut from them by this session's slim.py. Conditions: as each theorem states. -/

import Derived.Test.YteknchhlineciaaGreatDoorWWords
import Derived.Test.YteknchhlineciaaGreatDoorWLast
namespace Go.Proofs.YteknchhlineciaaGreatDoorW.PrintWords
open Go.RowKit
namespace Kd
section
variable {α : Type} {d : Kd α} {e base g o n cap : Nat} {ok okp : Nat → Prop} {w W : World} {v : Value} {xs : List α}
end
section
variable {α : Type} {enc : α → Value} {h1 : ∀ x, (enc x).oneCell' = true} {e base g o n cap : Nat} {ok : Nat → Prop} {W : World} {xs : List α}
end
end Kd
end Go.Proofs.YteknchhlineciaaGreatDoorW.PrintWords

