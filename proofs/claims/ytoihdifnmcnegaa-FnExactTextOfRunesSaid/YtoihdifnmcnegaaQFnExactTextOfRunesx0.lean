/- Printed by a program of this session's own (wip/myprint.py): the functions that FnExactTextOfRunes reaches as plain Lean functions, and that Go's calls do what they say. Conditions: as each theorem states. -/
import Derived.Test.YtoihdifnmcnegaaProg
import Derived.Below
import Derived.Deep.Draws
import Derived.Deep.AppendLies
import Derived.Maps.AppendAt
import Derived.OwnWalk
import Derived.Laws.BytesArg
import Derived.Laws.MakeOwn
import Derived.Laws.OwnMore
import Derived.Deep.OwnRows
import Derived.Tactics
import Derived.Lib.ConvBytes
import Derived.Laws.Slices
import Derived.WalkKit
import Derived.KernelRfl
import Derived.RowKit3
import Derived.Deep.LoopGhost
import Derived.Deep.QuietTactic
import Derived.BigQuiet
import Derived.WideLaws
import Derived.Deep.DeepCutAuto
import Derived.Deep.CutBlock
import Derived.Deep.RegionHeld3
import Derived.Laws.Rows
import Derived.Lib.AppendStr
import Derived.ArgAppend
import Derived.Laws.IdiomCopy
import Derived.OrdersHeld
import Derived.Laws.BitsLemmas
import Derived.RowKit
import Derived.Test.YtoihdifnmcnegaaWWords
import Derived.Test.YtoihdifnmcnegaaWLast
import Derived.Test.YtoihdifnmcnegaaWTab
import Derived.Test.YtoihdifnmcnegaaWFour
import Derived.Test.YtoihdifnmcnegaaWQPut
import Derived.Test.YtoihdifnmcnegaaWApart
import Derived.Test.YtoihdifnmcnegaaWArr
import Derived.Test.YtoihdifnmcnegaaWZeros
import Derived.Test.YtoihdifnmcnegaaWFoot
import Derived.Test.YtoihdifnmcnegaaWKept
import Derived.Test.YtoihdifnmcnegaaWShare
import Derived.Test.YtoihdifnmcnegaaWN
import Derived.Test.YtoihdifnmcnegaaWFootNe
import Derived.Test.YtoihdifnmcnegaaWAt
import Derived.Test.YtoihdifnmcnegaaWEqStruct
import Derived.Test.YtoihdifnmcnegaaWRepsOne
import Derived.Test.YtoihdifnmcnegaaWInv
import Derived.Test.YtoihdifnmcnegaaWInvWords
import Derived.Test.YtoihdifnmcnegaaWGuard
import Derived.Test.YtoihdifnmcnegaaWNEv
import Derived.Test.YtoihdifnmcnegaaWMore
namespace Go.Proofs.Ytoihdifnmcnegaa.QFnExactTextOfRunes
open Go.RowKit Go.Proofs.YtoihdifnmcnegaaW.PrintWords Go.Proofs.YtoihdifnmcnegaaW.PrintLast Go.Proofs.YtoihdifnmcnegaaW.PrintMore
attribute [local go_sem] max2_int min2_int max_two min_two max_three min_three max_four min_four   -- for this text's walks alone
set_option linter.unusedVariables false
set_option linter.unusedSimpArgs false



def errW : Option Int → Value
  | none => .nilIface
  | some c => .iface 0 (.int .i64 c)
theorem errW_none : errW none = .nilIface := rfl
theorem errW_some (c : Int) : errW (some c) = .iface 0 (.int .i64 c) := rfl

theorem info3 : (Try.prog.info? 3).map (fun i => (i.zero, i.size, i.bytes)) = some (some (.int .i64 0), 1, 8) := by kernel_rfl
theorem info5 : (Try.prog.info? 5).map (fun i => (i.zero, i.size, i.bytes)) = some (some (.int .u8 0), 1, 1) := by kernel_rfl
-- the values' own types

end Go.Proofs.Ytoihdifnmcnegaa.QFnExactTextOfRunes
