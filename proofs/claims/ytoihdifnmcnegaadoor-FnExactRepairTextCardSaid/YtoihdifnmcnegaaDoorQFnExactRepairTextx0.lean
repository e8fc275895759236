/- Printed by a program of this session's own (wip/myprint.py): the functions that FnExactRepairText reaches as plain Lean functions, and that Go's calls do what they say. Conditions: as each theorem states. -/
import Derived.Test.YtoihdifnmcnegaaDoorProg
import Derived.Below
import Derived.Deep.Draws
import Derived.Deep.AppendLies
import Derived.Maps.AppendAt
import Derived.OwnWalk
import Derived.Laws.BytesArg
import Derived.Laws.MakeOwn
import Derived.Laws.OwnMore
import Derived.Deep.OwnRows
import Derived.Tactics
import Derived.Lib.ConvBytes
import Derived.Laws.Slices
import Derived.WalkKit
import Derived.KernelRfl
import Derived.RowKit3
import Derived.Deep.LoopGhost
import Derived.Deep.QuietTactic
import Derived.BigQuiet
import Derived.WideLaws
import Derived.Deep.DeepCutAuto
import Derived.Deep.CutBlock
import Derived.Deep.RegionHeld3
import Derived.Laws.Rows
import Derived.Lib.AppendStr
import Derived.ArgAppend
import Derived.Laws.IdiomCopy
import Derived.OrdersHeld
import Derived.Laws.BitsLemmas
import Derived.RowKit
import Derived.BigQuiet
import Derived.Deep.LoopGhost
import Derived.Deep.QuietTactic
import Derived.Laws.RangeAny
import Derived.Lib.DecodeN
import Derived.Lib.FieldsU
import Derived.Lib.OthersKept
import Derived.Lib.PathFns
import Derived.Test.YtoihdifnmcnegaaDoorBld
import Derived.Test.YtoihdifnmcnegaaDoorGlob
import Derived.WalkSpells
import Derived.Test.YtoihdifnmcnegaaDoorWWords
import Derived.Test.YtoihdifnmcnegaaDoorWLast
import Derived.Test.YtoihdifnmcnegaaDoorWTab
import Derived.Test.YtoihdifnmcnegaaDoorWFour
import Derived.Test.YtoihdifnmcnegaaDoorWQPut
import Derived.Test.YtoihdifnmcnegaaDoorWApart
import Derived.Test.YtoihdifnmcnegaaDoorWArr
import Derived.Test.YtoihdifnmcnegaaDoorWZeros
import Derived.Test.YtoihdifnmcnegaaDoorWFoot
import Derived.Test.YtoihdifnmcnegaaDoorWKept
import Derived.Test.YtoihdifnmcnegaaDoorWShare
import Derived.Test.YtoihdifnmcnegaaDoorWN
import Derived.Test.YtoihdifnmcnegaaDoorWFootNe
import Derived.Test.YtoihdifnmcnegaaDoorWAt
import Derived.Test.YtoihdifnmcnegaaDoorWEqStruct
import Derived.Test.YtoihdifnmcnegaaDoorWRepsOne
import Derived.Test.YtoihdifnmcnegaaDoorWInv
import Derived.Test.YtoihdifnmcnegaaDoorWInvWords
import Derived.Test.YtoihdifnmcnegaaDoorWGuard
import Derived.Test.YtoihdifnmcnegaaDoorWNEv
import Derived.Test.YtoihdifnmcnegaaDoorWMore
namespace Go.Proofs.YtoihdifnmcnegaaDoor.QFnExactRepairText
open Go.RowKit Go.Proofs.YtoihdifnmcnegaaDoorW.PrintWords Go.Proofs.YtoihdifnmcnegaaDoorW.PrintLast Go.Proofs.YtoihdifnmcnegaaDoorW.PrintMore
attribute [local go_sem] max2_int min2_int max_two min_two max_three min_three max_four min_four   -- for this text's walks alone
set_option linter.unusedVariables false
set_option linter.unusedSimpArgs false



def errW : Option Int → Value
  | none => .nilIface
  | some c => .iface 0 (.int .i64 c)
theorem errW_none : errW none = .nilIface := rfl
theorem errW_some (c : Int) : errW (some c) = .iface 0 (.int .i64 c) := rfl

theorem info5 : (Tryd.prog.info? 5).map (fun i => (i.zero, i.size, i.bytes)) = some (some (.int .u8 0), 1, 1) := by kernel_rfl
-- the values' own types

end Go.Proofs.YtoihdifnmcnegaaDoor.QFnExactRepairText
