/- Printed by a program of this session's own (wip/myprint.py): the functions that FnExactEscapeXml reaches as plain Lean functions, and that Go's calls do what they say. Conditions: as each theorem states. -/
import Derived.Test.YteknchhlineciaaDoorProg
import Derived.Below
import Derived.Deep.Draws
import Derived.Deep.AppendLies
import Derived.Maps.AppendAt
import Derived.OwnWalk
import Derived.Laws.BytesArg
import Derived.Laws.MakeOwn
import Derived.Laws.OwnMore
import Derived.Deep.OwnRows
import Derived.Tactics
import Derived.Lib.ConvBytes
import Derived.Laws.Slices
import Derived.WalkKit
import Derived.KernelRfl
import Derived.RowKit3
import Derived.Deep.LoopGhost
import Derived.Deep.QuietTactic
import Derived.BigQuiet
import Derived.WideLaws
import Derived.Deep.DeepCutAuto
import Derived.Deep.CutBlock
import Derived.Deep.RegionHeld3
import Derived.Laws.Rows
import Derived.Lib.AppendStr
import Derived.ArgAppend
import Derived.Laws.IdiomCopy
import Derived.OrdersHeld
import Derived.Laws.BitsLemmas
import Derived.RowKit
import Derived.BigGuard
import Derived.BigQuiet
import Derived.Deep.LoopGhost
import Derived.Deep.QuietTactic
import Derived.Laws.RangeAny
import Derived.Lib.DecodeN
import Derived.Lib.FieldsU
import Derived.Lib.OthersKept
import Derived.Test.YteknchhlineciaaDoorBld
import Derived.Test.YteknchhlineciaaDoorGlob
import Derived.Test.YteknchhlineciaaDoorRpl4
import Derived.WalkSpells
import Derived.Test.YteknchhlineciaaDoorWWords
import Derived.Test.YteknchhlineciaaDoorWLast
import Derived.Test.YteknchhlineciaaDoorWTab
import Derived.Test.YteknchhlineciaaDoorWFour
import Derived.Test.YteknchhlineciaaDoorWQPut
import Derived.Test.YteknchhlineciaaDoorWApart
import Derived.Test.YteknchhlineciaaDoorWArr
import Derived.Test.YteknchhlineciaaDoorWZeros
import Derived.Test.YteknchhlineciaaDoorWFoot
import Derived.Test.YteknchhlineciaaDoorWKept
import Derived.Test.YteknchhlineciaaDoorWShare
import Derived.Test.YteknchhlineciaaDoorWN
import Derived.Test.YteknchhlineciaaDoorWFootNe
import Derived.Test.YteknchhlineciaaDoorWAt
import Derived.Test.YteknchhlineciaaDoorWEqStruct
import Derived.Test.YteknchhlineciaaDoorWRepsOne
import Derived.Test.YteknchhlineciaaDoorWInv
import Derived.Test.YteknchhlineciaaDoorWInvWords
import Derived.Test.YteknchhlineciaaDoorWGuard
import Derived.Test.YteknchhlineciaaDoorWNEv
import Derived.Test.YteknchhlineciaaDoorWMore
namespace Go.Proofs.YteknchhlineciaaDoor.QFnExactEscapeXml
open Go.RowKit Go.Proofs.YteknchhlineciaaDoorW.PrintWords Go.Proofs.YteknchhlineciaaDoorW.PrintLast Go.Proofs.YteknchhlineciaaDoorW.PrintMore
attribute [local go_sem] max2_int min2_int max_two min_two max_three min_three max_four min_four   -- for this text's walks alone
set_option linter.unusedVariables false
set_option linter.unusedSimpArgs false



def errW : Option Int → Value
  | none => .nilIface
  | some c => .iface 0 (.int .i64 c)
theorem errW_none : errW none = .nilIface := rfl
theorem errW_some (c : Int) : errW (some c) = .iface 0 (.int .i64 c) := rfl

theorem info5 : (Tryd.prog.info? 5).map (fun i => (i.zero, i.size, i.bytes)) = some (some (.int .u8 0), 1, 1) := by kernel_rfl
-- the values' own types

end Go.Proofs.YteknchhlineciaaDoor.QFnExactEscapeXml
