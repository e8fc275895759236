/- Printed by a program of this session's own (wip/myprint.py): the functions that FnBase64 reaches as plain Lean functions, and that Go's calls do what they say. Conditions: as each theorem states. -/
import Derived.Test.YtebmhicdlamnbaaProg
import Derived.Below
import Derived.Deep.Draws
import Derived.Deep.AppendLies
import Derived.Maps.AppendAt
import Derived.OwnWalk
import Derived.Laws.BytesArg
import Derived.Laws.MakeOwn
import Derived.Laws.OwnMore
import Derived.Deep.OwnRows
import Derived.Tactics
import Derived.Lib.ConvBytes
import Derived.Laws.Slices
import Derived.WalkKit
import Derived.KernelRfl
import Derived.RowKit3
import Derived.Deep.LoopGhost
import Derived.Deep.QuietTactic
import Derived.BigQuiet
import Derived.WideLaws
import Derived.Deep.DeepCutAuto
import Derived.Deep.CutBlock
import Derived.Deep.RegionHeld3
import Derived.Laws.Rows
import Derived.Lib.AppendStr
import Derived.ArgAppend
import Derived.Laws.IdiomCopy
import Derived.OrdersHeld
import Derived.Laws.BitsLemmas
import Derived.RowKit
import Derived.BigRegion
import Derived.ChangeAlike
import Derived.Deep.RegionHeld
import Derived.RegionTactic
import Derived.Test.YtebmhicdlamnbaaShelf
import Derived.Test.YtebmhicdlamnbaaWWords
import Derived.Test.YtebmhicdlamnbaaWLast
import Derived.Test.YtebmhicdlamnbaaWTab
import Derived.Test.YtebmhicdlamnbaaWFour
import Derived.Test.YtebmhicdlamnbaaWQPut
import Derived.Test.YtebmhicdlamnbaaWApart
import Derived.Test.YtebmhicdlamnbaaWArr
import Derived.Test.YtebmhicdlamnbaaWZeros
import Derived.Test.YtebmhicdlamnbaaWFoot
import Derived.Test.YtebmhicdlamnbaaWKept
import Derived.Test.YtebmhicdlamnbaaWShare
import Derived.Test.YtebmhicdlamnbaaWN
import Derived.Test.YtebmhicdlamnbaaWFootNe
import Derived.Test.YtebmhicdlamnbaaWAt
import Derived.Test.YtebmhicdlamnbaaWEqStruct
import Derived.Test.YtebmhicdlamnbaaWRepsOne
import Derived.Test.YtebmhicdlamnbaaWInv
import Derived.Test.YtebmhicdlamnbaaWInvWords
import Derived.Test.YtebmhicdlamnbaaWGuard
import Derived.Test.YtebmhicdlamnbaaWNEv
import Derived.Test.YtebmhicdlamnbaaWMore
namespace Go.Proofs.Ytebmhicdlamnbaa.QFnBase64
open Go.RowKit Go.Proofs.YtebmhicdlamnbaaW.PrintWords Go.Proofs.YtebmhicdlamnbaaW.PrintLast Go.Proofs.YtebmhicdlamnbaaW.PrintMore
attribute [local go_sem] max2_int min2_int max_two min_two max_three min_three max_four min_four   -- for this text's walks alone
set_option linter.unusedVariables false
set_option linter.unusedSimpArgs false



def errW : Option Int → Value
  | none => .nilIface
  | some c => .iface 0 (.int .i64 c)
theorem errW_none : errW none = .nilIface := rfl
theorem errW_some (c : Int) : errW (some c) = .iface 0 (.int .i64 c) := rfl

theorem info5 : (Try.prog.info? 5).map (fun i => (i.zero, i.size, i.bytes)) = some (some (.int .u8 0), 1, 1) := by kernel_rfl
-- the values' own types

end Go.Proofs.Ytebmhicdlamnbaa.QFnBase64
