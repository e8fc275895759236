/- Printed by a program of this session's own (wip/myprint.py): the functions that FnExactReadRfc822 reaches as plain Lean functions, and that Go's calls do what they say. Conditions: as each theorem states. -/
import Derived.Test.YtccnidlkpinpgaaProg
import Derived.Below
import Derived.Deep.Draws
import Derived.Deep.AppendLies
import Derived.Maps.AppendAt
import Derived.OwnWalk
import Derived.Laws.BytesArg
import Derived.Laws.MakeOwn
import Derived.Laws.OwnMore
import Derived.Deep.OwnRows
import Derived.Tactics
import Derived.Lib.ConvBytes
import Derived.Laws.Slices
import Derived.WalkKit
import Derived.KernelRfl
import Derived.RowKit3
import Derived.Deep.LoopGhost
import Derived.Deep.QuietTactic
import Derived.BigQuiet
import Derived.WideLaws
import Derived.Deep.DeepCutAuto
import Derived.Deep.CutBlock
import Derived.Deep.RegionHeld3
import Derived.Laws.Rows
import Derived.Lib.AppendStr
import Derived.ArgAppend
import Derived.Laws.IdiomCopy
import Derived.OrdersHeld
import Derived.Laws.BitsLemmas
import Derived.RowKit
import Derived.Test.YtccnidlkpinpgaaWWords
import Derived.Test.YtccnidlkpinpgaaWLast
import Derived.Test.YtccnidlkpinpgaaWTab
import Derived.Test.YtccnidlkpinpgaaWFour
import Derived.Test.YtccnidlkpinpgaaWQPut
import Derived.Test.YtccnidlkpinpgaaWApart
import Derived.Test.YtccnidlkpinpgaaWArr
import Derived.Test.YtccnidlkpinpgaaWZeros
import Derived.Test.YtccnidlkpinpgaaWFoot
import Derived.Test.YtccnidlkpinpgaaWKept
import Derived.Test.YtccnidlkpinpgaaWShare
import Derived.Test.YtccnidlkpinpgaaWN
import Derived.Test.YtccnidlkpinpgaaWFootNe
import Derived.Test.YtccnidlkpinpgaaWAt
import Derived.Test.YtccnidlkpinpgaaWEqStruct
import Derived.Test.YtccnidlkpinpgaaWRepsOne
import Derived.Test.YtccnidlkpinpgaaWInv
import Derived.Test.YtccnidlkpinpgaaWInvWords
import Derived.Test.YtccnidlkpinpgaaWGuard
import Derived.Test.YtccnidlkpinpgaaWNEv
import Derived.Test.YtccnidlkpinpgaaWMore
namespace Go.Proofs.Ytccnidlkpinpgaa.QFnExactReadRfc822
open Go.RowKit Go.Proofs.YtccnidlkpinpgaaW.PrintWords Go.Proofs.YtccnidlkpinpgaaW.PrintLast Go.Proofs.YtccnidlkpinpgaaW.PrintMore
attribute [local go_sem] max2_int min2_int max_two min_two max_three min_three max_four min_four   -- for this text's walks alone
set_option linter.unusedVariables false
set_option linter.unusedSimpArgs false



def errW : Option Int → Value
  | none => .nilIface
  | some c => .iface 0 (.int .i64 c)
theorem errW_none : errW none = .nilIface := rfl
theorem errW_some (c : Int) : errW (some c) = .iface 0 (.int .i64 c) := rfl

theorem info9 : (Try.prog.info? 9).map (fun i => (i.zero, i.size, i.bytes)) = some (some (.string ⟨#[]⟩), 1, 16) := by kernel_rfl
-- the values' own types

end Go.Proofs.Ytccnidlkpinpgaa.QFnExactReadRfc822
