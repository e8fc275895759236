/- Printed by a program of this session's own (wip/myprint.py): the functions that FnDateTexts reaches as plain Lean functions, and that Go's calls do what they say. Conditions: as each theorem states. -/
import Derived.Test.YtccnidlkpinpgaaDoorProg
import Derived.Below
import Derived.Deep.Draws
import Derived.Deep.AppendLies
import Derived.Maps.AppendAt
import Derived.OwnWalk
import Derived.Laws.BytesArg
import Derived.Laws.MakeOwn
import Derived.Laws.OwnMore
import Derived.Deep.OwnRows
import Derived.Tactics
import Derived.Lib.ConvBytes
import Derived.Laws.Slices
import Derived.WalkKit
import Derived.KernelRfl
import Derived.RowKit3
import Derived.Deep.LoopGhost
import Derived.Deep.QuietTactic
import Derived.BigQuiet
import Derived.WideLaws
import Derived.Deep.DeepCutAuto
import Derived.Deep.CutBlock
import Derived.Deep.RegionHeld3
import Derived.Laws.Rows
import Derived.Lib.AppendStr
import Derived.ArgAppend
import Derived.Laws.IdiomCopy
import Derived.OrdersHeld
import Derived.Laws.BitsLemmas
import Derived.RowKit
import Derived.BigRegion
import Derived.ChangeAlike
import Derived.Deep.RegionHeld
import Derived.RegionTactic
import Derived.Test.YtccnidlkpinpgaaDoorGlob
import Derived.Test.YtccnidlkpinpgaaDoorWWords
import Derived.Test.YtccnidlkpinpgaaDoorWLast
import Derived.Test.YtccnidlkpinpgaaDoorWTab
import Derived.Test.YtccnidlkpinpgaaDoorWFour
import Derived.Test.YtccnidlkpinpgaaDoorWQPut
import Derived.Test.YtccnidlkpinpgaaDoorWApart
import Derived.Test.YtccnidlkpinpgaaDoorWArr
import Derived.Test.YtccnidlkpinpgaaDoorWZeros
import Derived.Test.YtccnidlkpinpgaaDoorWFoot
import Derived.Test.YtccnidlkpinpgaaDoorWKept
import Derived.Test.YtccnidlkpinpgaaDoorWShare
import Derived.Test.YtccnidlkpinpgaaDoorWN
import Derived.Test.YtccnidlkpinpgaaDoorWFootNe
import Derived.Test.YtccnidlkpinpgaaDoorWAt
import Derived.Test.YtccnidlkpinpgaaDoorWEqStruct
import Derived.Test.YtccnidlkpinpgaaDoorWRepsOne
import Derived.Test.YtccnidlkpinpgaaDoorWInv
import Derived.Test.YtccnidlkpinpgaaDoorWInvWords
import Derived.Test.YtccnidlkpinpgaaDoorWGuard
import Derived.Test.YtccnidlkpinpgaaDoorWNEv
import Derived.Test.YtccnidlkpinpgaaDoorWMore
namespace Go.Proofs.YtccnidlkpinpgaaDoor.QFnDateTexts
open Go.RowKit Go.Proofs.YtccnidlkpinpgaaDoorW.PrintWords Go.Proofs.YtccnidlkpinpgaaDoorW.PrintLast Go.Proofs.YtccnidlkpinpgaaDoorW.PrintMore
attribute [local go_sem] max2_int min2_int max_two min_two max_three min_three max_four min_four   -- for this text's walks alone
set_option linter.unusedVariables false
set_option linter.unusedSimpArgs false



def errW : Option Int → Value
  | none => .nilIface
  | some c => .iface 0 (.int .i64 c)
theorem errW_none : errW none = .nilIface := rfl
theorem errW_some (c : Int) : errW (some c) = .iface 0 (.int .i64 c) := rfl

theorem info3 : (Tryd.prog.info? 3).map (fun i => (i.zero, i.size, i.bytes)) = some (some (.int .i64 0), 1, 8) := by kernel_rfl
theorem info5 : (Tryd.prog.info? 5).map (fun i => (i.zero, i.size, i.bytes)) = some (some (.int .u8 0), 1, 1) := by kernel_rfl
theorem info9 : (Tryd.prog.info? 9).map (fun i => (i.zero, i.size, i.bytes)) = some (some (.string ⟨#[]⟩), 1, 16) := by kernel_rfl
-- the values' own types

end Go.Proofs.YtccnidlkpinpgaaDoor.QFnDateTexts
