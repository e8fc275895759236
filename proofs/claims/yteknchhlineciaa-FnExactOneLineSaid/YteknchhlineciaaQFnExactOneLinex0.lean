/- Printed by a program of this session's own (wip/myprint.py): the functions that FnExactOneLine reaches as plain Lean functions, and that Go's calls do what they say. Conditions: as each theorem states. -/
import Derived.Test.YteknchhlineciaaProg
import Derived.Below
import Derived.Deep.Draws
import Derived.Deep.AppendLies
import Derived.Maps.AppendAt
import Derived.OwnWalk
import Derived.Laws.BytesArg
import Derived.Laws.MakeOwn
import Derived.Laws.OwnMore
import Derived.Deep.OwnRows
import Derived.Tactics
import Derived.Lib.ConvBytes
import Derived.Laws.Slices
import Derived.WalkKit
import Derived.KernelRfl
import Derived.RowKit3
import Derived.Deep.LoopGhost
import Derived.Deep.QuietTactic
import Derived.BigQuiet
import Derived.WideLaws
import Derived.Deep.DeepCutAuto
import Derived.Deep.CutBlock
import Derived.Deep.RegionHeld3
import Derived.Laws.Rows
import Derived.Lib.AppendStr
import Derived.ArgAppend
import Derived.Laws.IdiomCopy
import Derived.OrdersHeld
import Derived.Laws.BitsLemmas
import Derived.RowKit
import Derived.BigGuard
import Derived.BigQuiet
import Derived.Deep.LoopGhost
import Derived.Deep.QuietTactic
import Derived.Laws.RangeAny
import Derived.Lib.DecodeN
import Derived.Lib.FieldsU
import Derived.Lib.OthersKept
import Derived.Shelf.Strings.FieldsFuncGrows
import Derived.Test.YteknchhlineciaaGlob
import Derived.WalkSpells
import Derived.Test.YteknchhlineciaaWWords
import Derived.Test.YteknchhlineciaaWLast
import Derived.Test.YteknchhlineciaaWTab
import Derived.Test.YteknchhlineciaaWFour
import Derived.Test.YteknchhlineciaaWQPut
import Derived.Test.YteknchhlineciaaWApart
import Derived.Test.YteknchhlineciaaWArr
import Derived.Test.YteknchhlineciaaWZeros
import Derived.Test.YteknchhlineciaaWFoot
import Derived.Test.YteknchhlineciaaWKept
import Derived.Test.YteknchhlineciaaWShare
import Derived.Test.YteknchhlineciaaWN
import Derived.Test.YteknchhlineciaaWFootNe
import Derived.Test.YteknchhlineciaaWAt
import Derived.Test.YteknchhlineciaaWEqStruct
import Derived.Test.YteknchhlineciaaWRepsOne
import Derived.Test.YteknchhlineciaaWInv
import Derived.Test.YteknchhlineciaaWInvWords
import Derived.Test.YteknchhlineciaaWGuard
import Derived.Test.YteknchhlineciaaWNEv
import Derived.Test.YteknchhlineciaaWMore
namespace Go.Proofs.Yteknchhlineciaa.QFnExactOneLine
open Go.RowKit Go.Proofs.YteknchhlineciaaW.PrintWords Go.Proofs.YteknchhlineciaaW.PrintLast Go.Proofs.YteknchhlineciaaW.PrintMore
attribute [local go_sem] max2_int min2_int max_two min_two max_three min_three max_four min_four   -- for this text's walks alone
set_option linter.unusedVariables false
set_option linter.unusedSimpArgs false



def errW : Option Int → Value
  | none => .nilIface
  | some c => .iface 0 (.int .i64 c)
theorem errW_none : errW none = .nilIface := rfl
theorem errW_some (c : Int) : errW (some c) = .iface 0 (.int .i64 c) := rfl

theorem info5 : (Try.prog.info? 5).map (fun i => (i.zero, i.size, i.bytes)) = some (some (.int .u8 0), 1, 1) := by kernel_rfl
-- the values' own types

end Go.Proofs.Yteknchhlineciaa.QFnExactOneLine
