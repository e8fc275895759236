/- Printed by a program of this session's own (wip/myprint.py): the functions that FnExactDecodeWords reaches as plain Lean functions, and that Go's calls do what they say. Conditions: as each theorem states. -/
import Derived.Test.YtebmhicdlamnbaaDoorProg
import Derived.Below
import Derived.Deep.Draws
import Derived.Deep.AppendLies
import Derived.Maps.AppendAt
import Derived.OwnWalk
import Derived.Laws.BytesArg
import Derived.Laws.MakeOwn
import Derived.Laws.OwnMore
import Derived.Deep.OwnRows
import Derived.Tactics
import Derived.Lib.ConvBytes
import Derived.Laws.Slices
import Derived.WalkKit
import Derived.KernelRfl
import Derived.RowKit3
import Derived.Deep.LoopGhost
import Derived.Deep.QuietTactic
import Derived.BigQuiet
import Derived.WideLaws
import Derived.Deep.DeepCutAuto
import Derived.Deep.CutBlock
import Derived.Deep.RegionHeld3
import Derived.Laws.Rows
import Derived.Lib.AppendStr
import Derived.ArgAppend
import Derived.Laws.IdiomCopy
import Derived.OrdersHeld
import Derived.Laws.BitsLemmas
import Derived.RowKit
import Derived.BigGuard
import Derived.BigQuiet
import Derived.Deep.CutBlock
import Derived.Deep.DeepCutAuto
import Derived.Deep.LoopGhost
import Derived.Deep.QuietTactic
import Derived.Laws.BitsAllLaws
import Derived.Laws.RangeAny
import Derived.Lib.DecodeN
import Derived.Lib.Endian
import Derived.Lib.EndianBits
import Derived.Lib.FieldsU
import Derived.Lib.OthersKept
import Derived.Lib.ValidAsc
import Derived.Shelf.Strings.MapGrows
import Derived.Shelf.Unicode.ValidAny
import Derived.Test.YtebmhicdlamnbaaDoorBld
import Derived.Test.YtebmhicdlamnbaaDoorGlob
import Derived.Test.YtebmhicdlamnbaaDoorShelf
import Derived.WalkSpells
import Derived.Test.YtebmhicdlamnbaaDoorWWords
import Derived.Test.YtebmhicdlamnbaaDoorWLast
import Derived.Test.YtebmhicdlamnbaaDoorWTab
import Derived.Test.YtebmhicdlamnbaaDoorWFour
import Derived.Test.YtebmhicdlamnbaaDoorWQPut
import Derived.Test.YtebmhicdlamnbaaDoorWApart
import Derived.Test.YtebmhicdlamnbaaDoorWArr
import Derived.Test.YtebmhicdlamnbaaDoorWZeros
import Derived.Test.YtebmhicdlamnbaaDoorWFoot
import Derived.Test.YtebmhicdlamnbaaDoorWKept
import Derived.Test.YtebmhicdlamnbaaDoorWShare
import Derived.Test.YtebmhicdlamnbaaDoorWN
import Derived.Test.YtebmhicdlamnbaaDoorWFootNe
import Derived.Test.YtebmhicdlamnbaaDoorWAt
import Derived.Test.YtebmhicdlamnbaaDoorWEqStruct
import Derived.Test.YtebmhicdlamnbaaDoorWRepsOne
import Derived.Test.YtebmhicdlamnbaaDoorWInv
import Derived.Test.YtebmhicdlamnbaaDoorWInvWords
import Derived.Test.YtebmhicdlamnbaaDoorWGuard
import Derived.Test.YtebmhicdlamnbaaDoorWNEv
import Derived.Test.YtebmhicdlamnbaaDoorWMore
namespace Go.Proofs.YtebmhicdlamnbaaDoor.QFnExactDecodeWords
open Go.RowKit Go.Proofs.YtebmhicdlamnbaaDoorW.PrintWords Go.Proofs.YtebmhicdlamnbaaDoorW.PrintLast Go.Proofs.YtebmhicdlamnbaaDoorW.PrintMore
attribute [local go_sem] max2_int min2_int max_two min_two max_three min_three max_four min_four   -- for this text's walks alone
set_option linter.unusedVariables false
set_option linter.unusedSimpArgs false



def errW : Option Int → Value
  | none => .nilIface
  | some c => .iface 0 (.int .i64 c)
theorem errW_none : errW none = .nilIface := rfl
theorem errW_some (c : Int) : errW (some c) = .iface 0 (.int .i64 c) := rfl

theorem info5 : (Tryd.prog.info? 5).map (fun i => (i.zero, i.size, i.bytes)) = some (some (.int .u8 0), 1, 1) := by kernel_rfl
theorem info9 : (Tryd.prog.info? 9).map (fun i => (i.zero, i.size, i.bytes)) = some (some (.string ⟨#[]⟩), 1, 16) := by kernel_rfl
-- the values' own types

end Go.Proofs.YtebmhicdlamnbaaDoor.QFnExactDecodeWords
